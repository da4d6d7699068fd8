/- A thing of an Ents: whether it is live. -/
import Derived.Test.YtlddgmpaaobpoaaKc
namespace Go.Proofs.YtlddgmpaaobpoaaT
set_option linter.unusedVariables false
set_option linter.unusedSimpArgs false
open Go

/- laws.toEnt -/
def c25 : TCode := (.seq (.ops [⟨(some 1), 3, .box 2 (.t 0), none, []⟩, ⟨(some 2), 4, .box 2 (.c (.ag [(.i .i64 0), (.i .i64 0)])), none, []⟩])
  (.seq (.ops [⟨(some 3), 5, .box 2 (.c (.ag [(.i .i64 0), (.i .i64 0)])), none, []⟩])
  (.seq (.ops [⟨(some 4), 6, .faddr 0 1 (.t 1), none, []⟩, ⟨(some 5), 7, .load false 1 (.t 4), none, []⟩, ⟨(some 6), 8, .faddr 0 1 (.t 3), none, []⟩, ⟨none, 1002003, .store 1 (.t 6) (.t 5), none, []⟩])
  (.seq (.ops [⟨(some 7), 9, .faddr 1 1 (.t 1), none, []⟩, ⟨(some 8), 10, .load false 1 (.t 7), none, []⟩, ⟨(some 9), 11, .faddr 1 1 (.t 3), none, []⟩, ⟨none, 1003003, .store 1 (.t 9) (.t 8), none, []⟩])
  (.seq (.ops [⟨(some 10), 12, .load true 2 (.t 3), none, []⟩, ⟨none, 1004001, .store 2 (.t 2) (.t 10), none, []⟩])
  .ret)))))
theorem k25 : compCode Try.prog Try.f25.ntmps Try.f25.body.get! = some c25 := by kernel_rfl
theorem r25 : resTmps Try.prog Try.f25.results.toList = some [.cell 2 true 2] := by kernel_rfl
/- laws.eqEnt -/
def c29 : TCode := (.seq (.ops [⟨(some 2), 4, .box 2 (.t 0), none, []⟩, ⟨(some 3), 5, .box 2 (.t 1), none, []⟩, ⟨(some 4), 6, .mv (.c (.b false)), none, []⟩])
  (.seq (.seq (.ops [⟨(some 5), 7, .faddr 0 1 (.t 2), none, []⟩, ⟨(some 6), 8, .load false 1 (.t 5), none, []⟩, ⟨(some 7), 9, .faddr 0 1 (.t 3), none, []⟩, ⟨(some 8), 10, .load false 1 (.t 7), none, []⟩, ⟨(some 9), 11, .bin .neq (.t 6) (.t 8), none, []⟩])
  (.cond (.t 9)
  (.seq (.ops [⟨(some 4), 6, .mv (.c (.b false)), none, []⟩])
  .ret)
  .skip))
  (.seq (.seq (.ops [⟨(some 10), 12, .faddr 1 1 (.t 2), none, []⟩, ⟨(some 11), 13, .load false 1 (.t 10), none, []⟩, ⟨(some 12), 14, .faddr 1 1 (.t 3), none, []⟩, ⟨(some 13), 15, .load false 1 (.t 12), none, []⟩, ⟨(some 14), 16, .bin .neq (.t 11) (.t 13), none, []⟩])
  (.cond (.t 14)
  (.seq (.ops [⟨(some 4), 6, .mv (.c (.b false)), none, []⟩])
  .ret)
  .skip))
  (.seq (.ops [⟨(some 4), 6, .mv (.c (.b true)), none, []⟩])
  .ret))))
theorem k29 : compCode Try.prog Try.f29.ntmps Try.f29.body.get! = some c29 := by kernel_rfl
theorem r29 : resTmps Try.prog Try.f29.results.toList = some [.tmp 4] := by kernel_rfl
/- slices.Index[[]int,int] -/
def c86 : TCode := (.seq (.ops [⟨(some 4), 6, .mv (.c (.i .i64 0)), none, []⟩])
  (.seq (.seq (.ops [⟨(some 6), 8, .mv (.t 0), none, []⟩, ⟨(some 7), 9, .len false (.t 6), none, []⟩, ⟨(some 8), 10, .mv (.c (.i .i64 0)), none, []⟩])
  (.block 0 (.loop (.seq (.ops [⟨(some 9), 11, .bin .lss (.t 8) (.t 7), none, []⟩])
  (.seq (.cond (.t 9)
  .skip
  (.exit 0))
  (.seq (.block 1 (.seq (.ops [⟨(some 10), 12, .mv (.t 8), none, []⟩, ⟨(some 5), 7, .mv (.t 10), none, []⟩])
  (.seq (.ops [⟨(some 11), 13, .mv (.t 1), none, []⟩, ⟨(some 12), 14, .mv (.t 0), none, []⟩, ⟨(some 13), 15, .mv (.t 5), none, []⟩, ⟨(some 14), 16, .iaddr 1 (.t 12) (.t 13), none, []⟩, ⟨(some 15), 17, .load false 1 (.t 14), none, []⟩, ⟨(some 16), 18, .bin .eql (.t 11) (.t 15), none, []⟩])
  (.cond (.t 16)
  (.seq (.ops [⟨(some 17), 19, .mv (.t 5), none, []⟩, ⟨(some 4), 6, .mv (.t 17), none, []⟩])
  .ret)
  .skip))))
  (.ops [⟨(some 18), 20, .bin .add (.t 8) (.c (.i .i64 1)), none, []⟩, ⟨(some 8), 10, .mv (.t 18), none, []⟩])))))))
  (.seq (.ops [⟨(some 4), 6, .mv (.c (.i .i64 (-1))), none, []⟩])
  .ret)))
theorem k86 : compCode Try.prog Try.f86.ntmps Try.f86.body.get! = some c86 := by kernel_rfl
theorem r86 : resTmps Try.prog Try.f86.results.toList = some [.tmp 4] := by kernel_rfl
/- slices.Contains[[]int,int] -/
def c77 : TCode := (.seq (.ops [⟨(some 4), 6, .mv (.c (.b false)), none, []⟩])
  (.seq (.ops [⟨(some 5), 7, .mv (.t 0), none, []⟩, ⟨(some 6), 8, .mv (.t 1), none, []⟩, ⟨(some 7), 9, .call 86 [((.t 5), 0), ((.t 6), 0)], none, []⟩, ⟨(some 8), 10, .bin .geq (.t 7) (.c (.i .i64 0)), none, []⟩, ⟨(some 4), 6, .mv (.t 8), none, []⟩])
  .ret))
theorem k77 : compCode Try.prog Try.f77.ntmps Try.f77.body.get! = some c77 := by kernel_rfl
theorem r77 : resTmps Try.prog Try.f77.results.toList = some [.tmp 4] := by kernel_rfl
/- spec.l2Live -/
def c59 : TCode := (.seq (.ops [⟨(some 2), 4, .box 2 (.t 0), none, []⟩, ⟨(some 3), 5, .box 2 (.t 1), none, []⟩, ⟨(some 4), 6, .mv (.c (.b false)), none, []⟩])
  (.seq (.seq (.draw [⟨(some 6), 8, .faddr 0 1 (.t 3), none, []⟩, ⟨(some 7), 9, .load false 1 (.t 6), none, []⟩, ⟨(some 8), 10, .faddr 0 1 (.t 2), none, []⟩, ⟨(some 9), 11, .load false 1 (.t 8), none, []⟩, ⟨(some 10), 12, .len false (.t 9), none, []⟩, ⟨(some 11), 13, .bin .sub (.t 10) (.c (.i .i64 1)), none, []⟩, ⟨(some 12), 14, .call 51 [((.t 7), 0), ((.c (.i .i64 0)), 0), ((.t 11), 0)], none, []⟩, ⟨(some 13), 15, .un .not (.t 12), none, []⟩, ⟨(some 14), 16, .mv (.t 13), none, []⟩, ⟨(some 15), 17, .faddr 0 1 (.t 2), (some (14, false)), []⟩, ⟨(some 16), 18, .load false 1 (.t 15), (some (14, false)), []⟩, ⟨(some 17), 19, .faddr 0 1 (.t 3), (some (14, false)), []⟩, ⟨(some 18), 20, .load false 1 (.t 17), (some (14, false)), []⟩, ⟨(some 19), 21, .iaddr 1 (.t 16) (.t 18), (some (14, false)), []⟩, ⟨(some 20), 22, .load false 1 (.t 19), (some (14, false)), []⟩, ⟨(some 21), 23, .faddr 1 1 (.t 3), (some (14, false)), []⟩, ⟨(some 22), 24, .load false 1 (.t 21), (some (14, false)), []⟩, ⟨(some 23), 25, .bin .neq (.t 20) (.t 22), (some (14, false)), []⟩, ⟨(some 24), 26, .pick (.t 14) (.c (.b true)) (.t 23), none, []⟩])
  (.cond (.t 24)
  (.seq (.ops [⟨(some 4), 6, .mv (.c (.b false)), none, []⟩])
  .ret)
  .skip))
  (.seq (.seq (.ops [⟨(some 5), 7, .mv (.c (.i .i64 0)), none, []⟩])
  (.block 0 (.loop (.seq (.seq (.ops [⟨(some 25), 27, .mv (.t 5), none, []⟩, ⟨(some 26), 28, .faddr 1 1 (.t 2), none, []⟩, ⟨(some 27), 29, .load false 1 (.t 26), none, []⟩, ⟨(some 28), 30, .len false (.t 27), none, []⟩, ⟨(some 29), 31, .bin .lss (.t 25) (.t 28), none, []⟩])
  (.cond (.t 29)
  .skip
  (.exit 0)))
  (.seq (.block 1 (.seq (.draw [⟨(some 32), 34, .faddr 1 1 (.t 2), none, []⟩, ⟨(some 33), 35, .load false 1 (.t 32), none, []⟩, ⟨(some 34), 36, .mv (.t 5), none, []⟩, ⟨(some 35), 37, .iaddr 1 (.t 33) (.t 34), none, []⟩, ⟨(some 36), 38, .load false 1 (.t 35), none, []⟩, ⟨(some 37), 39, .faddr 0 1 (.t 3), none, []⟩, ⟨(some 38), 40, .load false 1 (.t 37), none, []⟩, ⟨(some 39), 41, .bin .eql (.t 36) (.t 38), none, []⟩])
  (.cond (.t 39)
  (.seq (.ops [⟨(some 4), 6, .mv (.c (.b false)), none, []⟩])
  .ret)
  .skip)))
  (.ops [⟨(some 30), 32, .mv (.t 5), none, []⟩, ⟨(some 31), 33, .bin .add (.t 30) (.c (.i .i64 1)), none, []⟩, ⟨(some 5), 7, .mv (.t 31), none, []⟩]))))))
  (.seq (.ops [⟨(some 4), 6, .mv (.c (.b true)), none, []⟩])
  .ret))))
theorem k59 : compCode Try.prog Try.f59.ntmps Try.f59.body.get! = some c59 := by kernel_rfl
theorem r59 : resTmps Try.prog Try.f59.results.toList = some [.tmp 4] := by kernel_rfl
/- (*impl.Ents).isLive -/
def c60 : TCode := (.seq (.ops [⟨(some 3), 5, .box 2 (.t 1), none, []⟩, ⟨(some 4), 6, .mv (.c (.b false)), none, []⟩])
  (.seq (.draw [⟨(some 5), 7, .faddr 0 1 (.t 3), none, []⟩, ⟨(some 6), 8, .load false 1 (.t 5), none, []⟩, ⟨(some 7), 9, .mv (.t 0), none, []⟩, ⟨(some 8), 10, .nilck (.t 7), none, []⟩, ⟨(some 9), 11, .faddr 0 1 (.t 8), none, []⟩, ⟨(some 10), 12, .load false 1 (.t 9), none, []⟩, ⟨(some 11), 13, .len false (.t 10), none, []⟩, ⟨(some 12), 14, .bin .sub (.t 11) (.c (.i .i64 1)), none, []⟩, ⟨(some 13), 15, .call 54 [((.t 6), 0), ((.c (.i .i64 0)), 0), ((.t 12), 0)], none, []⟩, ⟨(some 14), 16, .mv (.t 13), none, []⟩, ⟨(some 15), 17, .mv (.t 0), (some (14, true)), []⟩, ⟨(some 16), 18, .nilck (.t 15), (some (14, true)), []⟩, ⟨(some 17), 19, .faddr 0 1 (.t 16), (some (14, true)), []⟩, ⟨(some 18), 20, .load false 1 (.t 17), (some (14, true)), []⟩, ⟨(some 19), 21, .faddr 0 1 (.t 3), (some (14, true)), []⟩, ⟨(some 20), 22, .load false 1 (.t 19), (some (14, true)), []⟩, ⟨(some 21), 23, .iaddr 1 (.t 18) (.t 20), (some (14, true)), []⟩, ⟨(some 22), 24, .load false 1 (.t 21), (some (14, true)), []⟩, ⟨(some 23), 25, .faddr 1 1 (.t 3), (some (14, true)), []⟩, ⟨(some 24), 26, .load false 1 (.t 23), (some (14, true)), []⟩, ⟨(some 25), 27, .bin .eql (.t 22) (.t 24), (some (14, true)), []⟩, ⟨(some 26), 28, .pick (.t 14) (.t 25) (.c (.b false)), none, []⟩, ⟨(some 27), 29, .mv (.t 26), none, []⟩, ⟨(some 28), 30, .mv (.t 0), (some (27, true)), []⟩, ⟨(some 29), 31, .nilck (.t 28), (some (27, true)), []⟩, ⟨(some 30), 32, .faddr 1 1 (.t 29), (some (27, true)), []⟩, ⟨(some 31), 33, .load false 1 (.t 30), (some (27, true)), []⟩, ⟨(some 32), 34, .faddr 0 1 (.t 3), (some (27, true)), []⟩, ⟨(some 33), 35, .load false 1 (.t 32), (some (27, true)), []⟩, ⟨(some 34), 36, .call 77 [((.t 31), 0), ((.t 33), 0)], (some (27, true)), []⟩, ⟨(some 35), 37, .un .not (.t 34), (some (27, true)), []⟩, ⟨(some 36), 38, .pick (.t 27) (.t 35) (.c (.b false)), none, []⟩, ⟨(some 4), 6, .mv (.t 36), none, []⟩])
  .ret))
theorem k60 : compCode Try.prog Try.f60.ntmps Try.f60.body.get! = some c60 := by kernel_rfl
theorem r60 : resTmps Try.prog Try.f60.results.toList = some [.tmp 4] := by kernel_rfl
/- spec.EntLive -/
def c24 : TCode := (.seq (.ops [⟨(some 2), 4, .box 2 (.t 0), none, []⟩, ⟨(some 3), 5, .box 2 (.t 1), none, []⟩, ⟨(some 4), 6, .mv (.c (.b false)), none, []⟩])
  (.seq (.ops [⟨(some 5), 7, .load true 2 (.t 2), none, []⟩, ⟨(some 6), 8, .call 20 [((.t 5), 0)], none, []⟩, ⟨(some 7), 9, .mv (.t 6), none, []⟩, ⟨(some 8), 10, .load true 2 (.t 2), (some (7, true)), []⟩, ⟨(some 9), 11, .load true 2 (.t 3), (some (7, true)), []⟩, ⟨(some 10), 12, .call 59 [((.t 8), 0), ((.t 9), 0)], (some (7, true)), []⟩, ⟨(some 11), 13, .pick (.t 7) (.t 10) (.c (.b false)), none, []⟩, ⟨(some 4), 6, .mv (.t 11), none, []⟩])
  .ret))
theorem k24 : compCode Try.prog Try.f24.ntmps Try.f24.body.get! = some c24 := by kernel_rfl
theorem r24 : resTmps Try.prog Try.f24.results.toList = some [.tmp 4] := by kernel_rfl
/- impl.EntLive -/
def c26 : TCode := (.seq (.ops [⟨(some 2), 4, .box 2 (.t 0), none, []⟩, ⟨(some 3), 5, .box 2 (.t 1), none, []⟩, ⟨(some 4), 6, .mv (.c (.b false)), none, []⟩])
  (.seq (.ops [⟨(some 5), 7, .load true 2 (.t 2), none, []⟩, ⟨(some 6), 8, .call 22 [((.t 5), 0)], none, []⟩, ⟨(some 7), 9, .mv (.t 6), none, []⟩, ⟨(some 8), 10, .load true 2 (.t 3), (some (7, true)), []⟩, ⟨(some 9), 11, .call 60 [((.t 2), 0), ((.t 8), 0)], (some (7, true)), []⟩, ⟨(some 10), 12, .pick (.t 7) (.t 9) (.c (.b false)), none, []⟩, ⟨(some 4), 6, .mv (.t 10), none, []⟩])
  .ret))
theorem k26 : compCode Try.prog Try.f26.ntmps Try.f26.body.get! = some c26 := by kernel_rfl
theorem r26 : resTmps Try.prog Try.f26.results.toList = some [.tmp 4] := by kernel_rfl
/- laws.FnExactEntLive -/
def c7 : TCode := (.seq (.ops [⟨(some 2), 4, .box 2 (.t 0), none, []⟩, ⟨(some 3), 5, .box 2 (.t 1), none, []⟩, ⟨(some 4), 6, .mv (.c (.b false)), none, []⟩])
  (.seq (.ops [⟨(some 5), 7, .mv (.c (.i .i64 1048576)), none, []⟩])
  (.seq (.ops [⟨(some 9), 11, .load true 2 (.t 2), none, []⟩, ⟨(some 10), 12, .mv (.t 5), none, []⟩, ⟨(some 11), 13, .call 19 [((.t 9), 0), ((.t 10), 0)], none, []⟩, ⟨(some 5), 7, .mv (.t 11), none, []⟩])
  (.seq (.seq (.ops [⟨(some 12), 14, .mv (.t 5), none, []⟩, ⟨(some 13), 15, .bin .lss (.t 12) (.c (.i .i64 0)), none, []⟩])
  (.cond (.t 13)
  (.seq (.ops [⟨(some 4), 6, .mv (.c (.b true)), none, []⟩])
  .ret)
  .skip))
  (.seq (.draw [⟨(some 14), 16, .load true 2 (.t 2), none, []⟩, ⟨(some 15), 17, .call 21 [((.t 14), 0)], none, []⟩, ⟨(some 16), 18, .load true 2 (.t 3), none, [1]⟩, ⟨(some 17), 19, .call 25 [((.t 16), 0)], none, []⟩, ⟨(some 18), 20, .call 24 [((.t 15), 0), ((.t 17), 0)], none, []⟩, ⟨(some 6), 8, .mv (.t 18), none, []⟩])
  (.seq (.ops [⟨(some 19), 21, .load true 2 (.t 2), none, []⟩, ⟨(some 20), 22, .call 21 [((.t 19), 0)], none, []⟩, ⟨(some 7), 9, .box 2 (.c (.ag [(.sl true 1 []), (.sl true 1 [])])), none, []⟩, ⟨none, 1006003, .store 2 (.t 7) (.t 20), none, []⟩])
  (.seq (.draw [⟨(some 21), 23, .load true 2 (.t 7), none, []⟩, ⟨(some 22), 24, .load true 2 (.t 3), none, []⟩, ⟨(some 23), 25, .call 25 [((.t 22), 0)], none, [0]⟩, ⟨(some 24), 26, .call 26 [((.t 21), 0), ((.t 23), 0)], none, []⟩, ⟨(some 8), 10, .mv (.t 24), none, []⟩])
  (.seq (.seq (.ops [⟨(some 25), 27, .mv (.t 8), none, []⟩, ⟨(some 26), 28, .mv (.t 6), none, []⟩, ⟨(some 27), 29, .eqs true false [.b] (.t 25) (.t 26), none, []⟩])
  (.cond (.t 27)
  (.seq (.ops [⟨(some 4), 6, .mv (.c (.b false)), none, []⟩])
  .ret)
  .skip))
  (.seq (.seq (.draw [⟨(some 28), 30, .load true 2 (.t 7), none, []⟩, ⟨(some 29), 31, .load true 2 (.t 2), none, []⟩, ⟨(some 30), 32, .call 21 [((.t 29), 0)], none, [0]⟩, ⟨(some 31), 33, .call 23 [((.t 28), 0), ((.t 30), 0)], none, []⟩, ⟨(some 32), 34, .un .not (.t 31), none, []⟩])
  (.cond (.t 32)
  (.seq (.ops [⟨(some 4), 6, .mv (.c (.b false)), none, []⟩])
  .ret)
  .skip))
  (.seq (.ops [⟨(some 4), 6, .mv (.c (.b true)), none, []⟩])
  .ret))))))))))
theorem k7 : compCode Try.prog Try.f7.ntmps Try.f7.body.get! = some c7 := by kernel_rfl
theorem r7 : resTmps Try.prog Try.f7.results.toList = some [.tmp 4] := by kernel_rfl

def entT (x y : Int) : TV := .ag [.i .i64 x, .i .i64 y]
theorem w25 (x y : Int) : Contract Try.prog false 25 [.ro] [entT x y] [entT x y] [] := by
  refine mk_contract [] Try.func25 (c := Try.f25.body.get!) (by kernel_rfl) k25 r25 (of_decide_eq_true rfl) fun _ => ?_
  unfold c25 entT; simp
theorem w29 (x y x' y' : Int) : Contract Try.prog false 29 [.ro, .ro] [entT x y, entT x' y'] [.b (decide (x = x' ∧ y = y'))] [] := by
  refine mk_contract [] Try.func29 (c := Try.f29.body.get!) (by kernel_rfl) k29 r29 (of_decide_eq_true rfl) fun _ => ?_
  unfold c29 entT; simp
  refine ⟨fun h => ⟨fun h2 => ⟨h, h2⟩, fun h2 _ => h2⟩, fun h h2 => absurd h2 h⟩

/-- The place of the first x, or -1. -/
def idxF (l : List Int) (x : Int) : Int := if x ∈ l then (l.idxOf x : Int) else -1
theorem idxF_at {l : List Int} {x : Int} {j : Nat} (h : l[j]? = some x) (hn : x ∉ l.take j) : idxF l x = j := by
  have hm := List.mem_of_getElem? h
  have hj := (List.getElem?_eq_some_iff.1 h).1
  have hl : l = l.take j ++ x :: l.drop (j + 1) := by
    have := (List.getElem?_eq_some_iff.1 h).2
    rw [← this, ← List.drop_eq_getElem_cons hj, List.take_append_drop]
  unfold idxF
  rw [if_pos hm]
  have : l.idxOf x = j := by
    rw [hl, List.idxOf_append, if_neg hn]
    simp [Nat.min_eq_left (Nat.le_of_lt hj)]
  rw [this]
theorem idxF_ge (l : List Int) (x : Int) : 0 ≤ idxF l x ↔ x ∈ l := by
  unfold idxF; split
  · rename_i h; exact ⟨fun _ => h, fun _ => by omega⟩
  · rename_i h; exact ⟨fun h2 => by omega, fun h2 => absurd h2 h⟩
theorem w86 (l : List Int) (x : Int) (hl : l.length ≤ 2^40) : Contract Try.prog false 86 [.ro, .ro] [.sl false 1 (l.map iT), .i .i64 x] [.i .i64 (idxF l x)] [] := by
  refine mk_contract [] Try.func86 (c := Try.f86.body.get!) (by kernel_rfl) k86 r86 (of_decide_eq_true rfl) fun _ => ?_
  unfold c86; simp
  refine twp_for l.length (fun j s => s.t 0 = .sl false 1 (l.map iT) ∧ s.t 1 = .i .i64 x ∧ s.t 7 = .i .i64 l.length ∧ s.t 8 = .i .i64 j ∧ x ∉ l.take j ∧ s.H = lk [(1, [])]) [] (by simp) ?_ ?_
  · simp
  · rintro j s hj ⟨q0, q1, q7, q8, hn, qH⟩
    rw [nf_of qH]
    simp [q0, q1, q7, q8]
    refine ⟨fun hlt => ?_, fun hge => ?_⟩
    · have hw : IntKind.i64.wrap (j + 1) = j + 1 := wrap_id (by omega) (by omega)
      obtain ⟨y, hy⟩ := get_some hlt
      simp [hy, hw, q0, q1, q7, q8]
      refine ⟨fun hxy => ?_, fun hxy => ⟨hlt, ?_⟩⟩
      · subst hxy; exact (idxF_at hy hn).symm
      · rw [take_snoc hy]; simp; exact ⟨hn, hxy⟩
    · obtain rfl : j = l.length := by omega
      rw [List.take_of_length_le (Nat.le_refl _)] at hn
      simp [idxF, hn]
theorem w77 (l : List Int) (x : Int) (hl : l.length ≤ 2^40) : Contract Try.prog false 77 [.ro, .ro] [.sl false 1 (l.map iT), .i .i64 x] [.b (decide (x ∈ l))] [] := by
  refine mk_contract [] Try.func77 (c := Try.f77.body.get!) (by kernel_rfl) k77 r77 (of_decide_eq_true rfl) fun _ => ?_
  unfold c77; simp
  refine callW_ms [.ro, .ro] ?_
  simp
  refine callX_of (w86 l x hl) (by simp) ?_
  simp [idxF_ge]

/-- Live: a place of its own, of the gen that stands there, not free. -/
def liveP (g f : List Int) (x y : Int) : Prop := (0 ≤ x ∧ x ≤ (g.length : Int) - 1) ∧ g[x.toNat]? = some y ∧ x ∉ f
instance (g f : List Int) (x y : Int) : Decidable (liveP g f x y) := by unfold liveP; infer_instance
theorem w60 (g f : List Int) (x y : Int) (hg : g.length ≤ 2^40) (hf : f.length ≤ 2^40) : Contract Try.prog false 60 [.ro, .ro] [.po false [.sl false 1 (g.map iT), .sl false 1 (f.map iT)], entT x y] [.b (decide (liveP g f x y))] [] := by
  refine mk_contract [] Try.func60 (c := Try.f60.body.get!) (by kernel_rfl) k60 r60 (of_decide_eq_true rfl) fun _ => ?_
  have hw2 : IntKind.i64.wrap (g.length - 1) = g.length - 1 := wrap_id (by omega) (by omega)
  unfold c60 entT; simp [hw2]
  refine callW_ms [.ro, .ro, .ro] ?_
  simp
  by_cases hr : 0 ≤ x ∧ x ≤ (g.length : Int) - 1
  · refine callX_of ((w54 _ _ _).t hr) (by simp) ?_
    obtain ⟨z, hz⟩ := get_some (l := g) (j := x.toNat) (by omega)
    simp [hr.1, hz]
    by_cases hzy : z = y
    · subst hzy
      simp
      refine callW_ms [.ro, .ro] ?_
      simp
      refine callX_of (w77 f x hf) (by simp) ?_
      simp [liveP, hr, hz]
    · have : ¬ liveP g f x y := fun h => by have := h.2.1; rw [hz] at this; cases this; exact hzy rfl
      simp [hzy, this]
  · refine callX_of ((w54 _ _ _).f hr) (by simp) ?_
    have : ¬ liveP g f x y := fun h => hr h.1
    simp [this]
theorem w59 (g f : List Int) (x y : Int) (hg : g.length ≤ 2^40) (hf : f.length ≤ 2^40) : Contract Try.prog false 59 [.ro, .ro] [entsR g f, entT x y] [.b (decide (liveP g f x y))] [] := by
  refine mk_contract [] Try.func59 (c := Try.f59.body.get!) (by kernel_rfl) k59 r59 (of_decide_eq_true rfl) fun _ => ?_
  have hw2 : IntKind.i64.wrap (g.length - 1) = g.length - 1 := wrap_id (by omega) (by omega)
  unfold c59 entT entsR; simp [hw2]
  refine callW_ms [.ro, .ro, .ro] ?_
  simp
  by_cases hr : 0 ≤ x ∧ x ≤ (g.length : Int) - 1
  · refine callX_of ((w51 _ _ _).t hr) (by simp) ?_
    obtain ⟨z, hz⟩ := get_some (l := g) (j := x.toNat) (by omega)
    by_cases hzy : z = y
    · subst hzy
      simp [hr.1, hz]
      refine twp_for f.length (fun j s => s.t 2 = .pt [(4, 0)] 0 0 ∧ s.t 3 = .pt [(5, 0)] 0 0 ∧ s.t 5 = .i .i64 j ∧ x ∉ f.take j ∧
        s.H = lk [(1, []), (4, [.po true [.sl false 1 (g.map iT), .sl false 1 (f.map iT)]]), (5, [.po true [.i .i64 x, .i .i64 z]])]) [] (by simp) ?_ ?_
      · simp
      · rintro j s hj ⟨q2, q3, q5, hn, qH⟩
        rw [nf_of qH]
        simp [q2, q3, q5]
        refine ⟨fun hlt => ?_, fun hge => ?_⟩
        · have hw : IntKind.i64.wrap (j + 1) = j + 1 := wrap_id (by omega) (by omega)
          obtain ⟨u, hu⟩ := get_some hlt
          simp [hu, hw, q2, q3, q5]
          refine ⟨fun hux => ?_, fun hux => ⟨hlt, ?_⟩⟩
          · subst hux
            intro h; exact h.2.2 (List.mem_of_getElem? hu)
          · rw [take_snoc hu]; simp; exact ⟨hn, fun h => hux h.symm⟩
        · obtain rfl : j = f.length := by omega
          rw [List.take_of_length_le (Nat.le_refl _)] at hn
          exact ⟨hr, hz, hn⟩
    · have : ¬ liveP g f x y := fun h => by have := h.2.1; rw [hz] at this; cases this; exact hzy rfl
      simp [hr.1, hz, hzy, this]
  · refine callX_of ((w51 _ _ _).f hr) (by simp) ?_
    have : ¬ liveP g f x y := fun h => hr h.1
    simp [this]

theorem w24 (g f : List Int) (x y : Int) (hg : g.length ≤ 2^40) (hf : f.length ≤ 2^40) : Contract Try.prog false 24 [.ro, .ro] [entsR g f, entT x y] [.b (decide (EntsOkP g f ∧ liveP g f x y))] [] := by
  refine mk_contract [] Try.func24 (c := Try.f24.body.get!) (by kernel_rfl) k24 r24 (of_decide_eq_true rfl) fun _ => ?_
  unfold c24 entT entsR; simp
  refine callW_ms [.ro] ?_
  simp
  refine callX_of (w20 g f hg hf) (by simp) ?_
  simp
  by_cases hE : EntsOkP g f
  · simp [hE]
    refine callW_ms [.ro, .ro] ?_
    simp
    refine callX_of (w59 g f x y hg hf) (by simp) ?_
    simp
  · simp [hE]
theorem w26 (g f : List Int) (x y : Int) (hg : g.length ≤ 2^40) (hf : f.length ≤ 2^40) : Contract Try.prog false 26 [.ro, .ro] [entsR g f, entT x y] [.b (decide (EntsOkP g f ∧ liveP g f x y))] [] := by
  refine mk_contract [] Try.func26 (c := Try.f26.body.get!) (by kernel_rfl) k26 r26 (of_decide_eq_true rfl) fun _ => ?_
  unfold c26 entT entsR; simp
  refine callW_ms [.ro] ?_
  simp
  refine callX_of (w22 g f hg hf) (by simp) ?_
  simp
  by_cases hE : EntsOkP g f
  · simp [hE]
    refine callW_ms [.ro, .ro] ?_
    simp [fz, fzL]
    refine callX_of (w60 g f x y hg hf) (by simp) ?_
    simp
  · simp [hE]

theorem w7 (g f : List Int) (x y : Int) (hg : g.length < 2^63) (hf : f.length < 2^63) : Contract Try.prog false 7 [.ro, .ro] [entsR g f, entT x y] [.b true] [] := by
  refine mk_contract [] Try.func7 (c := Try.f7.body.get!) (by kernel_rfl) k7 r7 (of_decide_eq_true rfl) fun _ => ?_
  unfold c7 entsR entT; simp
  refine callW_ms [.ro, .ro] ?_
  simp
  refine callX_of (w19 g f _ hg hf (by omega) (by omega)) (by simp) ?_
  simp
  intro h
  obtain ⟨hg2, hf2⟩ := szEntsF_len (by omega : ¬ szEntsF g f 1048576 < 0)
  refine callW_ms [.ro] ?_
  simp
  refine callX_of (w21 g f (by omega) (by omega)) (by simp) ?_
  simp [entsO]
  refine callW_ms [.ro] ?_
  simp
  refine callX_of (w25 x y) (by simp) ?_
  simp [entT]
  refine callW_ms [.ro, .ro] ?_
  simp
  refine callX_of (w24 g f x y (by omega) (by omega)) (by simp) ?_
  simp
  refine callW_ms [.ro] ?_
  simp
  refine callX_of (w21 g f (by omega) (by omega)) (by simp) ?_
  simp [entsO]
  refine callW_ms [.ro] ?_
  simp
  refine callX_of (w25 x y) (by simp) ?_
  simp [entT]
  refine callW_ms [.ro, .ro] ?_
  simp
  refine callX_of (w26 g f x y (by omega) (by omega)) (by simp) ?_
  simp
  refine callW_ms [.ro] ?_
  simp
  refine callX_of (w21 g f (by omega) (by omega)) (by simp) ?_
  simp [entsO]
  refine callW_ms [.ro, .ro] ?_
  simp
  refine callX_of (w23 g f g f (by omega) (by omega) (by omega) (by omega)) (by simp) ?_
  simp
end Go.Proofs.YtlddgmpaaobpoaaT
