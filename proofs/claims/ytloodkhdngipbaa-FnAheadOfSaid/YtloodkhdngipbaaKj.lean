/- EntTake, EntAhead (late stores). -/
import Derived.Test.YtloodkhdngipbaaKe
namespace Go.Proofs.YtloodkhdngipbaaT
set_option linter.unusedVariables false
set_option linter.unusedSimpArgs false
open Go

/- spec.l2Take -/
def c94 : TCode := (.seq (.ops [⟨(some 1), 3, .box 2 (.t 0), none, []⟩, ⟨(some 2), 4, .box 2 (.c (.ag [(.sl true 1 []), (.sl true 1 [])])), none, []⟩, ⟨(some 3), 5, .box 2 (.c (.ag [(.i .i64 0), (.i .i64 0)])), none, []⟩, ⟨(some 4), 6, .mv (.c (.i .i64 0)), none, []⟩])
  (.seq (.seq (.ops [⟨(some 7), 9, .faddr 1 1 (.t 1), none, []⟩, ⟨(some 8), 10, .load false 1 (.t 7), none, []⟩, ⟨(some 9), 11, .len false (.t 8), none, []⟩, ⟨(some 5), 7, .mv (.t 9), none, []⟩])
  (.seq (.ops [⟨(some 10), 12, .mv (.t 5), none, []⟩, ⟨(some 11), 13, .bin .gtr (.t 10) (.c (.i .i64 0)), none, []⟩])
  (.cond (.t 11)
  (.seq (.ops [⟨(some 12), 14, .faddr 1 1 (.t 1), none, []⟩, ⟨(some 13), 15, .load false 1 (.t 12), none, []⟩, ⟨(some 14), 16, .mv (.t 5), none, []⟩, ⟨(some 15), 17, .bin .sub (.t 14) (.c (.i .i64 1)), none, []⟩, ⟨(some 16), 18, .iaddr 1 (.t 13) (.t 15), none, []⟩, ⟨(some 17), 19, .load false 1 (.t 16), none, []⟩, ⟨(some 6), 8, .mv (.t 17), none, []⟩])
  (.seq (.ops [⟨(some 18), 20, .bslice 1 0 [(.i .i64 0)] [], none, []⟩, ⟨(some 19), 21, .faddr 1 1 (.t 1), none, []⟩, ⟨(some 20), 22, .load false 1 (.t 19), none, []⟩, ⟨(some 21), 23, .mv (.t 5), none, []⟩, ⟨(some 22), 24, .bin .sub (.t 21) (.c (.i .i64 1)), none, []⟩, ⟨(some 23), 25, .slice false 1 (.t 20) none (some (.t 22)), none, []⟩, ⟨(some 24), 26, .app 1 8 (.t 18) (.t 23), none, []⟩, ⟨(some 25), 27, .faddr 1 1 (.t 1), none, []⟩, ⟨none, 1004008, .store 1 (.t 25) (.t 24), none, []⟩])
  (.seq (.draw [⟨(some 26), 28, .load true 2 (.t 1), none, []⟩, ⟨(some 27), 29, .mv (.t 6), none, []⟩, ⟨(some 28), 30, .faddr 0 1 (.t 1), none, []⟩, ⟨(some 29), 31, .load false 1 (.t 28), none, []⟩, ⟨(some 30), 32, .mv (.t 6), none, []⟩, ⟨(some 31), 33, .iaddr 1 (.t 29) (.t 30), none, []⟩, ⟨(some 32), 34, .load false 1 (.t 31), none, []⟩, ⟨(some 33), 35, .build [(.i .i64 0), (.i .i64 0)] [(0, 1, (.t 27)), (1, 1, (.t 32))], none, []⟩, ⟨none, 1005008, .store 2 (.t 2) (.t 26), none, [1000000, 1, 2, 3, 4, 5, 6, 7]⟩, ⟨none, 1005009, .store 2 (.t 3) (.t 33), none, []⟩, ⟨(some 4), 6, .mv (.c (.i .i64 0)), none, []⟩])
  .ret)))
  .skip)))
  (.seq (.seq (.ops [⟨(some 34), 36, .faddr 0 1 (.t 1), none, []⟩, ⟨(some 35), 37, .load false 1 (.t 34), none, []⟩, ⟨(some 36), 38, .len false (.t 35), none, []⟩, ⟨(some 37), 39, .bin .geq (.t 36) (.c (.i .i64 2000)), none, []⟩])
  (.cond (.t 37)
  (.seq (.ops [⟨(some 38), 40, .load true 2 (.t 1), none, []⟩, ⟨(some 39), 41, .build [(.i .i64 0), (.i .i64 0)] [], none, []⟩, ⟨none, 1007002, .store 2 (.t 2) (.t 38), none, []⟩, ⟨none, 1007003, .store 2 (.t 3) (.t 39), none, []⟩, ⟨(some 4), 6, .mv (.c (.i .i64 3)), none, []⟩])
  .ret)
  .skip))
  (.seq (.ops [⟨(some 40), 42, .faddr 0 1 (.t 1), none, []⟩, ⟨(some 41), 43, .load false 1 (.t 40), none, []⟩, ⟨(some 42), 44, .bslice 1 1 [(.i .i64 0)] [(0, (.c (.i .i64 0)))], none, []⟩, ⟨(some 43), 45, .app 1 8 (.t 41) (.t 42), none, []⟩, ⟨(some 44), 46, .faddr 0 1 (.t 1), none, []⟩, ⟨none, 1008005, .store 1 (.t 44) (.t 43), none, []⟩])
  (.seq (.draw [⟨(some 45), 47, .load true 2 (.t 1), none, []⟩, ⟨(some 46), 48, .faddr 0 1 (.t 1), none, []⟩, ⟨(some 47), 49, .load false 1 (.t 46), none, []⟩, ⟨(some 48), 50, .len false (.t 47), none, []⟩, ⟨(some 49), 51, .bin .sub (.t 48) (.c (.i .i64 1)), none, []⟩, ⟨(some 50), 52, .build [(.i .i64 0), (.i .i64 0)] [(0, 1, (.t 49))], none, []⟩, ⟨none, 1009006, .store 2 (.t 2) (.t 45), none, [1000000, 1, 2, 3, 4, 5]⟩, ⟨none, 1009007, .store 2 (.t 3) (.t 50), none, []⟩, ⟨(some 4), 6, .mv (.c (.i .i64 0)), none, []⟩])
  .ret)))))
theorem k94 : compCode Try.prog Try.f94.ntmps Try.f94.body.get! = some c94 := by kernel_rfl
theorem r94 : resTmps Try.prog Try.f94.results.toList = some [.cell 2 true 2, .cell 3 true 2, .tmp 4] := by kernel_rfl
/- (*impl.Ents).take -/
def c91 : TCode := (.seq (.ops [⟨(some 2), 4, .box 2 (.c (.ag [(.i .i64 0), (.i .i64 0)])), none, []⟩, ⟨(some 3), 5, .mv (.c (.i .i64 0)), none, []⟩])
  (.seq (.seq (.ops [⟨(some 6), 8, .mv (.t 0), none, []⟩, ⟨(some 7), 9, .nilck (.t 6), none, []⟩, ⟨(some 8), 10, .faddr 1 1 (.t 7), none, []⟩, ⟨(some 9), 11, .load false 1 (.t 8), none, []⟩, ⟨(some 10), 12, .len false (.t 9), none, []⟩, ⟨(some 4), 6, .mv (.t 10), none, []⟩])
  (.seq (.ops [⟨(some 11), 13, .mv (.t 4), none, []⟩, ⟨(some 12), 14, .bin .gtr (.t 11) (.c (.i .i64 0)), none, []⟩])
  (.cond (.t 12)
  (.seq (.ops [⟨(some 13), 15, .mv (.t 0), none, []⟩, ⟨(some 14), 16, .nilck (.t 13), none, []⟩, ⟨(some 15), 17, .faddr 1 1 (.t 14), none, []⟩, ⟨(some 16), 18, .load false 1 (.t 15), none, []⟩, ⟨(some 17), 19, .mv (.t 4), none, []⟩, ⟨(some 18), 20, .bin .sub (.t 17) (.c (.i .i64 1)), none, []⟩, ⟨(some 19), 21, .iaddr 1 (.t 16) (.t 18), none, []⟩, ⟨(some 20), 22, .load false 1 (.t 19), none, []⟩, ⟨(some 5), 7, .mv (.t 20), none, []⟩])
  (.seq (.ops [⟨(some 21), 23, .mv (.t 0), none, []⟩, ⟨(some 22), 24, .mv (.t 0), none, []⟩, ⟨(some 23), 25, .nilck (.t 22), none, []⟩, ⟨(some 24), 26, .faddr 1 1 (.t 23), none, []⟩, ⟨(some 25), 27, .load false 1 (.t 24), none, []⟩, ⟨(some 26), 28, .mv (.t 4), none, []⟩, ⟨(some 27), 29, .bin .sub (.t 26) (.c (.i .i64 1)), none, []⟩, ⟨(some 28), 30, .slice false 1 (.t 25) none (some (.t 27)), none, []⟩, ⟨(some 29), 31, .nilck (.t 21), none, []⟩, ⟨(some 30), 32, .faddr 1 1 (.t 29), none, []⟩, ⟨none, 1004010, .store 1 (.t 30) (.t 28), none, []⟩])
  (.seq (.ops [⟨(some 31), 33, .mv (.t 5), none, []⟩, ⟨(some 32), 34, .mv (.t 0), none, []⟩, ⟨(some 33), 35, .nilck (.t 32), none, []⟩, ⟨(some 34), 36, .faddr 0 1 (.t 33), none, []⟩, ⟨(some 35), 37, .load false 1 (.t 34), none, []⟩, ⟨(some 36), 38, .mv (.t 5), none, []⟩, ⟨(some 37), 39, .iaddr 1 (.t 35) (.t 36), none, []⟩, ⟨(some 38), 40, .load false 1 (.t 37), none, []⟩, ⟨(some 39), 41, .build [(.i .i64 0), (.i .i64 0)] [(0, 1, (.t 31)), (1, 1, (.t 38))], none, []⟩, ⟨none, 1005009, .store 2 (.t 2) (.t 39), none, []⟩, ⟨(some 3), 5, .mv (.c (.i .i64 0)), none, []⟩])
  .ret)))
  .skip)))
  (.seq (.seq (.ops [⟨(some 40), 42, .mv (.t 0), none, []⟩, ⟨(some 41), 43, .nilck (.t 40), none, []⟩, ⟨(some 42), 44, .faddr 0 1 (.t 41), none, []⟩, ⟨(some 43), 45, .load false 1 (.t 42), none, []⟩, ⟨(some 44), 46, .len false (.t 43), none, []⟩, ⟨(some 45), 47, .bin .eql (.t 44) (.c (.i .i64 2000)), none, []⟩])
  (.cond (.t 45)
  (.seq (.ops [⟨(some 46), 48, .build [(.i .i64 0), (.i .i64 0)] [], none, []⟩, ⟨none, 1007001, .store 2 (.t 2) (.t 46), none, []⟩, ⟨(some 3), 5, .mv (.c (.i .i64 3)), none, []⟩])
  .ret)
  .skip))
  (.seq (.ops [⟨(some 47), 49, .mv (.t 0), none, []⟩, ⟨(some 48), 50, .mv (.t 0), none, []⟩, ⟨(some 49), 51, .nilck (.t 48), none, []⟩, ⟨(some 50), 52, .faddr 0 1 (.t 49), none, []⟩, ⟨(some 51), 53, .load false 1 (.t 50), none, []⟩, ⟨(some 52), 54, .bslice 1 1 [(.i .i64 0)] [(0, (.c (.i .i64 0)))], none, []⟩, ⟨(some 53), 55, .app 1 8 (.t 51) (.t 52), none, []⟩, ⟨(some 54), 56, .nilck (.t 47), none, []⟩, ⟨(some 55), 57, .faddr 0 1 (.t 54), none, []⟩, ⟨none, 1008009, .store 1 (.t 55) (.t 53), none, []⟩])
  (.seq (.ops [⟨(some 56), 58, .mv (.t 0), none, []⟩, ⟨(some 57), 59, .nilck (.t 56), none, []⟩, ⟨(some 58), 60, .faddr 0 1 (.t 57), none, []⟩, ⟨(some 59), 61, .load false 1 (.t 58), none, []⟩, ⟨(some 60), 62, .len false (.t 59), none, []⟩, ⟨(some 61), 63, .bin .sub (.t 60) (.c (.i .i64 1)), none, []⟩, ⟨(some 62), 64, .build [(.i .i64 0), (.i .i64 0)] [(0, 1, (.t 61))], none, []⟩, ⟨none, 1009007, .store 2 (.t 2) (.t 62), none, []⟩, ⟨(some 3), 5, .mv (.c (.i .i64 0)), none, []⟩])
  .ret)))))
theorem k91 : compCode Try.prog Try.f91.ntmps Try.f91.body.get! = some c91 := by kernel_rfl
theorem r91 : resTmps Try.prog Try.f91.results.toList = some [.cell 2 true 2, .tmp 3] := by kernel_rfl
/- spec.EntTake -/
def c41 : TCode := (.seq (.ops [⟨(some 1), 3, .box 2 (.t 0), none, []⟩, ⟨(some 2), 4, .box 2 (.c (.ag [(.sl true 1 []), (.sl true 1 [])])), none, []⟩, ⟨(some 3), 5, .box 2 (.c (.ag [(.i .i64 0), (.i .i64 0)])), none, []⟩, ⟨(some 4), 6, .mv (.c (.i .i64 0)), none, []⟩])
  (.seq (.ops [⟨(some 5), 7, .load true 2 (.t 1), none, []⟩, ⟨(some 6), 8, .call 93 [((.t 5), 0)], none, []⟩, ⟨none, 1001002, .store 2 (.t 1) (.t 6), none, []⟩])
  (.seq (.seq (.ops [⟨(some 7), 9, .load true 2 (.t 1), none, []⟩, ⟨(some 8), 10, .call 92 [((.t 7), 0)], none, []⟩, ⟨(some 9), 11, .un .not (.t 8), none, []⟩])
  (.cond (.t 9)
  (.seq (.ops [⟨(some 10), 12, .load true 2 (.t 1), none, []⟩, ⟨(some 11), 13, .build [(.i .i64 0), (.i .i64 0)] [], none, []⟩, ⟨none, 1003002, .store 2 (.t 2) (.t 10), none, []⟩, ⟨none, 1003003, .store 2 (.t 3) (.t 11), none, []⟩, ⟨(some 4), 6, .mv (.c (.i .i64 1)), none, []⟩])
  .ret)
  .skip))
  (.seq (.ops [⟨(some 12), 14, .load true 2 (.t 1), none, []⟩, ⟨(some 13), 15, .call 94 [((.t 12), 0)], none, []⟩, ⟨(some 14), 16, .ext 0 (.t 13), none, []⟩, ⟨(some 15), 17, .ext 1 (.t 13), none, []⟩, ⟨(some 16), 18, .ext 2 (.t 13), none, []⟩, ⟨none, 1004005, .store 2 (.t 2) (.t 14), none, []⟩, ⟨none, 1004006, .store 2 (.t 3) (.t 15), none, []⟩, ⟨(some 4), 6, .mv (.t 16), none, []⟩])
  .ret))))
theorem k41 : compCode Try.prog Try.f41.ntmps Try.f41.body.get! = some c41 := by kernel_rfl
theorem r41 : resTmps Try.prog Try.f41.results.toList = some [.cell 2 true 2, .cell 3 true 2, .tmp 4] := by kernel_rfl
/- impl.EntTake -/
def c39 : TCode := (.seq (.ops [⟨(some 1), 3, .box 2 (.t 0), none, []⟩, ⟨(some 2), 4, .box 2 (.c (.ag [(.sl true 1 []), (.sl true 1 [])])), none, []⟩, ⟨(some 3), 5, .box 2 (.c (.ag [(.i .i64 0), (.i .i64 0)])), none, []⟩, ⟨(some 4), 6, .mv (.c (.i .i64 0)), none, []⟩])
  (.seq (.ops [⟨(some 8), 10, .load true 2 (.t 1), none, []⟩, ⟨(some 9), 11, .call 90 [((.t 8), 0)], none, []⟩, ⟨(some 5), 7, .box 2 (.c (.ag [(.sl true 1 []), (.sl true 1 [])])), none, []⟩, ⟨none, 1001003, .store 2 (.t 5) (.t 9), none, []⟩])
  (.seq (.seq (.ops [⟨(some 10), 12, .load true 2 (.t 1), none, []⟩, ⟨(some 11), 13, .call 89 [((.t 10), 0)], none, []⟩, ⟨(some 12), 14, .un .not (.t 11), none, []⟩])
  (.cond (.t 12)
  (.seq (.ops [⟨(some 13), 15, .load true 2 (.t 5), none, []⟩, ⟨(some 14), 16, .build [(.i .i64 0), (.i .i64 0)] [], none, []⟩, ⟨none, 1003002, .store 2 (.t 2) (.t 13), none, []⟩, ⟨none, 1003003, .store 2 (.t 3) (.t 14), none, []⟩, ⟨(some 4), 6, .mv (.c (.i .i64 1)), none, []⟩])
  .ret)
  .skip))
  (.seq (.ops [⟨(some 16), 18, .call 91 [((.t 5), 0)], none, []⟩, ⟨(some 15), 17, .mv (.t 16), none, []⟩, ⟨(some 17), 19, .ext 0 (.t 15), none, []⟩, ⟨(some 18), 20, .ext 1 (.t 15), none, []⟩, ⟨(some 6), 8, .box 2 (.c (.ag [(.i .i64 0), (.i .i64 0)])), none, []⟩, ⟨none, 1004005, .store 2 (.t 6) (.t 17), none, []⟩, ⟨(some 7), 9, .mv (.t 18), none, []⟩])
  (.seq (.draw [⟨(some 19), 21, .load true 2 (.t 5), none, []⟩, ⟨(some 20), 22, .call 90 [((.t 19), 0)], none, []⟩, ⟨(some 21), 23, .load true 2 (.t 6), none, [1]⟩, ⟨(some 22), 24, .mv (.t 7), none, [1]⟩, ⟨none, 1005004, .store 2 (.t 2) (.t 20), none, [2, 3]⟩, ⟨none, 1005005, .store 2 (.t 3) (.t 21), none, [1000000, 3]⟩, ⟨(some 4), 6, .mv (.t 22), none, []⟩])
  .ret)))))
theorem k39 : compCode Try.prog Try.f39.ntmps Try.f39.body.get! = some c39 := by kernel_rfl
theorem r39 : resTmps Try.prog Try.f39.results.toList = some [.cell 2 true 2, .cell 3 true 2, .tmp 4] := by kernel_rfl

def takeP (g f : List Int) : (List Int × List Int) × (Int × Int) × Int :=
  if f = [] then (if 2000 ≤ g.length then ((g, f), (0, 0), 3) else ((g ++ [0], f), (g.length, 0), 0))
  else ((g, f.dropLast), (f.getLastD 0, g.getD (f.getLastD 0).toNat 0), 0)
theorem takeP_snoc (g f : List Int) (x y : Int) (h : g[x.toNat]? = some y) : takeP g (f ++ [x]) = ((g, f), (x, y), 0) := by
  simp [takeP, h]
theorem w94 (g f : List Int) (hg : g.length ≤ 2^40) (hf : f.length ≤ 2^40) (hx : ∀ x ∈ f, 0 ≤ x ∧ x < g.length) : Contract Try.prog false 94 [.own] [entsO g f] [entsO (takeP g f).1.1 (takeP g f).1.2, entT (takeP g f).2.1.1 (takeP g f).2.1.2, .i .i64 (takeP g f).2.2] [none, none] := by
  refine mk_contract [none, none] Try.func94 (c := Try.f94.body.get!) (by kernel_rfl) k94 r94 (of_decide_eq_true rfl) fun _ => ?_
  rcases List.eq_nil_or_concat f with rfl | ⟨f0, x, rfl⟩
  · have hw : IntKind.i64.wrap (g.length : Int) = g.length := wrap_id (by omega) (by omega)
    unfold c94; unfold entsO entT; simp
    by_cases h : 2000 ≤ g.length
    · simp [takeP, h]; omega
    · simp [takeP, h, hw]
      omega
  · simp only [List.concat_eq_append] at hf hx ⊢
    obtain ⟨h1, h2⟩ := hx x (by simp)
    obtain ⟨y, hy⟩ : ∃ y, g[x.toNat]? = some y := ⟨g[x.toNat]'(by omega), List.getElem?_eq_getElem (by omega)⟩
    rw [takeP_snoc g f0 x y hy]
    have hf' : f0.length + 1 ≤ 2^40 := by simpa using hf
    have hw : IntKind.i64.wrap (f0.length : Int) = f0.length := wrap_id (by omega) (by omega)
    by_cases h0 : f0 = []
    · have hw0 : IntKind.i64.wrap 0 = 0 := wrap_id (by omega) (by omega)
      subst h0
      unfold c94; unfold entsO entT; simp [h1, hy, offE, hw0]
      omega
    · have hO : offE 0 f0.length = 0 := by simp [offE, h0]
      have hT : (List.map iT f0 ++ [[TV.i .i64 x]]).take f0.length = List.map iT f0 := by simp
      unfold c94; unfold entsO entT; simp [hw, h1, hy, hO, hT]
      omega
theorem w91 (g f : List Int) (hg : g.length ≤ 2000) (hf : f.length ≤ 2^40) (hx : ∀ x ∈ f, 0 ≤ x ∧ x < g.length) : Contract Try.prog false 91 [.own] [.po true [.sl true 1 (g.map iT), .sl true 1 (f.map iT)]] [entT (takeP g f).2.1.1 (takeP g f).2.1.2, .i .i64 (takeP g f).2.2] [some (.po true [.sl true 1 ((takeP g f).1.1.map iT), .sl true 1 ((takeP g f).1.2.map iT)])] := by
  refine mk_contract [some [(1, 0)]] Try.func91 (c := Try.f91.body.get!) (by kernel_rfl) k91 r91 (of_decide_eq_true rfl) fun _ => ?_
  rcases List.eq_nil_or_concat f with rfl | ⟨f0, x, rfl⟩
  · have hw : IntKind.i64.wrap (g.length : Int) = g.length := wrap_id (by omega) (by omega)
    unfold c91; unfold entT; simp
    by_cases h : 2000 ≤ g.length
    · have h' : g.length = 2000 := by omega
      simp [takeP, h, h']
    · have h' : ¬ ((g.length : Int) = 2000) := by omega
      simp [takeP, h, h', hw]
      omega
  · simp only [List.concat_eq_append] at hf hx ⊢
    obtain ⟨h1, h2⟩ := hx x (by simp)
    obtain ⟨y, hy⟩ : ∃ y, g[x.toNat]? = some y := ⟨g[x.toNat]'(by omega), List.getElem?_eq_getElem (by omega)⟩
    rw [takeP_snoc g f0 x y hy]
    have hf' : f0.length + 1 ≤ 2^40 := by simpa using hf
    have hw : IntKind.i64.wrap (f0.length : Int) = f0.length := wrap_id (by omega) (by omega)
    by_cases h0 : f0 = []
    · have hw0 : IntKind.i64.wrap 0 = 0 := wrap_id (by omega) (by omega)
      subst h0
      unfold c91; unfold entT; simp [h1, hy, offE, hw0]
      omega
    · have hO : offE 0 f0.length = 0 := by simp [offE, h0]
      have hT : (List.map iT f0 ++ [[TV.i .i64 x]]).take f0.length = List.map iT f0 := by simp
      unfold c91; unfold entT; simp [hw, h1, hy, hO, hT]
      omega
theorem freeOk_mem {n : Nat} {f : List Int} (h : freeOk n f) : ∀ x ∈ f, 0 ≤ x ∧ x < n := by
  exact h.1
theorem takeP_ok {g f : List Int} (h : EntsOkP g f) : (takeP g f).1.1.length ≤ g.length + 1 ∧ (takeP g f).1.2.length ≤ f.length ∧ (takeP g f).1.1.length ≤ 2000 := by
  unfold takeP
  have := h.2.2
  split
  · split <;> simp <;> omega
  · simp; omega
def takeF (g f : List Int) : (List Int × List Int) × (Int × Int) × Int := if EntsOkP g f then takeP g f else ((g, f), (0, 0), 1)
theorem w41 (g f : List Int) (hg : g.length ≤ 2^40) (hf : f.length ≤ 2^39) : Contract Try.prog false 41 [.ro] [entsR g f] [entsO (takeF g f).1.1 (takeF g f).1.2, entT (takeF g f).2.1.1 (takeF g f).2.1.2, .i .i64 (takeF g f).2.2] [] := by
  refine mk_contract [] Try.func41 (c := Try.f41.body.get!) (by kernel_rfl) k41 r41 (of_decide_eq_true rfl) fun _ => ?_
  unfold c41; unfold entsR; simp
  refine callW_ms [.ro] ?_
  simp
  refine callX_of (w93 g f hg (by omega)) (by simp) ?_
  simp [entsO]
  refine callW_ms [.ro] ?_
  simp
  refine callX_of (w92 g f hg (by omega)) (by simp) ?_
  simp
  refine ⟨fun hE => ?_, fun hE => ?_⟩
  · refine callW_ms [.own] ?_
    simp [entsO]
    refine callX_of (w94 g f hg (by omega) (freeOk_mem hE.2.1)) (by simp) ?_
    simp [takeF, hE, entsO, entT]
  · simp [takeF, hE, entsO, entT]
theorem w39 (g f : List Int) (hg : g.length ≤ 2^40) (hf : f.length ≤ 2^39) : Contract Try.prog false 39 [.ro] [entsR g f] [entsO (takeF g f).1.1 (takeF g f).1.2, entT (takeF g f).2.1.1 (takeF g f).2.1.2, .i .i64 (takeF g f).2.2] [] := by
  refine mk_contract [] Try.func39 (c := Try.f39.body.get!) (by kernel_rfl) k39 r39 (of_decide_eq_true rfl) fun _ => ?_
  unfold c39; unfold entsR; simp
  refine callW_ms [.ro] ?_
  simp
  refine callX_of (w90 g f hg (by omega)) (by simp) ?_
  simp [entsO]
  refine callW_ms [.ro] ?_
  simp
  refine callX_of (w89 g f hg (by omega)) (by simp) ?_
  simp
  refine ⟨fun hE => ?_, fun hE => ?_⟩
  · obtain ⟨l1, l2, l3⟩ := takeP_ok hE
    refine callW_ms [.own] ?_
    simp
    refine callX_of (w91 g f hE.2.2 (by omega) (freeOk_mem hE.2.1)) (by simp) ?_
    simp [entT]
    refine callW_ms [.ro] ?_
    simp [entsR]
    refine callX_of (w90 (takeP g f).1.1 (takeP g f).1.2 (by omega) (by omega)) (by simp) ?_
    simp [takeF, hE, entsO, entT]
  · simp [takeF, hE, entsO, entT]
theorem takeF_len (g f : List Int) : (takeF g f).1.1.length ≤ g.length + 1 ∧ (takeF g f).1.2.length ≤ f.length := by
  unfold takeF; split
  · rename_i h; exact ⟨(takeP_ok h).1, (takeP_ok h).2.1⟩
  · simp
end Go.Proofs.YtloodkhdngipbaaT
