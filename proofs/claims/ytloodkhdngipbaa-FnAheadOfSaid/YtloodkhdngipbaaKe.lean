/- EntGive: parts. -/
import Derived.Test.YtloodkhdngipbaaKd
namespace Go.Proofs.YtloodkhdngipbaaT
set_option linter.unusedVariables false
set_option linter.unusedSimpArgs false
open Go

/- spec.l2Copy -/
def c93 : TCode := (.seq (.ops [⟨(some 1), 3, .box 2 (.t 0), none, []⟩, ⟨(some 2), 4, .box 2 (.c (.ag [(.sl true 1 []), (.sl true 1 [])])), none, []⟩])
  (.seq (.draw [⟨(some 3), 5, .bslice 1 0 [(.i .i64 0)] [], none, []⟩, ⟨(some 4), 6, .faddr 0 1 (.t 1), none, [0]⟩, ⟨(some 5), 7, .load false 1 (.t 4), none, [0]⟩, ⟨(some 6), 8, .app 1 8 (.t 3) (.t 5), none, []⟩, ⟨(some 7), 9, .bslice 1 0 [(.i .i64 0)] [], none, [0, 1, 2, 3]⟩, ⟨(some 8), 10, .faddr 1 1 (.t 1), none, [0, 3, 4]⟩, ⟨(some 9), 11, .load false 1 (.t 8), none, [0, 3, 4]⟩, ⟨(some 10), 12, .app 1 8 (.t 7) (.t 9), none, []⟩, ⟨(some 11), 13, .build [(.sl true 1 []), (.sl true 1 [])] [(0, 1, (.t 6)), (1, 1, (.t 10))], none, []⟩, ⟨none, 1001009, .store 2 (.t 2) (.t 11), none, []⟩])
  .ret))
theorem k93 : compCode Try.prog Try.f93.ntmps Try.f93.body.get! = some c93 := by kernel_rfl
theorem r93 : resTmps Try.prog Try.f93.results.toList = some [.cell 2 true 2] := by kernel_rfl
/- impl.copyEnts -/
def c90 : TCode := (.seq (.ops [⟨(some 1), 3, .box 2 (.t 0), none, []⟩, ⟨(some 2), 4, .box 2 (.c (.ag [(.sl true 1 []), (.sl true 1 [])])), none, []⟩])
  (.seq (.draw [⟨(some 3), 5, .faddr 0 1 (.t 1), none, []⟩, ⟨(some 4), 6, .load false 1 (.t 3), none, []⟩, ⟨(some 5), 7, .call 137 [((.t 4), 0)], none, []⟩, ⟨(some 6), 8, .faddr 1 1 (.t 1), none, [2]⟩, ⟨(some 7), 9, .load false 1 (.t 6), none, [2]⟩, ⟨(some 8), 10, .call 137 [((.t 7), 0)], none, []⟩, ⟨(some 9), 11, .build [(.sl true 1 []), (.sl true 1 [])] [(0, 1, (.t 5)), (1, 1, (.t 8))], none, []⟩, ⟨none, 1001007, .store 2 (.t 2) (.t 9), none, []⟩])
  .ret))
theorem k90 : compCode Try.prog Try.f90.ntmps Try.f90.body.get! = some c90 := by kernel_rfl
theorem r90 : resTmps Try.prog Try.f90.results.toList = some [.cell 2 true 2] := by kernel_rfl
/- spec.l2Give -/
def c158 : TCode := (.seq (.ops [⟨(some 2), 4, .box 2 (.t 0), none, []⟩, ⟨(some 3), 5, .box 2 (.t 1), none, []⟩, ⟨(some 4), 6, .box 2 (.c (.ag [(.sl true 1 []), (.sl true 1 [])])), none, []⟩])
  (.seq (.ops [⟨(some 5), 7, .faddr 0 1 (.t 2), none, []⟩, ⟨(some 6), 8, .load false 1 (.t 5), none, []⟩, ⟨(some 7), 9, .faddr 0 1 (.t 3), none, []⟩, ⟨(some 8), 10, .load false 1 (.t 7), none, []⟩, ⟨(some 9), 11, .faddr 1 1 (.t 3), none, []⟩, ⟨(some 10), 12, .load false 1 (.t 9), none, []⟩, ⟨(some 11), 13, .bin .add (.t 10) (.c (.i .i64 1)), none, []⟩, ⟨(some 12), 14, .iaddr 1 (.t 6) (.t 8), none, []⟩, ⟨none, 1001008, .store 1 (.t 12) (.t 11), none, []⟩])
  (.seq (.seq (.ops [⟨(some 13), 15, .faddr 1 1 (.t 3), none, []⟩, ⟨(some 14), 16, .load false 1 (.t 13), none, []⟩, ⟨(some 15), 17, .bin .geq (.t 14) (.c (.i .i64 1000000)), none, []⟩])
  (.cond (.t 15)
  (.ops [⟨(some 16), 18, .faddr 0 1 (.t 2), none, []⟩, ⟨(some 17), 19, .load false 1 (.t 16), none, []⟩, ⟨(some 18), 20, .faddr 0 1 (.t 3), none, []⟩, ⟨(some 19), 21, .load false 1 (.t 18), none, []⟩, ⟨(some 20), 22, .iaddr 1 (.t 17) (.t 19), none, []⟩, ⟨none, 1003005, .store 1 (.t 20) (.c (.i .i64 0)), none, []⟩])
  .skip))
  (.seq (.ops [⟨(some 21), 23, .faddr 1 1 (.t 2), none, []⟩, ⟨(some 22), 24, .load false 1 (.t 21), none, []⟩, ⟨(some 23), 25, .faddr 0 1 (.t 3), none, []⟩, ⟨(some 24), 26, .load false 1 (.t 23), none, []⟩, ⟨(some 25), 27, .bslice 1 1 [(.i .i64 0)] [(0, (.t 24))], none, []⟩, ⟨(some 26), 28, .app 1 8 (.t 22) (.t 25), none, []⟩, ⟨(some 27), 29, .faddr 1 1 (.t 2), none, []⟩, ⟨none, 1004007, .store 1 (.t 27) (.t 26), none, []⟩])
  (.seq (.ops [⟨(some 28), 30, .load true 2 (.t 2), none, []⟩, ⟨none, 1005001, .store 2 (.t 4) (.t 28), none, []⟩])
  .ret)))))
theorem k158 : compCode Try.prog Try.f158.ntmps Try.f158.body.get! = some c158 := by kernel_rfl
theorem r158 : resTmps Try.prog Try.f158.results.toList = some [.cell 4 true 2] := by kernel_rfl
/- (*impl.Ents).give -/
def c96 : TCode := (.seq (.ops [⟨(some 3), 5, .box 2 (.t 1), none, []⟩])
  (.seq (.draw [⟨(some 4), 6, .mv (.t 0), none, []⟩, ⟨(some 5), 7, .nilck (.t 4), none, []⟩, ⟨(some 6), 8, .faddr 0 1 (.t 5), none, []⟩, ⟨(some 7), 9, .load false 1 (.t 6), none, []⟩, ⟨(some 8), 10, .faddr 0 1 (.t 3), none, []⟩, ⟨(some 9), 11, .load false 1 (.t 8), none, []⟩, ⟨(some 10), 12, .iaddr 1 (.t 7) (.t 9), none, []⟩, ⟨(some 11), 13, .load false 1 (.t 10), none, []⟩, ⟨(some 12), 14, .bin .add (.t 11) (.c (.i .i64 1)), none, []⟩, ⟨(some 13), 15, .iaddr 1 (.t 7) (.t 9), none, []⟩, ⟨none, 1001010, .store 1 (.t 13) (.t 12), none, []⟩])
  (.seq (.seq (.draw [⟨(some 14), 16, .mv (.t 0), none, []⟩, ⟨(some 15), 17, .nilck (.t 14), none, []⟩, ⟨(some 16), 18, .faddr 0 1 (.t 15), none, []⟩, ⟨(some 17), 19, .load false 1 (.t 16), none, []⟩, ⟨(some 18), 20, .faddr 0 1 (.t 3), none, []⟩, ⟨(some 19), 21, .load false 1 (.t 18), none, []⟩, ⟨(some 20), 22, .iaddr 1 (.t 17) (.t 19), none, []⟩, ⟨(some 21), 23, .load false 1 (.t 20), none, []⟩, ⟨(some 22), 24, .bin .gtr (.t 21) (.c (.i .i64 1000000)), none, []⟩])
  (.cond (.t 22)
  (.draw [⟨(some 23), 25, .mv (.t 0), none, []⟩, ⟨(some 24), 26, .nilck (.t 23), none, []⟩, ⟨(some 25), 27, .faddr 0 1 (.t 24), none, []⟩, ⟨(some 26), 28, .load false 1 (.t 25), none, []⟩, ⟨(some 27), 29, .faddr 0 1 (.t 3), none, []⟩, ⟨(some 28), 30, .load false 1 (.t 27), none, []⟩, ⟨(some 29), 31, .iaddr 1 (.t 26) (.t 28), none, []⟩, ⟨none, 1003007, .store 1 (.t 29) (.c (.i .i64 0)), none, []⟩])
  .skip))
  (.draw [⟨(some 30), 32, .mv (.t 0), none, []⟩, ⟨(some 31), 33, .mv (.t 0), none, []⟩, ⟨(some 32), 34, .nilck (.t 31), none, []⟩, ⟨(some 33), 35, .faddr 1 1 (.t 32), none, []⟩, ⟨(some 34), 36, .load false 1 (.t 33), none, []⟩, ⟨(some 35), 37, .faddr 0 1 (.t 3), none, []⟩, ⟨(some 36), 38, .load false 1 (.t 35), none, []⟩, ⟨(some 37), 39, .bslice 1 1 [(.i .i64 0)] [(0, (.t 36))], none, [0, 1, 2, 3, 4]⟩, ⟨(some 38), 40, .app 1 8 (.t 34) (.t 37), none, [0]⟩, ⟨(some 39), 41, .nilck (.t 30), none, []⟩, ⟨(some 40), 42, .faddr 1 1 (.t 39), none, []⟩, ⟨none, 1004011, .store 1 (.t 40) (.t 38), none, []⟩]))))
theorem k96 : compCode Try.prog Try.f96.ntmps Try.f96.body.get! = some c96 := by kernel_rfl
theorem r96 : resTmps Try.prog Try.f96.results.toList = some [] := by kernel_rfl
/- impl.EntGive -/
def c43 : TCode := (.seq (.ops [⟨(some 2), 4, .box 2 (.t 0), none, []⟩, ⟨(some 3), 5, .box 2 (.t 1), none, []⟩, ⟨(some 4), 6, .box 2 (.c (.ag [(.sl true 1 []), (.sl true 1 [])])), none, []⟩, ⟨(some 5), 7, .mv (.c (.i .i64 0)), none, []⟩])
  (.seq (.ops [⟨(some 7), 9, .load true 2 (.t 2), none, []⟩, ⟨(some 8), 10, .call 90 [((.t 7), 0)], none, []⟩, ⟨(some 6), 8, .box 2 (.c (.ag [(.sl true 1 []), (.sl true 1 [])])), none, []⟩, ⟨none, 1001003, .store 2 (.t 6) (.t 8), none, []⟩])
  (.seq (.block 0 (.seq (.ops [⟨(some 10), 12, .load true 2 (.t 2), none, []⟩, ⟨(some 11), 13, .call 89 [((.t 10), 0)], none, []⟩, ⟨(some 12), 14, .un .not (.t 11), none, []⟩, ⟨(some 9), 11, .mv (.t 12), none, []⟩])
  (.cond (.t 9)
  (.seq (.ops [⟨(some 13), 15, .load true 2 (.t 6), none, []⟩, ⟨none, 1003001, .store 2 (.t 4) (.t 13), none, []⟩, ⟨(some 5), 7, .mv (.c (.i .i64 1)), none, []⟩])
  .ret)
  (.seq (.ops [⟨(some 15), 17, .load true 2 (.t 3), none, []⟩, ⟨(some 16), 18, .call 95 [((.t 2), 0), ((.t 15), 0)], none, []⟩, ⟨(some 17), 19, .un .not (.t 16), none, []⟩, ⟨(some 14), 16, .mv (.t 17), none, []⟩])
  (.cond (.t 14)
  (.seq (.ops [⟨(some 18), 20, .load true 2 (.t 6), none, []⟩, ⟨none, 1005001, .store 2 (.t 4) (.t 18), none, []⟩, ⟨(some 5), 7, .mv (.c (.i .i64 2)), none, []⟩])
  .ret)
  .skip)))))
  (.seq (.ops [⟨(some 19), 21, .load true 2 (.t 3), none, []⟩, ⟨(some 20), 22, .call 96 [((.t 6), 0), ((.t 19), 0)], none, []⟩])
  (.seq (.ops [⟨(some 21), 23, .load true 2 (.t 6), none, []⟩, ⟨none, 1007001, .store 2 (.t 4) (.t 21), none, []⟩, ⟨(some 5), 7, .mv (.c (.i .i64 0)), none, []⟩])
  .ret)))))
theorem k43 : compCode Try.prog Try.f43.ntmps Try.f43.body.get! = some c43 := by kernel_rfl
theorem r43 : resTmps Try.prog Try.f43.results.toList = some [.cell 4 true 2, .tmp 5] := by kernel_rfl

theorem w93 (g f : List Int) (hg : g.length ≤ 2^40) (hf : f.length ≤ 2^40) : Contract Try.prog false 93 [.ro] [entsR g f] [entsO g f] [] := by
  refine mk_contract [] Try.func93 (c := Try.f93.body.get!) (by kernel_rfl) k93 r93 (of_decide_eq_true rfl) fun _ => ?_
  unfold c93 entsR entsO; simp
  omega
theorem w90 (g f : List Int) (hg : g.length ≤ 2^40) (hf : f.length ≤ 2^40) : Contract Try.prog false 90 [.ro] [entsR g f] [entsO g f] [] := by
  refine mk_contract [] Try.func90 (c := Try.f90.body.get!) (by kernel_rfl) k90 r90 (of_decide_eq_true rfl) fun _ => ?_
  unfold c90 entsR entsO; simp
  refine callW_ms [.ro] ?_
  simp
  refine callX_of (w137 g hg) (by simp) ?_
  simp
  refine callW_ms [.ro] ?_
  simp
  refine callX_of (w137 f hf) (by simp) ?_
  simp

def giveG (g : List Int) (x y : Int) : List Int := g.set x.toNat (if 1000000 ≤ y then 0 else y + 1)
@[simp] theorem giveG_len (g : List Int) (x y : Int) : (giveG g x y).length = g.length := by simp [giveG]
theorem w158 (g f : List Int) (x y : Int) (hf : f.length ≤ 2^40) (hx0 : 0 ≤ x) (hxg : g[x.toNat]? = some y) (hy : 0 ≤ y ∧ y ≤ 1000000) : Contract Try.prog false 158 [.own, .ro] [entsO g f, entT x y] [entsO (giveG g x y) (f ++ [x])] [none, none] := by
  refine mk_contract [none, none] Try.func158 (c := Try.f158.body.get!) (by kernel_rfl) k158 r158 (of_decide_eq_true rfl) fun _ => ?_
  have hlt := (List.getElem?_eq_some_iff.1 hxg).1
  have hw : IntKind.i64.wrap (y + 1) = y + 1 := wrap_id (by omega) (by omega)
  have hs : ∀ e, ((g.map iT).set x.toNat e)[x.toNat]? = some e := fun e => by simp [hlt]
  unfold c158; unfold entsO entT; simp [hw, hx0, hxg, hs]
  refine ⟨by omega, fun hge => ?_, fun hlt2 => ?_⟩
  · simp [giveG, hge]; omega
  · simp [giveG, show ¬ 1000000 ≤ y by omega]; omega
theorem w96 (g f : List Int) (x y : Int) (hf : f.length ≤ 2^40) (hx0 : 0 ≤ x) (hxg : g[x.toNat]? = some y) (hy : 0 ≤ y ∧ y ≤ 1000000) : Contract Try.prog false 96 [.own, .ro] [.po true [.sl true 1 (g.map iT), .sl true 1 (f.map iT)], entT x y] [] [some (.po true [.sl true 1 ((giveG g x y).map iT), .sl true 1 ((f ++ [x]).map iT)])] := by
  refine mk_contract [some [(1, 0)]] Try.func96 (c := Try.f96.body.get!) (by kernel_rfl) k96 r96 (of_decide_eq_true rfl) fun _ => ?_
  have hlt := (List.getElem?_eq_some_iff.1 hxg).1
  have hw : IntKind.i64.wrap (y + 1) = y + 1 := wrap_id (by omega) (by omega)
  have hs : ∀ e, ((g.map iT).set x.toNat e)[x.toNat]? = some e := fun e => by simp [hlt]
  unfold c96; unfold entT; simp [hw, hx0, hxg, hs]
  refine ⟨by omega, fun hge => ?_, fun hlt2 => ?_⟩
  · simp [giveG, show 1000000 ≤ y by omega]; omega
  · simp [giveG, show ¬ 1000000 ≤ y by omega]; omega
def giveP (g f : List Int) (x y : Int) : List Int × List Int × Int :=
  if EntsOkP g f then (if liveP g f x y then (giveG g x y, f ++ [x], 0) else (g, f, 2)) else (g, f, 1)
theorem w43 (g f : List Int) (x y : Int) (hg : g.length ≤ 2^40) (hf : f.length ≤ 2^39) : Contract Try.prog false 43 [.ro, .ro] [entsR g f, entT x y] [entsO (giveP g f x y).1 (giveP g f x y).2.1, .i .i64 (giveP g f x y).2.2] [] := by
  refine mk_contract [] Try.func43 (c := Try.f43.body.get!) (by kernel_rfl) k43 r43 (of_decide_eq_true rfl) fun _ => ?_
  unfold c43; unfold entsR entT; simp
  refine callW_ms [.ro] ?_
  simp
  refine callX_of (w90 g f hg (by omega)) (by simp) ?_
  simp [entsO]
  refine callW_ms [.ro] ?_
  simp
  refine callX_of (w89 g f hg (by omega)) (by simp) ?_
  simp
  refine ⟨fun hE => ?_, fun hE => ?_⟩
  · refine callW_ms [.ro, .ro] ?_
    simp
    refine callX_of (w95 g f x y hg (by omega)) (by simp) ?_
    simp
    refine ⟨fun hl => ?_, fun hl => ?_⟩
    · have hxy := hE.1 y (List.mem_of_getElem? hl.2.1)
      refine callW_ms [.own, .ro] ?_
      simp
      refine callX_of (w96 g f x y (by omega) hl.1.1 hl.2.1 hxy) (by simp) ?_
      simp [giveP, hE, hl, entsO]
    · simp [giveP, hE, hl, entsO]
  · simp [giveP, hE, entsO]
theorem giveP_len (g f : List Int) (x y : Int) : (giveP g f x y).1.length = g.length ∧ (giveP g f x y).2.1.length ≤ f.length + 1 := by
  unfold giveP; split
  · split <;> simp
  · simp
end Go.Proofs.YtloodkhdngipbaaT
