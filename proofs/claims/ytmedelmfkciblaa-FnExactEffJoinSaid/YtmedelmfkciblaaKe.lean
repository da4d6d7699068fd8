/- EntGive: parts. -/
import Derived.Test.YtmedelmfkciblaaKd
namespace Go.Proofs.YtmedelmfkciblaaT
set_option linter.unusedVariables false
set_option linter.unusedSimpArgs false
open Go

/- spec.l2Copy -/
def c214 : TCode := (.seq (.ops [⟨(some 1), 3, .box 2 (.t 0), none, []⟩, ⟨(some 2), 4, .box 2 (.c (.ag [(.sl true 1 []), (.sl true 1 [])])), none, []⟩])
  (.seq (.draw [⟨(some 3), 5, .bslice 1 0 [(.i .i64 0)] [], none, []⟩, ⟨(some 4), 6, .faddr 0 1 (.t 1), none, [0]⟩, ⟨(some 5), 7, .load false 1 (.t 4), none, [0]⟩, ⟨(some 6), 8, .app 1 8 (.t 3) (.t 5), none, []⟩, ⟨(some 7), 9, .bslice 1 0 [(.i .i64 0)] [], none, [0, 1, 2, 3]⟩, ⟨(some 8), 10, .faddr 1 1 (.t 1), none, [0, 3, 4]⟩, ⟨(some 9), 11, .load false 1 (.t 8), none, [0, 3, 4]⟩, ⟨(some 10), 12, .app 1 8 (.t 7) (.t 9), none, []⟩, ⟨(some 11), 13, .build [(.sl true 1 []), (.sl true 1 [])] [(0, 1, (.t 6)), (1, 1, (.t 10))], none, []⟩, ⟨none, 1001009, .store 2 (.t 2) (.t 11), none, []⟩])
  .ret))
theorem k214 : compCode Try.prog Try.f214.ntmps Try.f214.body.get! = some c214 := by kernel_rfl
theorem r214 : resTmps Try.prog Try.f214.results.toList = some [.cell 2 true 2] := by kernel_rfl
/- spec.l2Give -/
def c221 : TCode := (.seq (.ops [⟨(some 2), 4, .box 2 (.t 0), none, []⟩, ⟨(some 3), 5, .box 2 (.t 1), none, []⟩, ⟨(some 4), 6, .box 2 (.c (.ag [(.sl true 1 []), (.sl true 1 [])])), none, []⟩])
  (.seq (.ops [⟨(some 5), 7, .faddr 0 1 (.t 2), none, []⟩, ⟨(some 6), 8, .load false 1 (.t 5), none, []⟩, ⟨(some 7), 9, .faddr 0 1 (.t 3), none, []⟩, ⟨(some 8), 10, .load false 1 (.t 7), none, []⟩, ⟨(some 9), 11, .faddr 1 1 (.t 3), none, []⟩, ⟨(some 10), 12, .load false 1 (.t 9), none, []⟩, ⟨(some 11), 13, .bin .add (.t 10) (.c (.i .i64 1)), none, []⟩, ⟨(some 12), 14, .iaddr 1 (.t 6) (.t 8), none, []⟩, ⟨none, 1001008, .store 1 (.t 12) (.t 11), none, []⟩])
  (.seq (.seq (.ops [⟨(some 13), 15, .faddr 1 1 (.t 3), none, []⟩, ⟨(some 14), 16, .load false 1 (.t 13), none, []⟩, ⟨(some 15), 17, .bin .geq (.t 14) (.c (.i .i64 1000000)), none, []⟩])
  (.cond (.t 15)
  (.ops [⟨(some 16), 18, .faddr 0 1 (.t 2), none, []⟩, ⟨(some 17), 19, .load false 1 (.t 16), none, []⟩, ⟨(some 18), 20, .faddr 0 1 (.t 3), none, []⟩, ⟨(some 19), 21, .load false 1 (.t 18), none, []⟩, ⟨(some 20), 22, .iaddr 1 (.t 17) (.t 19), none, []⟩, ⟨none, 1003005, .store 1 (.t 20) (.c (.i .i64 0)), none, []⟩])
  .skip))
  (.seq (.ops [⟨(some 21), 23, .faddr 1 1 (.t 2), none, []⟩, ⟨(some 22), 24, .load false 1 (.t 21), none, []⟩, ⟨(some 23), 25, .faddr 0 1 (.t 3), none, []⟩, ⟨(some 24), 26, .load false 1 (.t 23), none, []⟩, ⟨(some 25), 27, .bslice 1 1 [(.i .i64 0)] [(0, (.t 24))], none, []⟩, ⟨(some 26), 28, .app 1 8 (.t 22) (.t 25), none, []⟩, ⟨(some 27), 29, .faddr 1 1 (.t 2), none, []⟩, ⟨none, 1004007, .store 1 (.t 27) (.t 26), none, []⟩])
  (.seq (.ops [⟨(some 28), 30, .load true 2 (.t 2), none, []⟩, ⟨none, 1005001, .store 2 (.t 4) (.t 28), none, []⟩])
  .ret)))))
theorem k221 : compCode Try.prog Try.f221.ntmps Try.f221.body.get! = some c221 := by kernel_rfl
theorem r221 : resTmps Try.prog Try.f221.results.toList = some [.cell 4 true 2] := by kernel_rfl
/- laws.markEnts -/
def c111 : TCode := (.seq (.ops [⟨(some 2), 4, .box 2 (.t 0), none, []⟩, ⟨(some 4), 6, .mv (.c (.i .i64 0)), none, []⟩])
  (.seq (.ops [⟨(some 5), 7, .faddr 0 1 (.t 2), none, []⟩, ⟨(some 6), 8, .load false 1 (.t 5), none, []⟩, ⟨(some 7), 9, .mv (.t 1), none, []⟩, ⟨(some 8), 10, .call 34 [((.t 6), 0), ((.t 7), 0)], none, []⟩, ⟨(some 1), 3, .mv (.t 8), none, []⟩])
  (.seq (.ops [⟨(some 9), 11, .faddr 1 1 (.t 2), none, []⟩, ⟨(some 10), 12, .load false 1 (.t 9), none, []⟩, ⟨(some 11), 13, .mv (.t 1), none, []⟩, ⟨(some 12), 14, .call 34 [((.t 10), 0), ((.t 11), 0)], none, []⟩, ⟨(some 1), 3, .mv (.t 12), none, []⟩])
  (.seq (.ops [⟨(some 13), 15, .mv (.t 1), none, []⟩, ⟨(some 4), 6, .mv (.t 13), none, []⟩])
  .ret))))
theorem k111 : compCode Try.prog Try.f111.ntmps Try.f111.body.get! = some c111 := by kernel_rfl
theorem r111 : resTmps Try.prog Try.f111.results.toList = some [.tmp 4] := by kernel_rfl
/- laws.heldEnts -/
def c127 : TCode := (.seq (.ops [⟨(some 2), 4, .box 2 (.t 0), none, []⟩, ⟨(some 4), 6, .mv (.c (.i .i64 0)), none, []⟩])
  (.seq (.ops [⟨(some 5), 7, .faddr 0 1 (.t 2), none, []⟩, ⟨(some 6), 8, .load false 1 (.t 5), none, []⟩, ⟨(some 7), 9, .mv (.t 1), none, []⟩, ⟨(some 8), 10, .call 35 [((.t 6), 0), ((.t 7), 0)], none, []⟩, ⟨(some 1), 3, .mv (.t 8), none, []⟩])
  (.seq (.seq (.ops [⟨(some 9), 11, .mv (.t 1), none, []⟩, ⟨(some 10), 12, .bin .lss (.t 9) (.c (.i .i64 0)), none, []⟩])
  (.cond (.t 10)
  (.seq (.ops [⟨(some 4), 6, .mv (.c (.i .i64 (-1))), none, []⟩])
  .ret)
  .skip))
  (.seq (.ops [⟨(some 11), 13, .faddr 1 1 (.t 2), none, []⟩, ⟨(some 12), 14, .load false 1 (.t 11), none, []⟩, ⟨(some 13), 15, .mv (.t 1), none, []⟩, ⟨(some 14), 16, .call 35 [((.t 12), 0), ((.t 13), 0)], none, []⟩, ⟨(some 1), 3, .mv (.t 14), none, []⟩])
  (.seq (.seq (.ops [⟨(some 15), 17, .mv (.t 1), none, []⟩, ⟨(some 16), 18, .bin .lss (.t 15) (.c (.i .i64 0)), none, []⟩])
  (.cond (.t 16)
  (.seq (.ops [⟨(some 4), 6, .mv (.c (.i .i64 (-1))), none, []⟩])
  .ret)
  .skip))
  (.seq (.ops [⟨(some 17), 19, .mv (.t 1), none, []⟩, ⟨(some 4), 6, .mv (.t 17), none, []⟩])
  .ret))))))
theorem k127 : compCode Try.prog Try.f127.ntmps Try.f127.body.get! = some c127 := by kernel_rfl
theorem r127 : resTmps Try.prog Try.f127.results.toList = some [.tmp 4] := by kernel_rfl

theorem w214 (g f : List Int) (hg : g.length ≤ 2^40) (hf : f.length ≤ 2^40) : Contract Try.prog false 214 [.ro] [entsR g f] [entsO g f] [] := by
  refine mk_contract [] Try.func214 (c := Try.f214.body.get!) (by kernel_rfl) k214 r214 (of_decide_eq_true rfl) fun _ => ?_
  unfold c214 entsR entsO; simp
  omega
def giveG (g : List Int) (x y : Int) : List Int := g.set x.toNat (if 1000000 ≤ y then 0 else y + 1)
@[simp] theorem giveG_len (g : List Int) (x y : Int) : (giveG g x y).length = g.length := by simp [giveG]
theorem w221 (g f : List Int) (x y : Int) (hf : f.length ≤ 2^40) (hx0 : 0 ≤ x) (hxg : g[x.toNat]? = some y) (hy : 0 ≤ y ∧ y ≤ 1000000) : Contract Try.prog false 221 [.own, .ro] [entsO g f, entT x y] [entsO (giveG g x y) (f ++ [x])] [none, none] := by
  refine mk_contract [none, none] Try.func221 (c := Try.f221.body.get!) (by kernel_rfl) k221 r221 (of_decide_eq_true rfl) fun _ => ?_
  have hlt := (List.getElem?_eq_some_iff.1 hxg).1
  have hw : IntKind.i64.wrap (y + 1) = y + 1 := wrap_id (by omega) (by omega)
  have hs : ∀ e, ((g.map iT).set x.toNat e)[x.toNat]? = some e := fun e => by simp [hlt]
  unfold c221; unfold entsO entT; simp [hw, hx0, hxg, hs]
  refine ⟨by omega, fun hge => ?_, fun hlt2 => ?_⟩
  · simp [giveG, hge]; omega
  · simp [giveG, show ¬ 1000000 ≤ y by omega]; omega
theorem w111 (g f : List Int) (k : Int) (hg : g.length ≤ 2^30) (hf : f.length ≤ 2^30) (hk : 0 ≤ k) (hk2 : k ≤ 2^39) : Contract Try.prog false 111 [.own, .ro] [entsO g f, .i .i64 k] [.i .i64 (k + g.length + f.length)] [some (.sl true 1 ((cnt k g.length).map iT)), some (.sl true 1 ((cnt (k + g.length) f.length).map iT))] := by
  refine mk_contract [some [(4, 0), (0, 0)], some [(4, 0), (0, 1)]] Try.func111 (c := Try.f111.body.get!) (by kernel_rfl) k111 r111 (of_decide_eq_true rfl) fun _ => ?_
  unfold c111; unfold entsO; simp
  refine callW_ms [.own, .ro] ?_
  simp
  refine callX_of (w34 g k (by omega) (by omega) (by omega)) (by simp) ?_
  simp
  refine callW_ms [.own, .ro] ?_
  simp
  refine callX_of (w34 f _ (by omega) (by omega) (by omega)) (by simp) ?_
  simp
theorem W35 (n : Nat) (k : Int) (hl : n ≤ 2^40) (hk : 0 ≤ k) (hk2 : k ≤ 2^40) : Contract Try.prog false 35 [.ro, .ro] [.sl false 1 ((cnt k n).map iT), .i .i64 k] [.i .i64 (k + n)] [] := by
  simpa using w35 (cnt k n) k (by simpa using hl) hk hk2
theorem w127 (n m : Nat) (k : Int) (hg : n ≤ 2^30) (hf : m ≤ 2^30) (hk : 0 ≤ k) (hk2 : k ≤ 2^39) : Contract Try.prog false 127 [.ro, .ro] [entsR (cnt k n) (cnt (k + n) m), .i .i64 k] [.i .i64 (k + n + m)] [] := by
  refine mk_contract [] Try.func127 (c := Try.f127.body.get!) (by kernel_rfl) k127 r127 (of_decide_eq_true rfl) fun _ => ?_
  unfold c127; unfold entsR; simp
  refine callW_ms [.ro, .ro] ?_
  simp
  refine callX_of (W35 n k (by omega) (by omega) (by omega)) (by simp) ?_
  simp
  refine ⟨by omega, fun _ => ?_⟩
  refine callW_ms [.ro, .ro] ?_
  simp
  refine callX_of (W35 m _ (by omega) (by omega) (by omega)) (by simp) ?_
  simp
  omega
def giveP (g f : List Int) (x y : Int) : List Int × List Int × Int :=
  if EntsOkP g f then (if liveP g f x y then (giveG g x y, f ++ [x], 0) else (g, f, 2)) else (g, f, 1)
theorem giveP_len (g f : List Int) (x y : Int) : (giveP g f x y).1.length = g.length ∧ (giveP g f x y).2.1.length ≤ f.length + 1 := by
  unfold giveP; split
  · split <;> simp
  · simp
end Go.Proofs.YtmedelmfkciblaaT
