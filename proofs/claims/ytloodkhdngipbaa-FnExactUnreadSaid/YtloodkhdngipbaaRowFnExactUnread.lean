/- The law laws.FnExactUnread answers true for every input of its row and leaves its arguments as they were. There is no condition beyond the statement's own. -/
import Derived.Test.YtloodkhdngipbaaRows
import Derived.Test.YtloodkhdngipbaaKw3
import Derived.Test.YtloodkhdngipbaaTmAi
import Derived.WalkKit
import Derived.ProofKit
import Derived.OpenShut
import Derived.ShutString
import Derived.ChangeOld
import Derived.Below
import Derived.SizedLaws
import Derived.Carry
namespace Go.Proofs.YtloodkhdngipbaaT.fnExactUnread
open Go.ChangeShapes Go.WideShapes Go.ChangeAt Go.RowKit Go.Proofs.YtloodkhdngipbaaT Go Go.Proofs.Ytloodkhdngipbaa
open Go.ChangeMaps (open_string shut_string)
set_option linter.unusedVariables false
set_option linter.unusedSimpArgs false
theorem own : ownKnob Try.prog.godebug = none := by kernel_rfl
theorem laidOut : laidOutB Try.prog = true := by kernel_rfl
def B43 (x : ValP) : Prop := (BI .i64) x.1 ∧ (BI .i64) x.2.1 ∧ BF x.2.2.1 ∧ BF x.2.2.2
set_option maxRecDepth 100000 in
theorem op43 : OpT Try.prog 43 4 vT B43 := OpT.struct (fun p : Int × Int × Nat × Nat => (⟨p.1, p.2.1, p.2.2.1, p.2.2.2⟩ : ValP)) (fun _ => rfl) (fun _ h => h) (fun _ => rfl) Try.underlying43 (by kernel_rfl) (OpT.cons (OpT.int Try.underlying3) rfl (by kernel_rfl) (OpT.cons (OpT.int Try.underlying3) rfl (by kernel_rfl) (OpT.cons (OpT.flt Try.underlying41) rfl (by kernel_rfl) (OpT.last (OpT.flt Try.underlying41) rfl (by kernel_rfl)) (by kernel_rfl)) (by kernel_rfl)) (by kernel_rfl))
def en24 (p : Int × (List ValP) × (List ValP)) : List TV := (fun n => [TV.i .i64 n]) p.1 ++ ((fun l => [TV.sl false 4 (l.map vT)]) p.2.1 ++ ((fun l => [TV.sl false 4 (l.map vT)]) p.2.2))
def B24 (p : Int × (List ValP) × (List ValP)) : Prop := (BI .i64) p.1 ∧ (BL B43) p.2.1 ∧ (BL B43) p.2.2
set_option maxRecDepth 100000 in
theorem op24 : OpT Try.prog 24 3 en24 B24 := OpT.struct (fun p => p) (fun _ => rfl) (fun _ h => h) (fun _ => rfl) Try.underlying24 (by kernel_rfl) (OpT.cons (OpT.int Try.underlying3) rfl (by kernel_rfl) (OpT.cons (OpT.slice op43 Try.underlying22 (by kernel_rfl) (by decide)) rfl (by kernel_rfl) (OpT.last (OpT.slice op43 Try.underlying22 (by kernel_rfl) (by decide)) rfl (by kernel_rfl)) (by kernel_rfl)) (by kernel_rfl))
set_option maxRecDepth 100000 in
theorem lifted (os : Os) (started : os.Started) (H : Type) (enc : TypeId × Value → H) :
    ReturnsInHanded {} Try.checked os 5 .any (Rows.fnExactUnreadSpec.pre6 enc Try.prog Try.f5 Rows.fnExactUnreadRow.domain false) (Rows.fnExactUnreadSpec.post enc Try.prog Try.f5 false true false false) := by
  refine returnsInHanded_of_change_sized (C := Try.checked) own started (by kernel_rfl) Try.func5
    (ChangeSpec.witness6 (enc := enc) (C := Try.checked) false ⟨#[], #[.agg #[.int .i64 0, .slice none 0 0, .slice none 0 0], .int .i64 0], []⟩ 8 (by kernel_rfl) (by kernel_rfl) (by kernel_rfl) (by kernel_rfl)) ?_
  intro W base args ds gs before hval0 hW hcnd hsz0 _
  have hval : ∀ (j : Nat) t v, Try.f5.params[j]? = some t → args[j]? = some v → Value.okWide Try.prog W .any base t v := hval0
  have hW' := hW
  obtain ⟨p, q, hA0, hV, rfl, hfz, hnd⟩ := hW
  have hA : DataW.TrodAll enc Try.prog W 0 (fun _ => true) true Try.f5.params.toList args.toList ds p := hA0
  rw [Try.params5] at hA hval
  obtain ⟨v0, vs0, d0, ds0, p0, q0, hargs, rfl, rfl, h0, r0⟩ := trodAll_cons hA
  obtain ⟨v1, vs1, d1, ds1, p1, q1, rfl, rfl, rfl, h1, r1⟩ := trodAll_cons r0
  obtain ⟨rfl, rfl, rfl⟩ := trodAll_nil r1
  obtain rfl : args = #[v0, v1] := by cases args; simp_all
  obtain ⟨rfl, rfl⟩ := trodVars_none hV
  have lt0 : ∀ x ∈ p0, x.block < W.heap.size := by obtain ⟨m, hm⟩ := h0; exact DataW.trod_lt m _ _ _ hm
  obtain ⟨cs0, rfl, _⟩ := okWide_struct Try.underlying24 (hval 0 24 v0 rfl rfl)
  obtain ⟨x0, hB0, hR0⟩ := OpT.argS op24 h0 (κ := fun _ => undef) (Hh := fun _ => [])
  have lt1 : ∀ x ∈ p1, x.block < W.heap.size := by obtain ⟨m, hm⟩ := h1; exact DataW.trod_lt m _ _ _ hm
  obtain ⟨b1_, rfl⟩ := okWide_int Try.underlying3 (hval 1 3 v1 rfl rfl)
  obtain ⟨x1, hB1, hR1'⟩ := OpT.arg1 (OpT.int Try.underlying3) h1 rfl
  have hR1 := RV.pure (κ := fun _ => undef) (H := fun _ => []) _ _ hR1'
  refine (law_calls (w5 x0 x1 ⟨hB0.2.1.1, hB0.2.2.1⟩) (vs := [_, _]) (by simp) rfl rfl (fa_cons hR0 (fa_cons hR1 fa_nil))).mono fun e W' ⟨he, bel⟩ => ?_
  subst he
  exact ⟨_, rfl, _, _, _, [], _, [], hW', trodAll_mk1 (shut_bool Try.underlying4 _), (trodAll_cons_mk (Below.trod laidOut (by kernel_rfl) (of_decide_eq_true (by kernel_rfl)) h0 bel lt0) (trodAll_cons_mk (Below.trod laidOut (by kernel_rfl) (of_decide_eq_true (by kernel_rfl)) h1 bel lt1) trodAll_mk0)), rfl, bel.frame _, fun h => by cases h⟩
theorem over : Rows.fnExactUnreadRow.holds Try.pinned (OpenSpec.ofChange Rows.fnExactUnreadSpec) :=
  OpenClaim.holds_of_wide 5 Try.f5 rfl rfl rfl rfl rfl rfl rfl ⟨rfl, rfl, rfl, rfl, rfl⟩ rfl rfl rfl rfl rfl (by kernel_rfl) Try.func5 (by kernel_rfl)
    (of_decide_eq_true (by kernel_rfl)) (by unfold Func.isWrapper; first | (rw [if_pos (by decide +kernel)]; kernel_rfl) | (rw [if_neg (by decide +kernel)]; exact ⟨rfl, rfl⟩))
    (fun os started H enc _ => lifted os started H enc)
theorem proved : Rows.FnExactUnreadSaid := over
#print axioms proved
end Go.Proofs.YtloodkhdngipbaaT.fnExactUnread
namespace Go.Proofs.Ytloodkhdngipbaa
/-- The row, under a short name, for the claim. -/
theorem fnExactUnread_holds : Rows.FnExactUnreadSaid := Go.Proofs.YtloodkhdngipbaaT.fnExactUnread.proved
end Go.Proofs.Ytloodkhdngipbaa
