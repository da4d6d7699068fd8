/- The law laws.FnExactEntTake answers true for every input of its row and leaves its arguments as they were. There is no condition beyond the statement's own. -/
import Derived.Test.YtlddgmpaaobpoaaRows
import Derived.Test.YtlddgmpaaobpoaaKj
import Derived.Test.YtlddgmpaaobpoaaTmAi
import Derived.WalkKit
import Derived.ProofKit
import Derived.OpenShut
import Derived.ShutString
import Derived.ChangeOld
import Derived.Below
import Derived.SizedLaws
import Derived.Carry
namespace Go.Proofs.YtlddgmpaaobpoaaT.fnExactEntTake
open Go.ChangeShapes Go.WideShapes Go.ChangeAt Go.RowKit Go.Proofs.YtlddgmpaaobpoaaT Go Go.Proofs.Ytlddgmpaaobpoaa
open Go.ChangeMaps (open_string shut_string)
set_option linter.unusedVariables false
set_option linter.unusedSimpArgs false
theorem own : ownKnob Try.prog.godebug = none := by kernel_rfl
theorem laidOut : laidOutB Try.prog = true := by kernel_rfl
def en26 (p : (List Int) × (List Int)) : List TV := (fun l => [TV.sl false 1 (l.map (fun n => [TV.i .i64 n]))]) p.1 ++ ((fun l => [TV.sl false 1 (l.map (fun n => [TV.i .i64 n]))]) p.2)
def B26 (p : (List Int) × (List Int)) : Prop := (BL (BI .i64)) p.1 ∧ (BL (BI .i64)) p.2
set_option maxRecDepth 100000 in
theorem op26 : OpT Try.prog 26 2 en26 B26 := OpT.struct (fun p => p) (fun _ => rfl) (fun _ h => h) (fun _ => rfl) Try.underlying26 (by kernel_rfl) (OpT.cons (OpT.slice (OpT.int Try.underlying3) Try.underlying24 (by kernel_rfl) (by decide)) rfl (by kernel_rfl) (OpT.last (OpT.slice (OpT.int Try.underlying3) Try.underlying24 (by kernel_rfl) (by decide)) rfl (by kernel_rfl)) (by kernel_rfl))
set_option maxRecDepth 100000 in
theorem lifted (os : Os) (started : os.Started) (H : Type) (enc : TypeId × Value → H) :
    ReturnsInHanded {} Try.checked os 8 .any (Rows.fnExactEntTakeSpec.pre6 enc Try.prog Try.f8 Rows.fnExactEntTakeRow.domain false) (Rows.fnExactEntTakeSpec.post enc Try.prog Try.f8 false true false false) := by
  refine returnsInHanded_of_change_sized (C := Try.checked) own started (by kernel_rfl) Try.func8
    (ChangeSpec.witness6 (enc := enc) (C := Try.checked) false ⟨#[], #[.agg #[.slice none 0 0, .slice none 0 0]], []⟩ 8 (by kernel_rfl) (by kernel_rfl) (by kernel_rfl) (by kernel_rfl)) ?_
  intro W base args ds gs before hval0 hW hcnd hsz0 _
  have hval : ∀ (j : Nat) t v, Try.f8.params[j]? = some t → args[j]? = some v → Value.okWide Try.prog W .any base t v := hval0
  have hW' := hW
  obtain ⟨p, q, hA0, hV, rfl, hfz, hnd⟩ := hW
  have hA : DataW.TrodAll enc Try.prog W 0 (fun _ => true) true Try.f8.params.toList args.toList ds p := hA0
  rw [Try.params8] at hA hval
  obtain ⟨v0, vs0, d0, ds0, p0, q0, hargs, rfl, rfl, h0, r0⟩ := trodAll_cons hA
  obtain ⟨rfl, rfl, rfl⟩ := trodAll_nil r0
  obtain rfl : args = #[v0] := by cases args; simp_all
  obtain ⟨rfl, rfl⟩ := trodVars_none hV
  have lt0 : ∀ x ∈ p0, x.block < W.heap.size := by obtain ⟨m, hm⟩ := h0; exact DataW.trod_lt m _ _ _ hm
  obtain ⟨cs0, rfl, _⟩ := okWide_struct Try.underlying26 (hval 0 26 v0 rfl rfl)
  obtain ⟨x0, hB0, hR0⟩ := OpT.argS op26 h0 (κ := fun _ => undef) (Hh := fun _ => [])
  refine (law_calls (w8 x0.1 x0.2 (by have := hB0.1.1; omega) (by have := hB0.2.1; omega)) (vs := [_]) (by simp) rfl rfl (fa_cons hR0 fa_nil)).mono fun e W' ⟨he, bel⟩ => ?_
  subst he
  exact ⟨_, rfl, _, _, _, [], _, [], hW', trodAll_mk1 (shut_bool Try.underlying4 _), (trodAll_cons_mk (Below.trod laidOut (by kernel_rfl) (of_decide_eq_true (by kernel_rfl)) h0 bel lt0) trodAll_mk0), rfl, bel.frame _, fun h => by cases h⟩
theorem over : Rows.fnExactEntTakeRow.holds Try.pinned (OpenSpec.ofChange Rows.fnExactEntTakeSpec) :=
  OpenClaim.holds_of_wide 8 Try.f8 rfl rfl rfl rfl rfl rfl rfl ⟨rfl, rfl, rfl, rfl, rfl⟩ rfl rfl rfl rfl rfl (by kernel_rfl) Try.func8 (by kernel_rfl)
    (of_decide_eq_true (by kernel_rfl)) (by unfold Func.isWrapper; first | (rw [if_pos (by decide +kernel)]; kernel_rfl) | (rw [if_neg (by decide +kernel)]; exact ⟨rfl, rfl⟩))
    (fun os started H enc _ => lifted os started H enc)
theorem proved : Rows.FnExactEntTakeSaid := over
#print axioms proved
end Go.Proofs.YtlddgmpaaobpoaaT.fnExactEntTake
namespace Go.Proofs.Ytlddgmpaaobpoaa
/-- The row, under a short name, for the claim. -/
theorem fnExactEntTake_holds : Rows.FnExactEntTakeSaid := Go.Proofs.YtlddgmpaaobpoaaT.fnExactEntTake.proved
end Go.Proofs.Ytlddgmpaaobpoaa
