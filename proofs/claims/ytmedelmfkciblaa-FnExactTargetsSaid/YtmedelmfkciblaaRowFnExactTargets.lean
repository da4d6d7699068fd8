/- The law laws.FnExactTargets answers true for every input of its row and leaves its arguments as they were. There is no condition beyond the statement's own. -/
import Derived.Test.YtmedelmfkciblaaRows
import Derived.Test.YtmedelmfkciblaaPk13
import Derived.WalkKit
import Derived.ProofKit
import Derived.OpenShut
import Derived.ShutString
import Derived.ChangeOld
import Derived.Below
import Derived.SizedLaws
import Derived.Carry
namespace Go.Proofs.YtmedelmfkciblaaT.fnExactTargets
open Go.ChangeShapes Go.WideShapes Go.ChangeAt Go.RowKit Go.Proofs.YtmedelmfkciblaaT Go Go.Proofs.Ytmedelmfkciblaa
open Go.ChangeMaps (open_string shut_string)
set_option linter.unusedVariables false
set_option linter.unusedSimpArgs false
theorem own : ownKnob Try.prog.godebug = none := by kernel_rfl
theorem laidOut : laidOutB Try.prog = true := by kernel_rfl
def B54 (x : EntP) : Prop := (BI .i64) x.1 ∧ (BI .i64) x.2
set_option maxRecDepth 100000 in
theorem op54 : OpT Try.prog 54 2 eT B54 := OpT.struct (en := fun p : Int × Int => (fun n => [TV.i .i64 n]) p.1 ++ ((fun n => [TV.i .i64 n]) p.2)) (B := fun p : Int × Int => (BI .i64) p.1 ∧ (BI .i64) p.2) (fun p : Int × Int => (⟨p.1, p.2⟩ : EntP)) (fun _ => rfl) (fun _ h => h) (fun _ => rfl) Try.underlying54 (by kernel_rfl) (OpT.cons (z := 1) (z' := 1) (OpT.int Try.underlying3) rfl (by kernel_rfl) (OpT.last (OpT.int Try.underlying3) rfl (by kernel_rfl)) (by kernel_rfl))
def B57 (x : ValP) : Prop := (BI .i64) x.1 ∧ (BI .i64) x.2.1 ∧ BF x.2.2.1 ∧ BF x.2.2.2
set_option maxRecDepth 100000 in
theorem op57 : OpT Try.prog 57 4 vT B57 := OpT.struct (en := fun p : Int × Int × Nat × Nat => (fun n => [TV.i .i64 n]) p.1 ++ ((fun n => [TV.i .i64 n]) p.2.1 ++ ((fun x => [TV.f x]) p.2.2.1 ++ ((fun x => [TV.f x]) p.2.2.2)))) (B := fun p : Int × Int × Nat × Nat => (BI .i64) p.1 ∧ (BI .i64) p.2.1 ∧ BF p.2.2.1 ∧ BF p.2.2.2) (fun p : Int × Int × Nat × Nat => (⟨p.1, p.2.1, p.2.2.1, p.2.2.2⟩ : ValP)) (fun _ => rfl) (fun _ h => h) (fun _ => rfl) Try.underlying57 (by kernel_rfl) (OpT.cons (z := 1) (z' := 3) (OpT.int Try.underlying3) rfl (by kernel_rfl) (OpT.cons (z := 1) (z' := 2) (OpT.int Try.underlying3) rfl (by kernel_rfl) (OpT.cons (z := 1) (z' := 1) (OpT.flt Try.underlying55) rfl (by kernel_rfl) (OpT.last (OpT.flt Try.underlying55) rfl (by kernel_rfl)) (by kernel_rfl)) (by kernel_rfl)) (by kernel_rfl))
def B185 (x : CellP) : Prop := (BI .i64) x.1 ∧ B57 x.2
set_option maxRecDepth 100000 in
theorem op185 : OpT Try.prog 185 5 clT B185 := OpT.struct (en := fun p : Int × ValP => (fun n => [TV.i .i64 n]) p.1 ++ (vT p.2)) (B := fun p : Int × ValP => (BI .i64) p.1 ∧ B57 p.2) (fun p : Int × ValP => (⟨p.1, p.2⟩ : CellP)) (fun _ => rfl) (fun _ h => h) (fun _ => rfl) Try.underlying185 (by kernel_rfl) (OpT.cons (z := 1) (z' := 4) (OpT.int Try.underlying3) rfl (by kernel_rfl) (OpT.last op57 rfl (by kernel_rfl)) (by kernel_rfl))
def B60 (x : CmdP) : Prop := (BI .i64) x.1 ∧ B54 x.2.1 ∧ (BI .i64) x.2.2.1 ∧ B57 x.2.2.2.1 ∧ (BL B185) x.2.2.2.2
set_option maxRecDepth 100000 in
theorem op60 : OpT Try.prog 60 9 cmT B60 := OpT.struct (en := fun p : Int × EntP × Int × ValP × (List CellP) => (fun n => [TV.i .i64 n]) p.1 ++ (eT p.2.1 ++ ((fun n => [TV.i .i64 n]) p.2.2.1 ++ (vT p.2.2.2.1 ++ ((fun l => [TV.sl false 5 (l.map clT)]) p.2.2.2.2))))) (B := fun p : Int × EntP × Int × ValP × (List CellP) => (BI .i64) p.1 ∧ B54 p.2.1 ∧ (BI .i64) p.2.2.1 ∧ B57 p.2.2.2.1 ∧ (BL B185) p.2.2.2.2) (fun p : Int × EntP × Int × ValP × (List CellP) => (⟨p.1, p.2.1, p.2.2.1, p.2.2.2.1, p.2.2.2.2⟩ : CmdP)) (fun _ => rfl) (fun _ h => h) (fun _ => rfl) Try.underlying60 (by kernel_rfl) (OpT.cons (z := 1) (z' := 8) (OpT.int Try.underlying3) rfl (by kernel_rfl) (OpT.cons (z := 2) (z' := 6) op54 rfl (by kernel_rfl) (OpT.cons (z := 1) (z' := 5) (OpT.int Try.underlying3) rfl (by kernel_rfl) (OpT.cons (z := 4) (z' := 1) op57 rfl (by kernel_rfl) (OpT.last (OpT.slice op185 Try.underlying58 (by kernel_rfl) (by decide)) rfl (by kernel_rfl)) (by kernel_rfl)) (by kernel_rfl)) (by kernel_rfl)) (by kernel_rfl))
set_option maxRecDepth 100000 in
theorem lifted (os : Os) (started : os.Started) (H : Type) (enc : TypeId × Value → H) :
    ReturnsInHanded {} Try.checked os 5 .any (Rows.fnExactTargetsSpec.pre6 enc Try.prog Try.f5 Rows.fnExactTargetsRow.domain false) (Rows.fnExactTargetsSpec.post enc Try.prog Try.f5 false true false false) := by
  refine returnsInHanded_of_change_sized (C := Try.checked) own started (by kernel_rfl) Try.func5
    (ChangeSpec.witness6 (enc := enc) (C := Try.checked) false ⟨#[], #[.slice none 0 0], []⟩ 8 (by kernel_rfl) (by kernel_rfl) (by kernel_rfl) (by kernel_rfl)) ?_
  intro W base args ds gs before hval0 hW hcnd hsz0 _
  have hval : ∀ (j : Nat) t v, Try.f5.params[j]? = some t → args[j]? = some v → Value.okWide Try.prog W .any base t v := hval0
  have hW' := hW
  obtain ⟨p, q, hA0, hV, rfl, hfz, hnd⟩ := hW
  have hA : DataW.TrodAll enc Try.prog W 0 (fun _ => true) true Try.f5.params.toList args.toList ds p := hA0
  rw [Try.params5] at hA hval
  obtain ⟨v0, vs0, d0, ds0, p0, q0, hargs, rfl, rfl, h0, r0⟩ := trodAll_cons hA
  obtain ⟨rfl, rfl, rfl⟩ := trodAll_nil r0
  obtain rfl : args = #[v0] := by cases args; simp_all
  obtain ⟨rfl, rfl⟩ := trodVars_none hV
  have lt0 : ∀ x ∈ p0, x.block < W.heap.size := by obtain ⟨m, hm⟩ := h0; exact DataW.trod_lt m _ _ _ hm
  obtain ⟨a0_, n0_, c0_, rfl⟩ := okWide_slice Try.underlying38 (hval 0 38 v0 rfl rfl)
  obtain ⟨x0, hB0, hR0'⟩ := OpT.arg1 (OpT.slice op60 Try.underlying38 (by kernel_rfl) (by decide)) h0 rfl
  have hR0 := RV.pure (κ := fun _ => undef) (H := fun _ => []) _ _ hR0'
  refine (law_calls (w5 x0 (Nat.lt_succ_of_le hB0.1) (fun x hx => Nat.lt_succ_of_le (hB0.2 x hx).2.2.2.2.1)) (vs := [_]) (by simp) rfl rfl (fa_cons hR0 fa_nil)).mono fun e W' ⟨he, bel⟩ => ?_
  subst he
  exact ⟨_, rfl, _, _, _, [], _, [], hW', trodAll_mk1 (shut_bool Try.underlying4 _), (trodAll_cons_mk (Below.trod laidOut (by kernel_rfl) (of_decide_eq_true (by kernel_rfl)) h0 bel lt0) trodAll_mk0), rfl, bel.frame _, fun h => by cases h⟩
theorem over : Rows.fnExactTargetsRow.holds Try.pinned (OpenSpec.ofChange Rows.fnExactTargetsSpec) :=
  OpenClaim.holds_of_wide 5 Try.f5 rfl rfl rfl rfl rfl rfl rfl ⟨rfl, rfl, rfl, rfl, rfl⟩ rfl rfl rfl rfl rfl (by kernel_rfl) Try.func5 (by kernel_rfl)
    (of_decide_eq_true (by kernel_rfl)) (by unfold Func.isWrapper; first | (rw [if_pos (by decide +kernel)]; kernel_rfl) | (rw [if_neg (by decide +kernel)]; exact ⟨rfl, rfl⟩))
    (fun os started H enc _ => lifted os started H enc)
theorem proved : Rows.FnExactTargetsSaid := over
#print axioms proved
end Go.Proofs.YtmedelmfkciblaaT.fnExactTargets
namespace Go.Proofs.Ytmedelmfkciblaa
/-- The row, under a short name, for the claim. -/
theorem fnExactTargets_holds : Rows.FnExactTargetsSaid := Go.Proofs.YtmedelmfkciblaaT.fnExactTargets.proved
end Go.Proofs.Ytmedelmfkciblaa
