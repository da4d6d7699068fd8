/- The law laws.FnExactEffWithin answers true for every input of its row and leaves its arguments as they were. There is no condition beyond the statement's own. -/
import Derived.Test.YtloodkhdngipbaaRows
import Derived.Test.YtloodkhdngipbaaKe1
import Derived.Test.YtloodkhdngipbaaTmAi
import Derived.WalkKit
import Derived.ProofKit
import Derived.OpenShut
import Derived.ShutString
import Derived.ChangeOld
import Derived.Below
import Derived.SizedLaws
import Derived.Carry
namespace Go.Proofs.YtloodkhdngipbaaT.fnExactEffWithin
open Go.ChangeShapes Go.WideShapes Go.ChangeAt Go.RowKit Go.Proofs.YtloodkhdngipbaaT Go Go.Proofs.Ytloodkhdngipbaa
open Go.ChangeMaps (open_string shut_string)
set_option linter.unusedVariables false
set_option linter.unusedSimpArgs false
theorem own : ownKnob Try.prog.godebug = none := by kernel_rfl
theorem laidOut : laidOutB Try.prog = true := by kernel_rfl
def en92 (p : (List Int) × (List Int) × (List Int) × (List Int) × (List Int) × (List Int) × (List Int) × (List Int) × Bool × Bool) : List TV := (fun l => [TV.sl false 1 (l.map (fun n => [TV.i .i64 n]))]) p.1 ++ ((fun l => [TV.sl false 1 (l.map (fun n => [TV.i .i64 n]))]) p.2.1 ++ ((fun l => [TV.sl false 1 (l.map (fun n => [TV.i .i64 n]))]) p.2.2.1 ++ ((fun l => [TV.sl false 1 (l.map (fun n => [TV.i .i64 n]))]) p.2.2.2.1 ++ ((fun l => [TV.sl false 1 (l.map (fun n => [TV.i .i64 n]))]) p.2.2.2.2.1 ++ ((fun l => [TV.sl false 1 (l.map (fun n => [TV.i .i64 n]))]) p.2.2.2.2.2.1 ++ ((fun l => [TV.sl false 1 (l.map (fun n => [TV.i .i64 n]))]) p.2.2.2.2.2.2.1 ++ ((fun l => [TV.sl false 1 (l.map (fun n => [TV.i .i64 n]))]) p.2.2.2.2.2.2.2.1 ++ ((fun b => [TV.b b]) p.2.2.2.2.2.2.2.2.1 ++ ((fun b => [TV.b b]) p.2.2.2.2.2.2.2.2.2)))))))))
def B92 (p : (List Int) × (List Int) × (List Int) × (List Int) × (List Int) × (List Int) × (List Int) × (List Int) × Bool × Bool) : Prop := (BL (BI .i64)) p.1 ∧ (BL (BI .i64)) p.2.1 ∧ (BL (BI .i64)) p.2.2.1 ∧ (BL (BI .i64)) p.2.2.2.1 ∧ (BL (BI .i64)) p.2.2.2.2.1 ∧ (BL (BI .i64)) p.2.2.2.2.2.1 ∧ (BL (BI .i64)) p.2.2.2.2.2.2.1 ∧ (BL (BI .i64)) p.2.2.2.2.2.2.2.1 ∧ BN p.2.2.2.2.2.2.2.2.1 ∧ BN p.2.2.2.2.2.2.2.2.2
set_option maxRecDepth 100000 in
theorem op92 : OpT Try.prog 92 10 en92 B92 := OpT.struct (fun p => p) (fun _ => rfl) (fun _ h => h) (fun _ => rfl) Try.underlying92 (by kernel_rfl) (OpT.cons (z := 1) (z' := 9) (OpT.slice (OpT.int Try.underlying3) Try.underlying54 (by kernel_rfl) (by decide)) rfl (by kernel_rfl) (OpT.cons (z := 1) (z' := 8) (OpT.slice (OpT.int Try.underlying3) Try.underlying54 (by kernel_rfl) (by decide)) rfl (by kernel_rfl) (OpT.cons (z := 1) (z' := 7) (OpT.slice (OpT.int Try.underlying3) Try.underlying54 (by kernel_rfl) (by decide)) rfl (by kernel_rfl) (OpT.cons (z := 1) (z' := 6) (OpT.slice (OpT.int Try.underlying3) Try.underlying54 (by kernel_rfl) (by decide)) rfl (by kernel_rfl) (OpT.cons (z := 1) (z' := 5) (OpT.slice (OpT.int Try.underlying3) Try.underlying54 (by kernel_rfl) (by decide)) rfl (by kernel_rfl) (OpT.cons (z := 1) (z' := 4) (OpT.slice (OpT.int Try.underlying3) Try.underlying54 (by kernel_rfl) (by decide)) rfl (by kernel_rfl) (OpT.cons (z := 1) (z' := 3) (OpT.slice (OpT.int Try.underlying3) Try.underlying54 (by kernel_rfl) (by decide)) rfl (by kernel_rfl) (OpT.cons (z := 1) (z' := 2) (OpT.slice (OpT.int Try.underlying3) Try.underlying54 (by kernel_rfl) (by decide)) rfl (by kernel_rfl) (OpT.cons (z := 1) (z' := 1) (OpT.bool Try.underlying4) rfl (by kernel_rfl) (OpT.last (OpT.bool Try.underlying4) rfl (by kernel_rfl)) (by kernel_rfl)) (by kernel_rfl)) (by kernel_rfl)) (by kernel_rfl)) (by kernel_rfl)) (by kernel_rfl)) (by kernel_rfl)) (by kernel_rfl)) (by kernel_rfl))
set_option maxRecDepth 100000 in
theorem lifted (os : Os) (started : os.Started) (H : Type) (enc : TypeId × Value → H) :
    ReturnsInHanded {} Try.checked os 13 .any (Rows.fnExactEffWithinSpec.pre6 enc Try.prog Try.f13 Rows.fnExactEffWithinRow.domain false) (Rows.fnExactEffWithinSpec.post enc Try.prog Try.f13 false true false false) := by
  refine returnsInHanded_of_change_sized (C := Try.checked) own started (by kernel_rfl) Try.func13
    (ChangeSpec.witness6 (enc := enc) (C := Try.checked) false ⟨#[], #[.agg #[.slice none 0 0, .slice none 0 0, .slice none 0 0, .slice none 0 0, .slice none 0 0, .slice none 0 0, .slice none 0 0, .slice none 0 0, .bool false, .bool false], .agg #[.slice none 0 0, .slice none 0 0, .slice none 0 0, .slice none 0 0, .slice none 0 0, .slice none 0 0, .slice none 0 0, .slice none 0 0, .bool false, .bool false]], []⟩ 8 (by kernel_rfl) (by kernel_rfl) (by kernel_rfl) (by kernel_rfl)) ?_
  intro W base args ds gs before hval0 hW hcnd hsz0 _
  have hval : ∀ (j : Nat) t v, Try.f13.params[j]? = some t → args[j]? = some v → Value.okWide Try.prog W .any base t v := hval0
  have hW' := hW
  obtain ⟨p, q, hA0, hV, rfl, hfz, hnd⟩ := hW
  have hA : DataW.TrodAll enc Try.prog W 0 (fun _ => true) true Try.f13.params.toList args.toList ds p := hA0
  rw [Try.params13] at hA hval
  obtain ⟨v0, vs0, d0, ds0, p0, q0, hargs, rfl, rfl, h0, r0⟩ := trodAll_cons hA
  obtain ⟨v1, vs1, d1, ds1, p1, q1, rfl, rfl, rfl, h1, r1⟩ := trodAll_cons r0
  obtain ⟨rfl, rfl, rfl⟩ := trodAll_nil r1
  obtain rfl : args = #[v0, v1] := by cases args; simp_all
  obtain ⟨rfl, rfl⟩ := trodVars_none hV
  have lt0 : ∀ x ∈ p0, x.block < W.heap.size := by obtain ⟨m, hm⟩ := h0; exact DataW.trod_lt m _ _ _ hm
  obtain ⟨cs0, rfl, _⟩ := okWide_struct Try.underlying92 (hval 0 92 v0 rfl rfl)
  obtain ⟨x0, hB0, hR0⟩ := OpT.argS op92 h0 (κ := fun _ => undef) (Hh := fun _ => [])
  have lt1 : ∀ x ∈ p1, x.block < W.heap.size := by obtain ⟨m, hm⟩ := h1; exact DataW.trod_lt m _ _ _ hm
  obtain ⟨cs1, rfl, _⟩ := okWide_struct Try.underlying92 (hval 1 92 v1 rfl rfl)
  obtain ⟨x1, hB1, hR1⟩ := OpT.argS op92 h1 (κ := fun _ => undef) (Hh := fun _ => [])
  refine (law_calls (w13 x0 x1 ⟨hB0.1.1, hB0.2.1.1, hB0.2.2.1.1, hB0.2.2.2.1.1, hB0.2.2.2.2.1.1, hB0.2.2.2.2.2.1.1, hB0.2.2.2.2.2.2.1.1, hB0.2.2.2.2.2.2.2.1.1⟩ ⟨hB1.1.1, hB1.2.1.1, hB1.2.2.1.1, hB1.2.2.2.1.1, hB1.2.2.2.2.1.1, hB1.2.2.2.2.2.1.1, hB1.2.2.2.2.2.2.1.1, hB1.2.2.2.2.2.2.2.1.1⟩) (vs := [_, _]) (by simp) rfl rfl (fa_cons hR0 (fa_cons hR1 fa_nil))).mono fun e W' ⟨he, bel⟩ => ?_
  subst he
  exact ⟨_, rfl, _, _, _, [], _, [], hW', trodAll_mk1 (shut_bool Try.underlying4 _), (trodAll_cons_mk (Below.trod laidOut (by kernel_rfl) (of_decide_eq_true (by kernel_rfl)) h0 bel lt0) (trodAll_cons_mk (Below.trod laidOut (by kernel_rfl) (of_decide_eq_true (by kernel_rfl)) h1 bel lt1) trodAll_mk0)), rfl, bel.frame _, fun h => by cases h⟩
theorem over : Rows.fnExactEffWithinRow.holds Try.pinned (OpenSpec.ofChange Rows.fnExactEffWithinSpec) :=
  OpenClaim.holds_of_wide 13 Try.f13 rfl rfl rfl rfl rfl rfl rfl ⟨rfl, rfl, rfl, rfl, rfl⟩ rfl rfl rfl rfl rfl (by kernel_rfl) Try.func13 (by kernel_rfl)
    (of_decide_eq_true (by kernel_rfl)) (by unfold Func.isWrapper; first | (rw [if_pos (by decide +kernel)]; kernel_rfl) | (rw [if_neg (by decide +kernel)]; exact ⟨rfl, rfl⟩))
    (fun os started H enc _ => lifted os started H enc)
theorem proved : Rows.FnExactEffWithinSaid := over
#print axioms proved
end Go.Proofs.YtloodkhdngipbaaT.fnExactEffWithin
namespace Go.Proofs.Ytloodkhdngipbaa
/-- The row, under a short name, for the claim. -/
theorem fnExactEffWithin_holds : Rows.FnExactEffWithinSaid := Go.Proofs.YtloodkhdngipbaaT.fnExactEffWithin.proved
end Go.Proofs.Ytloodkhdngipbaa
