/- The law laws.FnExactMatch answers true for every input of its row and leaves its arguments as they were. There is no condition beyond the statement's own. -/
import Derived.Test.YtmedelmfkciblaaRows
import Derived.Test.YtmedelmfkciblaaKx5
import Derived.Test.YtmedelmfkciblaaTmAi
import Derived.WalkKit
import Derived.ProofKit
import Derived.OpenShut
import Derived.ShutString
import Derived.ChangeOld
import Derived.Below
import Derived.SizedLaws
import Derived.Carry
namespace Go.Proofs.YtmedelmfkciblaaT.fnExactMatch
open Go.ChangeShapes Go.WideShapes Go.ChangeAt Go.RowKit Go.Proofs.YtmedelmfkciblaaT Go Go.Proofs.Ytmedelmfkciblaa
open Go.ChangeMaps (open_string shut_string)
set_option linter.unusedVariables false
set_option linter.unusedSimpArgs false
theorem own : ownKnob Try.prog.godebug = none := by kernel_rfl
theorem laidOut : laidOutB Try.prog = true := by kernel_rfl
def en78 (p : (List Int) × (List Int)) : List TV := (fun l => [TV.sl false 1 (l.map (fun n => [TV.i .i64 n]))]) p.1 ++ ((fun l => [TV.sl false 1 (l.map (fun n => [TV.i .i64 n]))]) p.2)
def B78 (p : (List Int) × (List Int)) : Prop := (BL (BI .i64)) p.1 ∧ (BL (BI .i64)) p.2
set_option maxRecDepth 100000 in
theorem op78 : OpT Try.prog 78 2 en78 B78 := OpT.struct (fun p => p) (fun _ => rfl) (fun _ h => h) (fun _ => rfl) Try.underlying78 (by kernel_rfl) (OpT.cons (OpT.slice (OpT.int Try.underlying3) Try.underlying22 (by kernel_rfl) (by decide)) rfl (by kernel_rfl) (OpT.last (OpT.slice (OpT.int Try.underlying3) Try.underlying22 (by kernel_rfl) (by decide)) rfl (by kernel_rfl)) (by kernel_rfl))
def B54 (x : EntP) : Prop := (BI .i64) x.1 ∧ (BI .i64) x.2
set_option maxRecDepth 100000 in
theorem op54 : OpT Try.prog 54 2 eT B54 := OpT.struct (fun p : Int × Int => (⟨p.1, p.2⟩ : EntP)) (fun _ => rfl) (fun _ h => h) (fun _ => rfl) Try.underlying54 (by kernel_rfl) (OpT.cons (OpT.int Try.underlying3) rfl (by kernel_rfl) (OpT.last (OpT.int Try.underlying3) rfl (by kernel_rfl)) (by kernel_rfl))
def B57 (x : ValP) : Prop := (BI .i64) x.1 ∧ (BI .i64) x.2.1 ∧ BF x.2.2.1 ∧ BF x.2.2.2
set_option maxRecDepth 100000 in
theorem op57 : OpT Try.prog 57 4 vT B57 := OpT.struct (fun p : Int × Int × Nat × Nat => (⟨p.1, p.2.1, p.2.2.1, p.2.2.2⟩ : ValP)) (fun _ => rfl) (fun _ h => h) (fun _ => rfl) Try.underlying57 (by kernel_rfl) (OpT.cons (OpT.int Try.underlying3) rfl (by kernel_rfl) (OpT.cons (OpT.int Try.underlying3) rfl (by kernel_rfl) (OpT.cons (OpT.flt Try.underlying55) rfl (by kernel_rfl) (OpT.last (OpT.flt Try.underlying55) rfl (by kernel_rfl)) (by kernel_rfl)) (by kernel_rfl)) (by kernel_rfl))
def B198 (x : TableP) : Prop := (BL (BI .i64)) x.1 ∧ (BL B54) x.2.1 ∧ (BL (BL B57)) x.2.2
set_option maxRecDepth 100000 in
theorem op198 : OpT Try.prog 198 3 tbT B198 := OpT.struct (fun p : (List Int) × (List EntP) × (List (List ValP)) => (⟨p.1, p.2.1, p.2.2⟩ : TableP)) (fun _ => rfl) (fun _ h => h) (fun _ => rfl) Try.underlying198 (by kernel_rfl) (OpT.cons (OpT.slice (OpT.int Try.underlying3) Try.underlying22 (by kernel_rfl) (by decide)) rfl (by kernel_rfl) (OpT.cons (OpT.slice op54 Try.underlying195 (by kernel_rfl) (by decide)) rfl (by kernel_rfl) (OpT.last (OpT.slice (OpT.slice op57 Try.underlying80 (by kernel_rfl) (by decide)) Try.underlying196 (by kernel_rfl) (by decide)) rfl (by kernel_rfl)) (by kernel_rfl)) (by kernel_rfl))
def en82 (p : ((List Int) × (List Int)) × (List TableP) × (List ValP)) : List TV := en78 p.1 ++ ((fun l => [TV.sl false 3 (l.map tbT)]) p.2.1 ++ ((fun l => [TV.sl false 4 (l.map vT)]) p.2.2))
def B82 (p : ((List Int) × (List Int)) × (List TableP) × (List ValP)) : Prop := B78 p.1 ∧ (BL B198) p.2.1 ∧ (BL B57) p.2.2
set_option maxRecDepth 100000 in
theorem op82 : OpT Try.prog 82 4 en82 B82 := OpT.struct (fun p => p) (fun _ => rfl) (fun _ h => h) (fun _ => rfl) Try.underlying82 (by kernel_rfl) (OpT.cons op78 rfl (by kernel_rfl) (OpT.cons (OpT.slice op198 Try.underlying79 (by kernel_rfl) (by decide)) rfl (by kernel_rfl) (OpT.last (OpT.slice op57 Try.underlying80 (by kernel_rfl) (by decide)) rfl (by kernel_rfl)) (by kernel_rfl)) (by kernel_rfl))
set_option maxRecDepth 100000 in
theorem lifted (os : Os) (started : os.Started) (H : Type) (enc : TypeId × Value → H) :
    ReturnsInHanded {} Try.checked os 9 .any (Rows.fnExactMatchSpec.pre6 enc Try.prog Try.f9 Rows.fnExactMatchRow.domain false) (Rows.fnExactMatchSpec.post enc Try.prog Try.f9 false true false false) := by
  refine returnsInHanded_of_change_sized (C := Try.checked) own started (by kernel_rfl) Try.func9
    (ChangeSpec.witness6 (enc := enc) (C := Try.checked) false ⟨#[], #[.agg #[.slice none 0 0, .slice none 0 0, .slice none 0 0, .slice none 0 0], .slice none 0 0, .slice none 0 0], []⟩ 8 (by kernel_rfl) (by kernel_rfl) (by kernel_rfl) (by kernel_rfl)) ?_
  intro W base args ds gs before hval0 hW hcnd hsz0 _
  have hval : ∀ (j : Nat) t v, Try.f9.params[j]? = some t → args[j]? = some v → Value.okWide Try.prog W .any base t v := hval0
  have hW' := hW
  obtain ⟨p, q, hA0, hV, rfl, hfz, hnd⟩ := hW
  have hA : DataW.TrodAll enc Try.prog W 0 (fun _ => true) true Try.f9.params.toList args.toList ds p := hA0
  rw [Try.params9] at hA hval
  obtain ⟨v0, vs0, d0, ds0, p0, q0, hargs, rfl, rfl, h0, r0⟩ := trodAll_cons hA
  obtain ⟨v1, vs1, d1, ds1, p1, q1, rfl, rfl, rfl, h1, r1⟩ := trodAll_cons r0
  obtain ⟨v2, vs2, d2, ds2, p2, q2, rfl, rfl, rfl, h2, r2⟩ := trodAll_cons r1
  obtain ⟨rfl, rfl, rfl⟩ := trodAll_nil r2
  obtain rfl : args = #[v0, v1, v2] := by cases args; simp_all
  obtain ⟨rfl, rfl⟩ := trodVars_none hV
  have lt0 : ∀ x ∈ p0, x.block < W.heap.size := by obtain ⟨m, hm⟩ := h0; exact DataW.trod_lt m _ _ _ hm
  obtain ⟨cs0, rfl, _⟩ := okWide_struct Try.underlying82 (hval 0 82 v0 rfl rfl)
  obtain ⟨x0, hB0, hR0⟩ := OpT.argS op82 h0 (κ := fun _ => undef) (Hh := fun _ => [])
  have lt1 : ∀ x ∈ p1, x.block < W.heap.size := by obtain ⟨m, hm⟩ := h1; exact DataW.trod_lt m _ _ _ hm
  obtain ⟨a1_, n1_, c1_, rfl⟩ := okWide_slice Try.underlying22 (hval 1 22 v1 rfl rfl)
  obtain ⟨x1, hB1, hR1'⟩ := OpT.arg1 (OpT.slice (OpT.int Try.underlying3) Try.underlying22 (by kernel_rfl) (by decide)) h1 rfl
  have hR1 := RV.pure (κ := fun _ => undef) (H := fun _ => []) _ _ hR1'
  have lt2 : ∀ x ∈ p2, x.block < W.heap.size := by obtain ⟨m, hm⟩ := h2; exact DataW.trod_lt m _ _ _ hm
  obtain ⟨a2_, n2_, c2_, rfl⟩ := okWide_slice Try.underlying22 (hval 2 22 v2 rfl rfl)
  obtain ⟨x2, hB2, hR2'⟩ := OpT.arg1 (OpT.slice (OpT.int Try.underlying3) Try.underlying22 (by kernel_rfl) (by decide)) h2 rfl
  have hR2 := RV.pure (κ := fun _ => undef) (H := fun _ => []) _ _ hR2'
  refine (law_calls (w9 (x0.1.1, x0.1.2, x0.2.1, x0.2.2) x1 x2 ⟨Nat.lt_succ_of_le hB0.1.1.1, Nat.lt_succ_of_le hB0.1.2.1, ⟨Nat.lt_succ_of_le hB0.2.1.1, fun t ht => ⟨Nat.lt_succ_of_le (hB0.2.1.2 t ht).1.1, Nat.lt_succ_of_le (hB0.2.1.2 t ht).2.1.1, Nat.lt_succ_of_le (hB0.2.1.2 t ht).2.2.1, fun v hv => Nat.lt_succ_of_le ((hB0.2.1.2 t ht).2.2.2 v hv).1⟩⟩, Nat.lt_succ_of_le hB0.2.2.1⟩ (Nat.lt_succ_of_le hB1.1) (Nat.lt_succ_of_le hB2.1)) (vs := [_, _, _]) (by simp) rfl rfl (fa_cons hR0 (fa_cons hR1 (fa_cons hR2 fa_nil)))).mono fun e W' ⟨he, bel⟩ => ?_
  subst he
  exact ⟨_, rfl, _, _, _, [], _, [], hW', trodAll_mk1 (shut_bool Try.underlying4 _), (trodAll_cons_mk (Below.trod laidOut (by kernel_rfl) (of_decide_eq_true (by kernel_rfl)) h0 bel lt0) (trodAll_cons_mk (Below.trod laidOut (by kernel_rfl) (of_decide_eq_true (by kernel_rfl)) h1 bel lt1) (trodAll_cons_mk (Below.trod laidOut (by kernel_rfl) (of_decide_eq_true (by kernel_rfl)) h2 bel lt2) trodAll_mk0))), rfl, bel.frame _, fun h => by cases h⟩
theorem over : Rows.fnExactMatchRow.holds Try.pinned (OpenSpec.ofChange Rows.fnExactMatchSpec) :=
  OpenClaim.holds_of_wide 9 Try.f9 rfl rfl rfl rfl rfl rfl rfl ⟨rfl, rfl, rfl, rfl, rfl⟩ rfl rfl rfl rfl rfl (by kernel_rfl) Try.func9 (by kernel_rfl)
    (of_decide_eq_true (by kernel_rfl)) (by unfold Func.isWrapper; first | (rw [if_pos (by decide +kernel)]; kernel_rfl) | (rw [if_neg (by decide +kernel)]; exact ⟨rfl, rfl⟩))
    (fun os started H enc _ => lifted os started H enc)
theorem proved : Rows.FnExactMatchSaid := over
#print axioms proved
end Go.Proofs.YtmedelmfkciblaaT.fnExactMatch
namespace Go.Proofs.Ytmedelmfkciblaa
/-- The row, under a short name, for the claim. -/
theorem fnExactMatch_holds : Rows.FnExactMatchSaid := Go.Proofs.YtmedelmfkciblaaT.fnExactMatch.proved
end Go.Proofs.Ytmedelmfkciblaa
