/- The law laws.FnExactRegFind answers true for every input of its row and leaves its arguments as they were. There is no condition beyond the statement's own. -/
import Derived.Test.YtlddgmpaaobpoaaRows
import Derived.Test.YtlddgmpaaobpoaaKi
import Derived.Test.YtlddgmpaaobpoaaTmAi
import Derived.WalkKit
import Derived.ProofKit
import Derived.OpenShut
import Derived.ShutString
import Derived.ChangeOld
import Derived.Below
import Derived.SizedLaws
import Derived.Carry
namespace Go.Proofs.YtlddgmpaaobpoaaT.fnExactRegFind
open Go.ChangeShapes Go.WideShapes Go.ChangeAt Go.RowKit Go.Proofs.YtlddgmpaaobpoaaT Go Go.Proofs.Ytlddgmpaaobpoaa
open Go.ChangeMaps (open_string shut_string)
set_option linter.unusedVariables false
set_option linter.unusedSimpArgs false
theorem own : ownKnob Try.prog.godebug = none := by kernel_rfl
theorem laidOut : laidOutB Try.prog = true := by kernel_rfl
def B97 (x : DeclP) : Prop := BS x.1 ∧ (BI .i64) x.2
set_option maxRecDepth 100000 in
theorem op97 : OpT Try.prog 97 2 dT B97 := OpT.struct (fun p : ByteArray × Int => (⟨p.1, p.2⟩ : DeclP)) (fun _ => rfl) (fun _ h => h) (fun _ => rfl) Try.underlying97 (by kernel_rfl) (OpT.cons (OpT.string Try.underlying9) rfl (by kernel_rfl) (OpT.last (OpT.int Try.underlying3) rfl (by kernel_rfl)) (by kernel_rfl))
def en54 (p : (List DeclP) × (List DeclP) × (List DeclP)) : List TV := (fun l => [TV.sl false 2 (l.map dT)]) p.1 ++ ((fun l => [TV.sl false 2 (l.map dT)]) p.2.1 ++ ((fun l => [TV.sl false 2 (l.map dT)]) p.2.2))
def B54 (p : (List DeclP) × (List DeclP) × (List DeclP)) : Prop := (BL B97) p.1 ∧ (BL B97) p.2.1 ∧ (BL B97) p.2.2
set_option maxRecDepth 100000 in
theorem op54 : OpT Try.prog 54 3 en54 B54 := OpT.struct (fun p => p) (fun _ => rfl) (fun _ h => h) (fun _ => rfl) Try.underlying54 (by kernel_rfl) (OpT.cons (OpT.slice op97 Try.underlying52 (by kernel_rfl) (by decide)) rfl (by kernel_rfl) (OpT.cons (OpT.slice op97 Try.underlying52 (by kernel_rfl) (by decide)) rfl (by kernel_rfl) (OpT.last (OpT.slice op97 Try.underlying52 (by kernel_rfl) (by decide)) rfl (by kernel_rfl)) (by kernel_rfl)) (by kernel_rfl))
set_option maxRecDepth 100000 in
theorem lifted (os : Os) (started : os.Started) (H : Type) (enc : TypeId × Value → H) :
    ReturnsInHanded {} Try.checked os 14 .any (Rows.fnExactRegFindSpec.pre6 enc Try.prog Try.f14 Rows.fnExactRegFindRow.domain false) (Rows.fnExactRegFindSpec.post enc Try.prog Try.f14 false true false false) := by
  refine returnsInHanded_of_change_sized (C := Try.checked) own started (by kernel_rfl) Try.func14
    (ChangeSpec.witness6 (enc := enc) (C := Try.checked) false ⟨#[], #[.agg #[.slice none 0 0, .slice none 0 0, .slice none 0 0], .int .i64 0, .string ByteArray.empty], []⟩ 8 (by kernel_rfl) (by kernel_rfl) (by kernel_rfl) (by kernel_rfl)) ?_
  intro W base args ds gs before hval0 hW hcnd hsz0 _
  have hval : ∀ (j : Nat) t v, Try.f14.params[j]? = some t → args[j]? = some v → Value.okWide Try.prog W .any base t v := hval0
  have hW' := hW
  obtain ⟨p, q, hA0, hV, rfl, hfz, hnd⟩ := hW
  have hA : DataW.TrodAll enc Try.prog W 0 (fun _ => true) true Try.f14.params.toList args.toList ds p := hA0
  rw [Try.params14] at hA hval
  obtain ⟨v0, vs0, d0, ds0, p0, q0, hargs, rfl, rfl, h0, r0⟩ := trodAll_cons hA
  obtain ⟨v1, vs1, d1, ds1, p1, q1, rfl, rfl, rfl, h1, r1⟩ := trodAll_cons r0
  obtain ⟨v2, vs2, d2, ds2, p2, q2, rfl, rfl, rfl, h2, r2⟩ := trodAll_cons r1
  obtain ⟨rfl, rfl, rfl⟩ := trodAll_nil r2
  obtain rfl : args = #[v0, v1, v2] := by cases args; simp_all
  obtain ⟨rfl, rfl⟩ := trodVars_none hV
  have lt0 : ∀ x ∈ p0, x.block < W.heap.size := by obtain ⟨m, hm⟩ := h0; exact DataW.trod_lt m _ _ _ hm
  obtain ⟨cs0, rfl, _⟩ := okWide_struct Try.underlying54 (hval 0 54 v0 rfl rfl)
  obtain ⟨x0, hB0, hR0⟩ := OpT.argS op54 h0 (κ := fun _ => undef) (Hh := fun _ => [])
  have lt1 : ∀ x ∈ p1, x.block < W.heap.size := by obtain ⟨m, hm⟩ := h1; exact DataW.trod_lt m _ _ _ hm
  obtain ⟨b1_, rfl⟩ := okWide_int Try.underlying3 (hval 1 3 v1 rfl rfl)
  obtain ⟨x1, hB1, hR1'⟩ := OpT.arg1 (OpT.int Try.underlying3) h1 rfl
  have hR1 := RV.pure (κ := fun _ => undef) (H := fun _ => []) _ _ hR1'
  have lt2 : ∀ x ∈ p2, x.block < W.heap.size := by obtain ⟨m, hm⟩ := h2; exact DataW.trod_lt m _ _ _ hm
  obtain ⟨b2_, rfl⟩ := okWide_string Try.underlying9 (hval 2 9 v2 rfl rfl)
  obtain ⟨x2, hB2, hR2'⟩ := OpT.arg1 (OpT.string Try.underlying9) h2 rfl
  have hR2 := RV.pure (κ := fun _ => undef) (H := fun _ => []) _ _ hR2'
  refine (law_calls (w14 x0.1 x0.2.1 x0.2.2 x1 x2 ⟨by have := hB0.1.1; omega, fun d hd => by have := (hB0.1.2 d hd).1; unfold BS at this; omega⟩ ⟨by have := hB0.2.1.1; omega, fun d hd => by have := (hB0.2.1.2 d hd).1; unfold BS at this; omega⟩ ⟨by have := hB0.2.2.1; omega, fun d hd => by have := (hB0.2.2.2 d hd).1; unfold BS at this; omega⟩) (vs := [_, _, _]) (by simp) rfl rfl (fa_cons hR0 (fa_cons hR1 (fa_cons hR2 fa_nil)))).mono fun e W' ⟨he, bel⟩ => ?_
  subst he
  exact ⟨_, rfl, _, _, _, [], _, [], hW', trodAll_mk1 (shut_bool Try.underlying4 _), (trodAll_cons_mk (Below.trod laidOut (by kernel_rfl) (of_decide_eq_true (by kernel_rfl)) h0 bel lt0) (trodAll_cons_mk (Below.trod laidOut (by kernel_rfl) (of_decide_eq_true (by kernel_rfl)) h1 bel lt1) (trodAll_cons_mk (Below.trod laidOut (by kernel_rfl) (of_decide_eq_true (by kernel_rfl)) h2 bel lt2) trodAll_mk0))), rfl, bel.frame _, fun h => by cases h⟩
theorem over : Rows.fnExactRegFindRow.holds Try.pinned (OpenSpec.ofChange Rows.fnExactRegFindSpec) :=
  OpenClaim.holds_of_wide 14 Try.f14 rfl rfl rfl rfl rfl rfl rfl ⟨rfl, rfl, rfl, rfl, rfl⟩ rfl rfl rfl rfl rfl (by kernel_rfl) Try.func14 (by kernel_rfl)
    (of_decide_eq_true (by kernel_rfl)) (by unfold Func.isWrapper; first | (rw [if_pos (by decide +kernel)]; kernel_rfl) | (rw [if_neg (by decide +kernel)]; exact ⟨rfl, rfl⟩))
    (fun os started H enc _ => lifted os started H enc)
theorem proved : Rows.FnExactRegFindSaid := over
#print axioms proved
end Go.Proofs.YtlddgmpaaobpoaaT.fnExactRegFind
namespace Go.Proofs.Ytlddgmpaaobpoaa
/-- The row, under a short name, for the claim. -/
theorem fnExactRegFind_holds : Rows.FnExactRegFindSaid := Go.Proofs.YtlddgmpaaobpoaaT.fnExactRegFind.proved
end Go.Proofs.Ytlddgmpaaobpoaa
