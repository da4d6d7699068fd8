/- The law laws.FnExactTreeSame answers true for every input of its row and leaves its arguments as they were. There is no condition beyond the statement's own. -/
import Derived.Test.YtloodkhdngipbaaRows
import Derived.Test.YtloodkhdngipbaaKt1
import Derived.Test.YtloodkhdngipbaaTmAi
import Derived.WalkKit
import Derived.ProofKit
import Derived.OpenShut
import Derived.ShutString
import Derived.ChangeOld
import Derived.Below
import Derived.SizedLaws
import Derived.Carry
namespace Go.Proofs.YtloodkhdngipbaaT.fnExactTreeSame
open Go.ChangeShapes Go.WideShapes Go.ChangeAt Go.RowKit Go.Proofs.YtloodkhdngipbaaT Go Go.Proofs.Ytloodkhdngipbaa
open Go.ChangeMaps (open_string shut_string)
set_option linter.unusedVariables false
set_option linter.unusedSimpArgs false
theorem own : ownKnob Try.prog.godebug = none := by kernel_rfl
theorem laidOut : laidOutB Try.prog = true := by kernel_rfl
def B177 (x : NodeP) : Prop := (BI .i64) x.1 ∧ BS x.2.1 ∧ (BI .i64) x.2.2.1 ∧ (BL (BI .i64)) x.2.2.2
set_option maxRecDepth 100000 in
theorem op177 : OpT Try.prog 177 4 nT B177 := OpT.struct (fun p : Int × ByteArray × Int × (List Int) => (⟨p.1, p.2.1, p.2.2.1, p.2.2.2⟩ : NodeP)) (fun _ => rfl) (fun _ h => h) (fun _ => rfl) Try.underlying177 (by kernel_rfl) (OpT.cons (OpT.int Try.underlying3) rfl (by kernel_rfl) (OpT.cons (OpT.string Try.underlying9) rfl (by kernel_rfl) (OpT.cons (OpT.int Try.underlying3) rfl (by kernel_rfl) (OpT.last (OpT.slice (OpT.int Try.underlying3) Try.underlying54 (by kernel_rfl) (by decide)) rfl (by kernel_rfl)) (by kernel_rfl)) (by kernel_rfl)) (by kernel_rfl))
def en83 (p : (List NodeP) × (List Int)) : List TV := (fun l => [TV.sl false 4 (l.map nT)]) p.1 ++ ((fun l => [TV.sl false 1 (l.map (fun n => [TV.i .i64 n]))]) p.2)
def B83 (p : (List NodeP) × (List Int)) : Prop := (BL B177) p.1 ∧ (BL (BI .i64)) p.2
set_option maxRecDepth 100000 in
theorem op83 : OpT Try.prog 83 2 en83 B83 := OpT.struct (fun p => p) (fun _ => rfl) (fun _ h => h) (fun _ => rfl) Try.underlying83 (by kernel_rfl) (OpT.cons (OpT.slice op177 Try.underlying81 (by kernel_rfl) (by decide)) rfl (by kernel_rfl) (OpT.last (OpT.slice (OpT.int Try.underlying3) Try.underlying54 (by kernel_rfl) (by decide)) rfl (by kernel_rfl)) (by kernel_rfl))
set_option maxRecDepth 100000 in
theorem lifted (os : Os) (started : os.Started) (H : Type) (enc : TypeId × Value → H) :
    ReturnsInHanded {} Try.checked os 12 .any (Rows.fnExactTreeSameSpec.pre6 enc Try.prog Try.f12 Rows.fnExactTreeSameRow.domain false) (Rows.fnExactTreeSameSpec.post enc Try.prog Try.f12 false true false false) := by
  refine returnsInHanded_of_change_sized (C := Try.checked) own started (by kernel_rfl) Try.func12
    (ChangeSpec.witness6 (enc := enc) (C := Try.checked) false ⟨#[], #[.agg #[.slice none 0 0, .slice none 0 0], .agg #[.slice none 0 0, .slice none 0 0]], []⟩ 8 (by kernel_rfl) (by kernel_rfl) (by kernel_rfl) (by kernel_rfl)) ?_
  intro W base args ds gs before hval0 hW hcnd hsz0 _
  have hval : ∀ (j : Nat) t v, Try.f12.params[j]? = some t → args[j]? = some v → Value.okWide Try.prog W .any base t v := hval0
  have hW' := hW
  obtain ⟨p, q, hA0, hV, rfl, hfz, hnd⟩ := hW
  have hA : DataW.TrodAll enc Try.prog W 0 (fun _ => true) true Try.f12.params.toList args.toList ds p := hA0
  rw [Try.params12] at hA hval
  obtain ⟨v0, vs0, d0, ds0, p0, q0, hargs, rfl, rfl, h0, r0⟩ := trodAll_cons hA
  obtain ⟨v1, vs1, d1, ds1, p1, q1, rfl, rfl, rfl, h1, r1⟩ := trodAll_cons r0
  obtain ⟨rfl, rfl, rfl⟩ := trodAll_nil r1
  obtain rfl : args = #[v0, v1] := by cases args; simp_all
  obtain ⟨rfl, rfl⟩ := trodVars_none hV
  have lt0 : ∀ x ∈ p0, x.block < W.heap.size := by obtain ⟨m, hm⟩ := h0; exact DataW.trod_lt m _ _ _ hm
  obtain ⟨cs0, rfl, _⟩ := okWide_struct Try.underlying83 (hval 0 83 v0 rfl rfl)
  obtain ⟨x0, hB0, hR0⟩ := OpT.argS op83 h0 (κ := fun _ => undef) (Hh := fun _ => [])
  have lt1 : ∀ x ∈ p1, x.block < W.heap.size := by obtain ⟨m, hm⟩ := h1; exact DataW.trod_lt m _ _ _ hm
  obtain ⟨cs1, rfl, _⟩ := okWide_struct Try.underlying83 (hval 1 83 v1 rfl rfl)
  obtain ⟨x1, hB1, hR1⟩ := OpT.argS op83 h1 (κ := fun _ => undef) (Hh := fun _ => [])
  refine (law_calls (w12 x0.1 x0.2 x1.1 x1.2 (by have := hB0.1.1; omega) (fun x hx => ⟨by have := (hB0.1.2 x hx).2.1; unfold BS at this; omega, by have := (hB0.1.2 x hx).2.2.2.1; omega⟩) (by have := hB0.2.1; omega) (by have := hB1.1.1; omega) (fun x hx => ⟨by have := (hB1.1.2 x hx).2.1; unfold BS at this; omega, by have := (hB1.1.2 x hx).2.2.2.1; omega⟩) (by have := hB1.2.1; omega)) (vs := [_, _]) (by simp) rfl rfl (fa_cons hR0 (fa_cons hR1 fa_nil))).mono fun e W' ⟨he, bel⟩ => ?_
  subst he
  exact ⟨_, rfl, _, _, _, [], _, [], hW', trodAll_mk1 (shut_bool Try.underlying4 _), (trodAll_cons_mk (Below.trod laidOut (by kernel_rfl) (of_decide_eq_true (by kernel_rfl)) h0 bel lt0) (trodAll_cons_mk (Below.trod laidOut (by kernel_rfl) (of_decide_eq_true (by kernel_rfl)) h1 bel lt1) trodAll_mk0)), rfl, bel.frame _, fun h => by cases h⟩
theorem over : Rows.fnExactTreeSameRow.holds Try.pinned (OpenSpec.ofChange Rows.fnExactTreeSameSpec) :=
  OpenClaim.holds_of_wide 12 Try.f12 rfl rfl rfl rfl rfl rfl rfl ⟨rfl, rfl, rfl, rfl, rfl⟩ rfl rfl rfl rfl rfl (by kernel_rfl) Try.func12 (by kernel_rfl)
    (of_decide_eq_true (by kernel_rfl)) (by unfold Func.isWrapper; first | (rw [if_pos (by decide +kernel)]; kernel_rfl) | (rw [if_neg (by decide +kernel)]; exact ⟨rfl, rfl⟩))
    (fun os started H enc _ => lifted os started H enc)
theorem proved : Rows.FnExactTreeSameSaid := over
#print axioms proved
end Go.Proofs.YtloodkhdngipbaaT.fnExactTreeSame
namespace Go.Proofs.Ytloodkhdngipbaa
/-- The row, under a short name, for the claim. -/
theorem fnExactTreeSame_holds : Rows.FnExactTreeSameSaid := Go.Proofs.YtloodkhdngipbaaT.fnExactTreeSame.proved
end Go.Proofs.Ytloodkhdngipbaa
