/- The law laws.FnExactNewWorld answers true for every input of its row and leaves its arguments as they were. There is no condition beyond the statement's own. -/
import Derived.Test.YtmedelmfkciblaaRows
import Derived.Test.YtmedelmfkciblaaKx6
import Derived.Test.YtmedelmfkciblaaTmAi
import Derived.WalkKit
import Derived.ProofKit
import Derived.OpenShut
import Derived.ShutString
import Derived.ChangeOld
import Derived.Below
import Derived.SizedLaws
import Derived.Carry
namespace Go.Proofs.YtmedelmfkciblaaT.fnExactNewWorld
open Go.ChangeShapes Go.WideShapes Go.ChangeAt Go.RowKit Go.Proofs.YtmedelmfkciblaaT Go Go.Proofs.Ytmedelmfkciblaa
open Go.ChangeMaps (open_string shut_string)
set_option linter.unusedVariables false
set_option linter.unusedSimpArgs false
theorem own : ownKnob Try.prog.godebug = none := by kernel_rfl
theorem laidOut : laidOutB Try.prog = true := by kernel_rfl
def B179 (x : DeclP) : Prop := BS x.1 ∧ (BI .i64) x.2
set_option maxRecDepth 100000 in
theorem op179 : OpT Try.prog 179 2 dT B179 := OpT.struct (fun p : ByteArray × Int => (⟨p.1, p.2⟩ : DeclP)) (fun _ => rfl) (fun _ h => h) (fun _ => rfl) Try.underlying179 (by kernel_rfl) (OpT.cons (OpT.string Try.underlying9) rfl (by kernel_rfl) (OpT.last (OpT.int Try.underlying3) rfl (by kernel_rfl)) (by kernel_rfl))
def en52 (p : (List DeclP) × (List DeclP) × (List DeclP)) : List TV := (fun l => [TV.sl false 2 (l.map dT)]) p.1 ++ ((fun l => [TV.sl false 2 (l.map dT)]) p.2.1 ++ ((fun l => [TV.sl false 2 (l.map dT)]) p.2.2))
def B52 (p : (List DeclP) × (List DeclP) × (List DeclP)) : Prop := (BL B179) p.1 ∧ (BL B179) p.2.1 ∧ (BL B179) p.2.2
set_option maxRecDepth 100000 in
theorem op52 : OpT Try.prog 52 3 en52 B52 := OpT.struct (fun p => p) (fun _ => rfl) (fun _ h => h) (fun _ => rfl) Try.underlying52 (by kernel_rfl) (OpT.cons (OpT.slice op179 Try.underlying50 (by kernel_rfl) (by decide)) rfl (by kernel_rfl) (OpT.cons (OpT.slice op179 Try.underlying50 (by kernel_rfl) (by decide)) rfl (by kernel_rfl) (OpT.last (OpT.slice op179 Try.underlying50 (by kernel_rfl) (by decide)) rfl (by kernel_rfl)) (by kernel_rfl)) (by kernel_rfl))
set_option maxRecDepth 100000 in
theorem lifted (os : Os) (started : os.Started) (H : Type) (enc : TypeId × Value → H) :
    ReturnsInHanded {} Try.checked os 12 .any (Rows.fnExactNewWorldSpec.pre6 enc Try.prog Try.f12 Rows.fnExactNewWorldRow.domain false) (Rows.fnExactNewWorldSpec.post enc Try.prog Try.f12 false true false false) := by
  refine returnsInHanded_of_change_sized (C := Try.checked) own started (by kernel_rfl) Try.func12
    (ChangeSpec.witness6 (enc := enc) (C := Try.checked) false ⟨#[], #[.agg #[.slice none 0 0, .slice none 0 0, .slice none 0 0]], []⟩ 8 (by kernel_rfl) (by kernel_rfl) (by kernel_rfl) (by kernel_rfl)) ?_
  intro W base args ds gs before hval0 hW hcnd hsz0 _
  have hval : ∀ (j : Nat) t v, Try.f12.params[j]? = some t → args[j]? = some v → Value.okWide Try.prog W .any base t v := hval0
  have hW' := hW
  obtain ⟨p, q, hA0, hV, rfl, hfz, hnd⟩ := hW
  have hA : DataW.TrodAll enc Try.prog W 0 (fun _ => true) true Try.f12.params.toList args.toList ds p := hA0
  rw [Try.params12] at hA hval
  obtain ⟨v0, vs0, d0, ds0, p0, q0, hargs, rfl, rfl, h0, r0⟩ := trodAll_cons hA
  obtain ⟨rfl, rfl, rfl⟩ := trodAll_nil r0
  obtain rfl : args = #[v0] := by cases args; simp_all
  obtain ⟨rfl, rfl⟩ := trodVars_none hV
  have lt0 : ∀ x ∈ p0, x.block < W.heap.size := by obtain ⟨m, hm⟩ := h0; exact DataW.trod_lt m _ _ _ hm
  obtain ⟨cs0, rfl, _⟩ := okWide_struct Try.underlying52 (hval 0 52 v0 rfl rfl)
  obtain ⟨x0, hB0, hR0⟩ := OpT.argS op52 h0 (κ := fun _ => undef) (Hh := fun _ => [])
  refine (law_calls (w12 x0.1 x0.2.1 x0.2.2 ⟨Nat.lt_succ_of_le hB0.1.1, fun d hd => Nat.lt_succ_of_le (hB0.1.2 d hd).1⟩ ⟨Nat.lt_succ_of_le hB0.2.1.1, fun d hd => Nat.lt_succ_of_le (hB0.2.1.2 d hd).1⟩ ⟨Nat.lt_succ_of_le hB0.2.2.1, fun d hd => Nat.lt_succ_of_le (hB0.2.2.2 d hd).1⟩ ) (vs := [_]) (by simp) rfl rfl (fa_cons hR0 fa_nil)).mono fun e W' ⟨he, bel⟩ => ?_
  subst he
  exact ⟨_, rfl, _, _, _, [], _, [], hW', trodAll_mk1 (shut_bool Try.underlying4 _), (trodAll_cons_mk (Below.trod laidOut (by kernel_rfl) (of_decide_eq_true (by kernel_rfl)) h0 bel lt0) trodAll_mk0), rfl, bel.frame _, fun h => by cases h⟩
theorem over : Rows.fnExactNewWorldRow.holds Try.pinned (OpenSpec.ofChange Rows.fnExactNewWorldSpec) :=
  OpenClaim.holds_of_wide 12 Try.f12 rfl rfl rfl rfl rfl rfl rfl ⟨rfl, rfl, rfl, rfl, rfl⟩ rfl rfl rfl rfl rfl (by kernel_rfl) Try.func12 (by kernel_rfl)
    (of_decide_eq_true (by kernel_rfl)) (by unfold Func.isWrapper; first | (rw [if_pos (by decide +kernel)]; kernel_rfl) | (rw [if_neg (by decide +kernel)]; exact ⟨rfl, rfl⟩))
    (fun os started H enc _ => lifted os started H enc)
theorem proved : Rows.FnExactNewWorldSaid := over
#print axioms proved
end Go.Proofs.YtmedelmfkciblaaT.fnExactNewWorld
namespace Go.Proofs.Ytmedelmfkciblaa
/-- The row, under a short name, for the claim. -/
theorem fnExactNewWorld_holds : Rows.FnExactNewWorldSaid := Go.Proofs.YtmedelmfkciblaaT.fnExactNewWorld.proved
end Go.Proofs.Ytmedelmfkciblaa
