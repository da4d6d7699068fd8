/- The law laws.FnExactCmdOk answers true for every input of its row and leaves its arguments as they were. There is no condition beyond the statement's own. -/
import Derived.Test.YtmedelmfkciblaaRows
import Derived.Test.YtmedelmfkciblaaPk12
import Derived.WalkKit
import Derived.ProofKit
import Derived.OpenShut
import Derived.ShutString
import Derived.ChangeOld
import Derived.Below
import Derived.SizedLaws
import Derived.Carry
namespace Go.Proofs.YtmedelmfkciblaaT.fnExactCmdOk
open Go.ChangeShapes Go.WideShapes Go.ChangeAt Go.RowKit Go.Proofs.YtmedelmfkciblaaT Go Go.Proofs.Ytmedelmfkciblaa
open Go.ChangeMaps (open_string shut_string)
set_option linter.unusedVariables false
set_option linter.unusedSimpArgs false
theorem own : ownKnob Try.prog.godebug = none := by kernel_rfl
theorem laidOut : laidOutB Try.prog = true := by kernel_rfl
def B179 (x : DeclP) : Prop := BS x.1 ∧ (BI .i64) x.2
set_option maxRecDepth 100000 in
theorem op179 : OpT Try.prog 179 2 dT B179 := OpT.struct (en := fun p : ByteArray × Int => (fun s => [TV.s s]) p.1 ++ ((fun n => [TV.i .i64 n]) p.2)) (B := fun p : ByteArray × Int => BS p.1 ∧ (BI .i64) p.2) (fun p : ByteArray × Int => (⟨p.1, p.2⟩ : DeclP)) (fun _ => rfl) (fun _ h => h) (fun _ => rfl) Try.underlying179 (by kernel_rfl) (OpT.cons (z := 1) (z' := 1) (OpT.string Try.underlying9) rfl (by kernel_rfl) (OpT.last (OpT.int Try.underlying3) rfl (by kernel_rfl)) (by kernel_rfl))
def en52 (p : (List DeclP) × (List DeclP) × (List DeclP)) : List TV := (fun l => [TV.sl false 2 (l.map dT)]) p.1 ++ ((fun l => [TV.sl false 2 (l.map dT)]) p.2.1 ++ ((fun l => [TV.sl false 2 (l.map dT)]) p.2.2))
def B52 (p : (List DeclP) × (List DeclP) × (List DeclP)) : Prop := (BL B179) p.1 ∧ (BL B179) p.2.1 ∧ (BL B179) p.2.2
set_option maxRecDepth 100000 in
theorem op52 : OpT Try.prog 52 3 en52 B52 := OpT.struct (fun p => p) (fun _ => rfl) (fun _ h => h) (fun _ => rfl) Try.underlying52 (by kernel_rfl) (OpT.cons (z := 1) (z' := 2) (OpT.slice op179 Try.underlying50 (by kernel_rfl) (by decide)) rfl (by kernel_rfl) (OpT.cons (z := 1) (z' := 1) (OpT.slice op179 Try.underlying50 (by kernel_rfl) (by decide)) rfl (by kernel_rfl) (OpT.last (OpT.slice op179 Try.underlying50 (by kernel_rfl) (by decide)) rfl (by kernel_rfl)) (by kernel_rfl)) (by kernel_rfl))
def B54 (x : EntP) : Prop := (BI .i64) x.1 ∧ (BI .i64) x.2
set_option maxRecDepth 100000 in
theorem op54 : OpT Try.prog 54 2 eT B54 := OpT.struct (en := fun p : Int × Int => (fun n => [TV.i .i64 n]) p.1 ++ ((fun n => [TV.i .i64 n]) p.2)) (B := fun p : Int × Int => (BI .i64) p.1 ∧ (BI .i64) p.2) (fun p : Int × Int => (⟨p.1, p.2⟩ : EntP)) (fun _ => rfl) (fun _ h => h) (fun _ => rfl) Try.underlying54 (by kernel_rfl) (OpT.cons (z := 1) (z' := 1) (OpT.int Try.underlying3) rfl (by kernel_rfl) (OpT.last (OpT.int Try.underlying3) rfl (by kernel_rfl)) (by kernel_rfl))
def B57 (x : ValP) : Prop := (BI .i64) x.1 ∧ (BI .i64) x.2.1 ∧ BF x.2.2.1 ∧ BF x.2.2.2
set_option maxRecDepth 100000 in
theorem op57 : OpT Try.prog 57 4 vT B57 := OpT.struct (en := fun p : Int × Int × Nat × Nat => (fun n => [TV.i .i64 n]) p.1 ++ ((fun n => [TV.i .i64 n]) p.2.1 ++ ((fun x => [TV.f x]) p.2.2.1 ++ ((fun x => [TV.f x]) p.2.2.2)))) (B := fun p : Int × Int × Nat × Nat => (BI .i64) p.1 ∧ (BI .i64) p.2.1 ∧ BF p.2.2.1 ∧ BF p.2.2.2) (fun p : Int × Int × Nat × Nat => (⟨p.1, p.2.1, p.2.2.1, p.2.2.2⟩ : ValP)) (fun _ => rfl) (fun _ h => h) (fun _ => rfl) Try.underlying57 (by kernel_rfl) (OpT.cons (z := 1) (z' := 3) (OpT.int Try.underlying3) rfl (by kernel_rfl) (OpT.cons (z := 1) (z' := 2) (OpT.int Try.underlying3) rfl (by kernel_rfl) (OpT.cons (z := 1) (z' := 1) (OpT.flt Try.underlying55) rfl (by kernel_rfl) (OpT.last (OpT.flt Try.underlying55) rfl (by kernel_rfl)) (by kernel_rfl)) (by kernel_rfl)) (by kernel_rfl))
def B185 (x : CellP) : Prop := (BI .i64) x.1 ∧ B57 x.2
set_option maxRecDepth 100000 in
theorem op185 : OpT Try.prog 185 5 clT B185 := OpT.struct (en := fun p : Int × ValP => (fun n => [TV.i .i64 n]) p.1 ++ (vT p.2)) (B := fun p : Int × ValP => (BI .i64) p.1 ∧ B57 p.2) (fun p : Int × ValP => (⟨p.1, p.2⟩ : CellP)) (fun _ => rfl) (fun _ h => h) (fun _ => rfl) Try.underlying185 (by kernel_rfl) (OpT.cons (z := 1) (z' := 4) (OpT.int Try.underlying3) rfl (by kernel_rfl) (OpT.last op57 rfl (by kernel_rfl)) (by kernel_rfl))
def B60 (x : CmdP) : Prop := (BI .i64) x.1 ∧ B54 x.2.1 ∧ (BI .i64) x.2.2.1 ∧ B57 x.2.2.2.1 ∧ (BL B185) x.2.2.2.2
set_option maxRecDepth 100000 in
theorem op60 : OpT Try.prog 60 9 cmT B60 := OpT.struct (en := fun p : Int × EntP × Int × ValP × (List CellP) => (fun n => [TV.i .i64 n]) p.1 ++ (eT p.2.1 ++ ((fun n => [TV.i .i64 n]) p.2.2.1 ++ (vT p.2.2.2.1 ++ ((fun l => [TV.sl false 5 (l.map clT)]) p.2.2.2.2))))) (B := fun p : Int × EntP × Int × ValP × (List CellP) => (BI .i64) p.1 ∧ B54 p.2.1 ∧ (BI .i64) p.2.2.1 ∧ B57 p.2.2.2.1 ∧ (BL B185) p.2.2.2.2) (fun p : Int × EntP × Int × ValP × (List CellP) => (⟨p.1, p.2.1, p.2.2.1, p.2.2.2.1, p.2.2.2.2⟩ : CmdP)) (fun _ => rfl) (fun _ h => h) (fun _ => rfl) Try.underlying60 (by kernel_rfl) (OpT.cons (z := 1) (z' := 8) (OpT.int Try.underlying3) rfl (by kernel_rfl) (OpT.cons (z := 2) (z' := 6) op54 rfl (by kernel_rfl) (OpT.cons (z := 1) (z' := 5) (OpT.int Try.underlying3) rfl (by kernel_rfl) (OpT.cons (z := 4) (z' := 1) op57 rfl (by kernel_rfl) (OpT.last (OpT.slice op185 Try.underlying58 (by kernel_rfl) (by decide)) rfl (by kernel_rfl)) (by kernel_rfl)) (by kernel_rfl)) (by kernel_rfl)) (by kernel_rfl))
set_option maxRecDepth 100000 in
theorem lifted (os : Os) (started : os.Started) (H : Type) (enc : TypeId × Value → H) :
    ReturnsInHanded {} Try.checked os 8 .any (Rows.fnExactCmdOkSpec.pre6 enc Try.prog Try.f8 Rows.fnExactCmdOkRow.domain false) (Rows.fnExactCmdOkSpec.post enc Try.prog Try.f8 false true false false) := by
  refine returnsInHanded_of_change_sized (C := Try.checked) own started (by kernel_rfl) Try.func8
    (ChangeSpec.witness6 (enc := enc) (C := Try.checked) false ⟨#[], #[.agg #[.slice none 0 0, .slice none 0 0, .slice none 0 0], .agg #[.int .i64 0, .int .i64 0, .int .i64 0, .int .i64 0, .int .i64 0, .int .i64 0, .float .f64 0, .float .f64 0, .slice none 0 0]], []⟩ 8 (by kernel_rfl) (by kernel_rfl) (by kernel_rfl) (by kernel_rfl)) ?_
  intro W base args ds gs before hval0 hW hcnd hsz0 _
  have hval : ∀ (j : Nat) t v, Try.f8.params[j]? = some t → args[j]? = some v → Value.okWide Try.prog W .any base t v := hval0
  have hW' := hW
  obtain ⟨p, q, hA0, hV, rfl, hfz, hnd⟩ := hW
  have hA : DataW.TrodAll enc Try.prog W 0 (fun _ => true) true Try.f8.params.toList args.toList ds p := hA0
  rw [Try.params8] at hA hval
  obtain ⟨v0, vs0, d0, ds0, p0, q0, hargs, rfl, rfl, h0, r0⟩ := trodAll_cons hA
  obtain ⟨v1, vs1, d1, ds1, p1, q1, rfl, rfl, rfl, h1, r1⟩ := trodAll_cons r0
  obtain ⟨rfl, rfl, rfl⟩ := trodAll_nil r1
  obtain rfl : args = #[v0, v1] := by cases args; simp_all
  obtain ⟨rfl, rfl⟩ := trodVars_none hV
  have lt0 : ∀ x ∈ p0, x.block < W.heap.size := by obtain ⟨m, hm⟩ := h0; exact DataW.trod_lt m _ _ _ hm
  obtain ⟨cs0, rfl, _⟩ := okWide_struct Try.underlying52 (hval 0 52 v0 rfl rfl)
  obtain ⟨x0, hB0, hR0⟩ := OpT.argS op52 h0 (κ := fun _ => undef) (Hh := fun _ => [])
  have lt1 : ∀ x ∈ p1, x.block < W.heap.size := by obtain ⟨m, hm⟩ := h1; exact DataW.trod_lt m _ _ _ hm
  obtain ⟨cs1, rfl, _⟩ := okWide_struct Try.underlying60 (hval 1 60 v1 rfl rfl)
  obtain ⟨x1, hB1, hR1⟩ := OpT.argS op60 h1 (κ := fun _ => undef) (Hh := fun _ => [])
  refine (law_calls (w8 x0.1 x0.2.1 x0.2.2 x1 ⟨Nat.lt_succ_of_le hB0.1.1, fun d hd => Nat.lt_succ_of_le (hB0.1.2 d hd).1⟩ ⟨Nat.lt_succ_of_le hB0.2.1.1, fun d hd => Nat.lt_succ_of_le (hB0.2.1.2 d hd).1⟩ ⟨Nat.lt_succ_of_le hB0.2.2.1, fun d hd => Nat.lt_succ_of_le (hB0.2.2.2 d hd).1⟩  (Nat.lt_succ_of_le hB1.2.2.2.2.1) (fun y hy => ⟨(hB1.2.2.2.2.2 y hy).2.2.2.1, (hB1.2.2.2.2.2 y hy).2.2.2.2⟩) ⟨hB1.2.2.2.1.2.2.1, hB1.2.2.2.1.2.2.2⟩) (vs := [_, _]) (by simp) rfl rfl (fa_cons hR0 (fa_cons hR1 fa_nil))).mono fun e W' ⟨he, bel⟩ => ?_
  subst he
  exact ⟨_, rfl, _, _, _, [], _, [], hW', trodAll_mk1 (shut_bool Try.underlying4 _), (trodAll_cons_mk (Below.trod laidOut (by kernel_rfl) (of_decide_eq_true (by kernel_rfl)) h0 bel lt0) (trodAll_cons_mk (Below.trod laidOut (by kernel_rfl) (of_decide_eq_true (by kernel_rfl)) h1 bel lt1) trodAll_mk0)), rfl, bel.frame _, fun h => by cases h⟩
theorem over : Rows.fnExactCmdOkRow.holds Try.pinned (OpenSpec.ofChange Rows.fnExactCmdOkSpec) :=
  OpenClaim.holds_of_wide 8 Try.f8 rfl rfl rfl rfl rfl rfl rfl ⟨rfl, rfl, rfl, rfl, rfl⟩ rfl rfl rfl rfl rfl (by kernel_rfl) Try.func8 (by kernel_rfl)
    (of_decide_eq_true (by kernel_rfl)) (by unfold Func.isWrapper; first | (rw [if_pos (by decide +kernel)]; kernel_rfl) | (rw [if_neg (by decide +kernel)]; exact ⟨rfl, rfl⟩))
    (fun os started H enc _ => lifted os started H enc)
theorem proved : Rows.FnExactCmdOkSaid := over
#print axioms proved
end Go.Proofs.YtmedelmfkciblaaT.fnExactCmdOk
namespace Go.Proofs.Ytmedelmfkciblaa
/-- The row, under a short name, for the claim. -/
theorem fnExactCmdOk_holds : Rows.FnExactCmdOkSaid := Go.Proofs.YtmedelmfkciblaaT.fnExactCmdOk.proved
end Go.Proofs.Ytmedelmfkciblaa
