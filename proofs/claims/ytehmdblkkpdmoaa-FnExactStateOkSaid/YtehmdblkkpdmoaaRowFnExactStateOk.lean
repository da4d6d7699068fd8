/- The law laws.FnExactStateOk answers true for every input of its row and leaves its arguments as they were. There is no condition beyond the statement's own. -/
import Derived.Test.YtehmdblkkpdmoaaRows
import Derived.Test.YtehmdblkkpdmoaaPk12
import Derived.WalkKit
import Derived.ProofKit
import Derived.OpenShut
import Derived.ShutString
import Derived.ChangeOld
import Derived.Below
import Derived.SizedLaws
import Derived.Carry
namespace Go.Proofs.YtehmdblkkpdmoaaT.fnExactStateOk
open Go.ChangeShapes Go.WideShapes Go.ChangeAt Go.RowKit Go.Proofs.YtehmdblkkpdmoaaT Go Go.Proofs.Ytehmdblkkpdmoaa
open Go.ChangeMaps (open_string shut_string)
set_option linter.unusedVariables false
set_option linter.unusedSimpArgs false
theorem own : ownKnob Try.prog.godebug = none := by kernel_rfl
theorem laidOut : laidOutB Try.prog = true := by kernel_rfl
def B134 (x : DeclP) : Prop := BS x.1 ∧ (BI .i64) x.2
set_option maxRecDepth 100000 in
theorem op134 : OpT Try.prog 134 2 dT B134 := OpT.struct (en := fun p : ByteArray × Int => (fun s => [TV.s s]) p.1 ++ ((fun n => [TV.i .i64 n]) p.2)) (B := fun p : ByteArray × Int => BS p.1 ∧ (BI .i64) p.2) (fun p : ByteArray × Int => (⟨p.1, p.2⟩ : DeclP)) (fun _ => rfl) (fun _ h => h) (fun _ => rfl) Try.underlying134 (by kernel_rfl) (OpT.cons (z := 1) (z' := 1) (OpT.string Try.underlying9) rfl (by kernel_rfl) (OpT.last (OpT.int Try.underlying3) rfl (by kernel_rfl)) (by kernel_rfl))
def en24 (p : (List DeclP) × (List DeclP) × (List DeclP)) : List TV := (fun l => [TV.sl false 2 (l.map dT)]) p.1 ++ ((fun l => [TV.sl false 2 (l.map dT)]) p.2.1 ++ ((fun l => [TV.sl false 2 (l.map dT)]) p.2.2))
def B24 (p : (List DeclP) × (List DeclP) × (List DeclP)) : Prop := (BL B134) p.1 ∧ (BL B134) p.2.1 ∧ (BL B134) p.2.2
set_option maxRecDepth 100000 in
theorem op24 : OpT Try.prog 24 3 en24 B24 := OpT.struct (fun p => p) (fun _ => rfl) (fun _ h => h) (fun _ => rfl) Try.underlying24 (by kernel_rfl) (OpT.cons (z := 1) (z' := 2) (OpT.slice op134 Try.underlying22 (by kernel_rfl) (by decide)) rfl (by kernel_rfl) (OpT.cons (z := 1) (z' := 1) (OpT.slice op134 Try.underlying22 (by kernel_rfl) (by decide)) rfl (by kernel_rfl) (OpT.last (OpT.slice op134 Try.underlying22 (by kernel_rfl) (by decide)) rfl (by kernel_rfl)) (by kernel_rfl)) (by kernel_rfl))
def en27 (p : (List Int) × (List Int)) : List TV := (fun l => [TV.sl false 1 (l.map (fun n => [TV.i .i64 n]))]) p.1 ++ ((fun l => [TV.sl false 1 (l.map (fun n => [TV.i .i64 n]))]) p.2)
def B27 (p : (List Int) × (List Int)) : Prop := (BL (BI .i64)) p.1 ∧ (BL (BI .i64)) p.2
set_option maxRecDepth 100000 in
theorem op27 : OpT Try.prog 27 2 en27 B27 := OpT.struct (fun p => p) (fun _ => rfl) (fun _ h => h) (fun _ => rfl) Try.underlying27 (by kernel_rfl) (OpT.cons (z := 1) (z' := 1) (OpT.slice (OpT.int Try.underlying3) Try.underlying25 (by kernel_rfl) (by decide)) rfl (by kernel_rfl) (OpT.last (OpT.slice (OpT.int Try.underlying3) Try.underlying25 (by kernel_rfl) (by decide)) rfl (by kernel_rfl)) (by kernel_rfl))
def B49 (x : EntP) : Prop := (BI .i64) x.1 ∧ (BI .i64) x.2
set_option maxRecDepth 100000 in
theorem op49 : OpT Try.prog 49 2 eT B49 := OpT.struct (en := fun p : Int × Int => (fun n => [TV.i .i64 n]) p.1 ++ ((fun n => [TV.i .i64 n]) p.2)) (B := fun p : Int × Int => (BI .i64) p.1 ∧ (BI .i64) p.2) (fun p : Int × Int => (⟨p.1, p.2⟩ : EntP)) (fun _ => rfl) (fun _ h => h) (fun _ => rfl) Try.underlying49 (by kernel_rfl) (OpT.cons (z := 1) (z' := 1) (OpT.int Try.underlying3) rfl (by kernel_rfl) (OpT.last (OpT.int Try.underlying3) rfl (by kernel_rfl)) (by kernel_rfl))
def B146 (x : ValP) : Prop := (BI .i64) x.1 ∧ (BI .i64) x.2.1 ∧ BF x.2.2.1 ∧ BF x.2.2.2
set_option maxRecDepth 100000 in
theorem op146 : OpT Try.prog 146 4 vT B146 := OpT.struct (en := fun p : Int × Int × Nat × Nat => (fun n => [TV.i .i64 n]) p.1 ++ ((fun n => [TV.i .i64 n]) p.2.1 ++ ((fun x => [TV.f x]) p.2.2.1 ++ ((fun x => [TV.f x]) p.2.2.2)))) (B := fun p : Int × Int × Nat × Nat => (BI .i64) p.1 ∧ (BI .i64) p.2.1 ∧ BF p.2.2.1 ∧ BF p.2.2.2) (fun p : Int × Int × Nat × Nat => (⟨p.1, p.2.1, p.2.2.1, p.2.2.2⟩ : ValP)) (fun _ => rfl) (fun _ h => h) (fun _ => rfl) Try.underlying146 (by kernel_rfl) (OpT.cons (z := 1) (z' := 3) (OpT.int Try.underlying3) rfl (by kernel_rfl) (OpT.cons (z := 1) (z' := 2) (OpT.int Try.underlying3) rfl (by kernel_rfl) (OpT.cons (z := 1) (z' := 1) (OpT.flt Try.underlying50) rfl (by kernel_rfl) (OpT.last (OpT.flt Try.underlying50) rfl (by kernel_rfl)) (by kernel_rfl)) (by kernel_rfl)) (by kernel_rfl))
def B139 (x : TableP) : Prop := (BL (BI .i64)) x.1 ∧ (BL B49) x.2.1 ∧ (BL (BL B146)) x.2.2
set_option maxRecDepth 100000 in
theorem op139 : OpT Try.prog 139 3 tbT B139 := OpT.struct (en := fun p : (List Int) × (List EntP) × (List (List ValP)) => (fun l => [TV.sl false 1 (l.map (fun n => [TV.i .i64 n]))]) p.1 ++ ((fun l => [TV.sl false 2 (l.map eT)]) p.2.1 ++ ((fun l => [TV.sl false 1 (l.map (fun l => [TV.sl false 4 (l.map vT)]))]) p.2.2))) (B := fun p : (List Int) × (List EntP) × (List (List ValP)) => (BL (BI .i64)) p.1 ∧ (BL B49) p.2.1 ∧ (BL (BL B146)) p.2.2) (fun p : (List Int) × (List EntP) × (List (List ValP)) => (⟨p.1, p.2.1, p.2.2⟩ : TableP)) (fun _ => rfl) (fun _ h => h) (fun _ => rfl) Try.underlying139 (by kernel_rfl) (OpT.cons (z := 1) (z' := 2) (OpT.slice (OpT.int Try.underlying3) Try.underlying25 (by kernel_rfl) (by decide)) rfl (by kernel_rfl) (OpT.cons (z := 1) (z' := 1) (OpT.slice op49 Try.underlying136 (by kernel_rfl) (by decide)) rfl (by kernel_rfl) (OpT.last (OpT.slice (OpT.slice op146 Try.underlying29 (by kernel_rfl) (by decide)) Try.underlying137 (by kernel_rfl) (by decide)) rfl (by kernel_rfl)) (by kernel_rfl)) (by kernel_rfl))
def en31 (p : ((List Int) × (List Int)) × (List TableP) × (List ValP)) : List TV := en27 p.1 ++ ((fun l => [TV.sl false 3 (l.map tbT)]) p.2.1 ++ ((fun l => [TV.sl false 4 (l.map vT)]) p.2.2))
def B31 (p : ((List Int) × (List Int)) × (List TableP) × (List ValP)) : Prop := B27 p.1 ∧ (BL B139) p.2.1 ∧ (BL B146) p.2.2
set_option maxRecDepth 100000 in
theorem op31 : OpT Try.prog 31 4 en31 B31 := OpT.struct (fun p => p) (fun _ => rfl) (fun _ h => h) (fun _ => rfl) Try.underlying31 (by kernel_rfl) (OpT.cons (z := 2) (z' := 2) op27 rfl (by kernel_rfl) (OpT.cons (z := 1) (z' := 1) (OpT.slice op139 Try.underlying28 (by kernel_rfl) (by decide)) rfl (by kernel_rfl) (OpT.last (OpT.slice op146 Try.underlying29 (by kernel_rfl) (by decide)) rfl (by kernel_rfl)) (by kernel_rfl)) (by kernel_rfl))
def B158 (x : StrP) : Prop := (BI .i64) x.1 ∧ (BL B146) x.2.1 ∧ (BL B146) x.2.2
set_option maxRecDepth 100000 in
theorem op158 : OpT Try.prog 158 3 stT B158 := OpT.struct (en := fun p : Int × (List ValP) × (List ValP) => (fun n => [TV.i .i64 n]) p.1 ++ ((fun l => [TV.sl false 4 (l.map vT)]) p.2.1 ++ ((fun l => [TV.sl false 4 (l.map vT)]) p.2.2))) (B := fun p : Int × (List ValP) × (List ValP) => (BI .i64) p.1 ∧ (BL B146) p.2.1 ∧ (BL B146) p.2.2) (fun p : Int × (List ValP) × (List ValP) => (⟨p.1, p.2.1, p.2.2⟩ : StrP)) (fun _ => rfl) (fun _ h => h) (fun _ => rfl) Try.underlying158 (by kernel_rfl) (OpT.cons (z := 1) (z' := 2) (OpT.int Try.underlying3) rfl (by kernel_rfl) (OpT.cons (z := 1) (z' := 1) (OpT.slice op146 Try.underlying29 (by kernel_rfl) (by decide)) rfl (by kernel_rfl) (OpT.last (OpT.slice op146 Try.underlying29 (by kernel_rfl) (by decide)) rfl (by kernel_rfl)) (by kernel_rfl)) (by kernel_rfl))
def en61 (p : (((List Int) × (List Int)) × (List TableP) × (List ValP)) × (List StrP) × (List Int)) : List TV := en31 p.1 ++ ((fun l => [TV.sl false 3 (l.map stT)]) p.2.1 ++ ((fun l => [TV.sl false 1 (l.map (fun n => [TV.i .i64 n]))]) p.2.2))
def B61 (p : (((List Int) × (List Int)) × (List TableP) × (List ValP)) × (List StrP) × (List Int)) : Prop := B31 p.1 ∧ (BL B158) p.2.1 ∧ (BL (BI .i64)) p.2.2
set_option maxRecDepth 100000 in
theorem op61 : OpT Try.prog 61 6 en61 B61 := OpT.struct (fun p => p) (fun _ => rfl) (fun _ h => h) (fun _ => rfl) Try.underlying61 (by kernel_rfl) (OpT.cons (z := 4) (z' := 2) op31 rfl (by kernel_rfl) (OpT.cons (z := 1) (z' := 1) (OpT.slice op158 Try.underlying59 (by kernel_rfl) (by decide)) rfl (by kernel_rfl) (OpT.last (OpT.slice (OpT.int Try.underlying3) Try.underlying25 (by kernel_rfl) (by decide)) rfl (by kernel_rfl)) (by kernel_rfl)) (by kernel_rfl))
set_option maxRecDepth 100000 in
theorem lifted (os : Os) (started : os.Started) (H : Type) (enc : TypeId × Value → H) :
    ReturnsInHanded {} Try.checked os 5 .any (Rows.fnExactStateOkSpec.pre6 enc Try.prog Try.f5 Rows.fnExactStateOkRow.domain false) (Rows.fnExactStateOkSpec.post enc Try.prog Try.f5 false true false false) := by
  refine returnsInHanded_of_change_sized (C := Try.checked) own started (by kernel_rfl) Try.func5
    (ChangeSpec.witness6 (enc := enc) (C := Try.checked) false ⟨#[], #[.agg #[.slice none 0 0, .slice none 0 0, .slice none 0 0], .agg #[.slice none 0 0, .slice none 0 0, .slice none 0 0, .slice none 0 0, .slice none 0 0, .slice none 0 0]], []⟩ 8 (by kernel_rfl) (by kernel_rfl) (by kernel_rfl) (by kernel_rfl)) ?_
  intro W base args ds gs before hval0 hW hcnd hsz0 _
  have hval : ∀ (j : Nat) t v, Try.f5.params[j]? = some t → args[j]? = some v → Value.okWide Try.prog W .any base t v := hval0
  have hW' := hW
  obtain ⟨p, q, hA0, hV, rfl, hfz, hnd⟩ := hW
  have hA : DataW.TrodAll enc Try.prog W 0 (fun _ => true) true Try.f5.params.toList args.toList ds p := hA0
  rw [Try.params5] at hA hval
  obtain ⟨v0, vs0, d0, ds0, p0, q0, hargs, rfl, rfl, h0, r0⟩ := trodAll_cons hA
  obtain ⟨v1, vs1, d1, ds1, p1, q1, rfl, rfl, rfl, h1, r1⟩ := trodAll_cons r0
  obtain ⟨rfl, rfl, rfl⟩ := trodAll_nil r1
  obtain rfl : args = #[v0, v1] := by cases args; simp_all
  obtain ⟨rfl, rfl⟩ := trodVars_none hV
  have lt0 : ∀ x ∈ p0, x.block < W.heap.size := by obtain ⟨m, hm⟩ := h0; exact DataW.trod_lt m _ _ _ hm
  obtain ⟨cs0, rfl, _⟩ := okWide_struct Try.underlying24 (hval 0 24 v0 rfl rfl)
  obtain ⟨x0, hB0, hR0⟩ := OpT.argS op24 h0 (κ := fun _ => undef) (Hh := fun _ => [])
  have lt1 : ∀ x ∈ p1, x.block < W.heap.size := by obtain ⟨m, hm⟩ := h1; exact DataW.trod_lt m _ _ _ hm
  obtain ⟨cs1, rfl, _⟩ := okWide_struct Try.underlying61 (hval 1 61 v1 rfl rfl)
  obtain ⟨x1, hB1, hR1⟩ := OpT.argS op61 h1 (κ := fun _ => undef) (Hh := fun _ => [])
  refine (law_calls (w5 x0.1 x0.2.1 x0.2.2 (x1.1.1.1, x1.1.1.2, x1.1.2.1, x1.1.2.2) x1.2.1 x1.2.2 ⟨Nat.lt_succ_of_le hB0.1.1, fun d hd => Nat.lt_succ_of_le (hB0.1.2 d hd).1⟩ ⟨Nat.lt_succ_of_le hB0.2.1.1, fun d hd => Nat.lt_succ_of_le (hB0.2.1.2 d hd).1⟩ ⟨Nat.lt_succ_of_le hB0.2.2.1, fun d hd => Nat.lt_succ_of_le (hB0.2.2.2 d hd).1⟩  ⟨Nat.lt_succ_of_le hB1.1.1.1.1, Nat.lt_succ_of_le hB1.1.1.2.1, ⟨Nat.lt_succ_of_le hB1.1.2.1.1, fun t ht => ⟨Nat.lt_succ_of_le (hB1.1.2.1.2 t ht).1.1, Nat.lt_succ_of_le (hB1.1.2.1.2 t ht).2.1.1, Nat.lt_succ_of_le (hB1.1.2.1.2 t ht).2.2.1, fun v hv => Nat.lt_succ_of_le ((hB1.1.2.1.2 t ht).2.2.2 v hv).1⟩⟩, Nat.lt_succ_of_le hB1.1.2.2.1⟩ ⟨fun t ht v hv u hu => ⟨(((hB1.1.2.1.2 t ht).2.2.2 v hv).2 u hu).2.2.1, (((hB1.1.2.1.2 t ht).2.2.2 v hv).2 u hu).2.2.2⟩, fun u hu => ⟨(hB1.1.2.2.2 u hu).2.2.1, (hB1.1.2.2.2 u hu).2.2.2⟩⟩ (Nat.lt_succ_of_le hB1.2.1.1) (fun t ht => ⟨(hB1.2.1.2 t ht).2.1.1, (hB1.2.1.2 t ht).2.2.1⟩) (Nat.lt_succ_of_le hB1.2.2.1) (fun t ht => ⟨fun v hv => ⟨((hB1.2.1.2 t ht).2.1.2 v hv).2.2.1, ((hB1.2.1.2 t ht).2.1.2 v hv).2.2.2⟩, fun v hv => ⟨((hB1.2.1.2 t ht).2.2.2 v hv).2.2.1, ((hB1.2.1.2 t ht).2.2.2 v hv).2.2.2⟩⟩)) (vs := [_, _]) (by simp) rfl rfl (fa_cons hR0 (fa_cons hR1 fa_nil))).mono fun e W' ⟨he, bel⟩ => ?_
  subst he
  exact ⟨_, rfl, _, _, _, [], _, [], hW', trodAll_mk1 (shut_bool Try.underlying4 _), (trodAll_cons_mk (Below.trod laidOut (by kernel_rfl) (of_decide_eq_true (by kernel_rfl)) h0 bel lt0) (trodAll_cons_mk (Below.trod laidOut (by kernel_rfl) (of_decide_eq_true (by kernel_rfl)) h1 bel lt1) trodAll_mk0)), rfl, bel.frame _, fun h => by cases h⟩
theorem over : Rows.fnExactStateOkRow.holds Try.pinned (OpenSpec.ofChange Rows.fnExactStateOkSpec) :=
  OpenClaim.holds_of_wide 5 Try.f5 rfl rfl rfl rfl rfl rfl rfl ⟨rfl, rfl, rfl, rfl, rfl⟩ rfl rfl rfl rfl rfl (by kernel_rfl) Try.func5 (by kernel_rfl)
    (of_decide_eq_true (by kernel_rfl)) (by unfold Func.isWrapper; first | (rw [if_pos (by decide +kernel)]; kernel_rfl) | (rw [if_neg (by decide +kernel)]; exact ⟨rfl, rfl⟩))
    (fun os started H enc _ => lifted os started H enc)
theorem proved : Rows.FnExactStateOkSaid := over
#print axioms proved
end Go.Proofs.YtehmdblkkpdmoaaT.fnExactStateOk
namespace Go.Proofs.Ytehmdblkkpdmoaa
/-- The row, under a short name, for the claim. -/
theorem fnExactStateOk_holds : Rows.FnExactStateOkSaid := Go.Proofs.YtehmdblkkpdmoaaT.fnExactStateOk.proved
end Go.Proofs.Ytehmdblkkpdmoaa
