/- The law laws.FnExactDrop answers true for every input of its row and leaves its arguments as they were. There is no condition beyond the statement's own. -/
import Derived.Test.YtehmdblkkpdmoaaGreatRows
import Derived.Test.YtehmdblkkpdmoaaGreatPk14
import Derived.WalkKit
import Derived.ProofKit
import Derived.OpenShut
import Derived.ShutString
import Derived.ChangeOld
import Derived.Below
import Derived.SizedLaws
import Derived.Carry
namespace Go.Proofs.YtehmdblkkpdmoaaGreatT.fnExactDrop
open Go.ChangeShapes Go.WideShapes Go.ChangeAt Go.RowKit Go.Proofs.YtehmdblkkpdmoaaGreatT Go Go.Proofs.YtehmdblkkpdmoaaGreat
open Go.ChangeMaps (open_string shut_string)
set_option linter.unusedVariables false
set_option linter.unusedSimpArgs false
theorem own : ownKnob Tryz.prog.godebug = none := by kernel_rfl
theorem laidOut : laidOutB Tryz.prog = true := by kernel_rfl
def B96 (x : DeclP) : Prop := BS x.1 ∧ (BI .i64) x.2
set_option maxRecDepth 100000 in
theorem op96 : OpT Tryz.prog 96 2 dT B96 := OpT.struct (en := fun p : ByteArray × Int => (fun s => [TV.s s]) p.1 ++ ((fun n => [TV.i .i64 n]) p.2)) (B := fun p : ByteArray × Int => BS p.1 ∧ (BI .i64) p.2) (fun p : ByteArray × Int => (⟨p.1, p.2⟩ : DeclP)) (fun _ => rfl) (fun _ h => h) (fun _ => rfl) Tryz.underlying96 (by kernel_rfl) (OpT.cons (z := 1) (z' := 1) (OpT.string Tryz.underlying9) rfl (by kernel_rfl) (OpT.last (OpT.int Tryz.underlying3) rfl (by kernel_rfl)) (by kernel_rfl))
def en24 (p : (List DeclP) × (List DeclP) × (List DeclP)) : List TV := (fun l => [TV.sl false 2 (l.map dT)]) p.1 ++ ((fun l => [TV.sl false 2 (l.map dT)]) p.2.1 ++ ((fun l => [TV.sl false 2 (l.map dT)]) p.2.2))
def B24 (p : (List DeclP) × (List DeclP) × (List DeclP)) : Prop := (BL B96) p.1 ∧ (BL B96) p.2.1 ∧ (BL B96) p.2.2
set_option maxRecDepth 100000 in
theorem op24 : OpT Tryz.prog 24 3 en24 B24 := OpT.struct (fun p => p) (fun _ => rfl) (fun _ h => h) (fun _ => rfl) Tryz.underlying24 (by kernel_rfl) (OpT.cons (z := 1) (z' := 2) (OpT.slice op96 Tryz.underlying22 (by kernel_rfl) (by decide)) rfl (by kernel_rfl) (OpT.cons (z := 1) (z' := 1) (OpT.slice op96 Tryz.underlying22 (by kernel_rfl) (by decide)) rfl (by kernel_rfl) (OpT.last (OpT.slice op96 Tryz.underlying22 (by kernel_rfl) (by decide)) rfl (by kernel_rfl)) (by kernel_rfl)) (by kernel_rfl))
def en27 (p : (List Int) × (List Int)) : List TV := (fun l => [TV.sl false 1 (l.map (fun n => [TV.i .i64 n]))]) p.1 ++ ((fun l => [TV.sl false 1 (l.map (fun n => [TV.i .i64 n]))]) p.2)
def B27 (p : (List Int) × (List Int)) : Prop := (BL (BI .i64)) p.1 ∧ (BL (BI .i64)) p.2
set_option maxRecDepth 100000 in
theorem op27 : OpT Tryz.prog 27 2 en27 B27 := OpT.struct (fun p => p) (fun _ => rfl) (fun _ h => h) (fun _ => rfl) Tryz.underlying27 (by kernel_rfl) (OpT.cons (z := 1) (z' := 1) (OpT.slice (OpT.int Tryz.underlying3) Tryz.underlying25 (by kernel_rfl) (by decide)) rfl (by kernel_rfl) (OpT.last (OpT.slice (OpT.int Tryz.underlying3) Tryz.underlying25 (by kernel_rfl) (by decide)) rfl (by kernel_rfl)) (by kernel_rfl))
def B33 (x : EntP) : Prop := (BI .i64) x.1 ∧ (BI .i64) x.2
set_option maxRecDepth 100000 in
theorem op33 : OpT Tryz.prog 33 2 eT B33 := OpT.struct (en := fun p : Int × Int => (fun n => [TV.i .i64 n]) p.1 ++ ((fun n => [TV.i .i64 n]) p.2)) (B := fun p : Int × Int => (BI .i64) p.1 ∧ (BI .i64) p.2) (fun p : Int × Int => (⟨p.1, p.2⟩ : EntP)) (fun _ => rfl) (fun _ h => h) (fun _ => rfl) Tryz.underlying33 (by kernel_rfl) (OpT.cons (z := 1) (z' := 1) (OpT.int Tryz.underlying3) rfl (by kernel_rfl) (OpT.last (OpT.int Tryz.underlying3) rfl (by kernel_rfl)) (by kernel_rfl))
def B57 (x : ValP) : Prop := (BI .i64) x.1 ∧ (BI .i64) x.2.1 ∧ BF x.2.2.1 ∧ BF x.2.2.2
set_option maxRecDepth 100000 in
theorem op57 : OpT Tryz.prog 57 4 vT B57 := OpT.struct (en := fun p : Int × Int × Nat × Nat => (fun n => [TV.i .i64 n]) p.1 ++ ((fun n => [TV.i .i64 n]) p.2.1 ++ ((fun x => [TV.f x]) p.2.2.1 ++ ((fun x => [TV.f x]) p.2.2.2)))) (B := fun p : Int × Int × Nat × Nat => (BI .i64) p.1 ∧ (BI .i64) p.2.1 ∧ BF p.2.2.1 ∧ BF p.2.2.2) (fun p : Int × Int × Nat × Nat => (⟨p.1, p.2.1, p.2.2.1, p.2.2.2⟩ : ValP)) (fun _ => rfl) (fun _ h => h) (fun _ => rfl) Tryz.underlying57 (by kernel_rfl) (OpT.cons (z := 1) (z' := 3) (OpT.int Tryz.underlying3) rfl (by kernel_rfl) (OpT.cons (z := 1) (z' := 2) (OpT.int Tryz.underlying3) rfl (by kernel_rfl) (OpT.cons (z := 1) (z' := 1) (OpT.flt Tryz.underlying55) rfl (by kernel_rfl) (OpT.last (OpT.flt Tryz.underlying55) rfl (by kernel_rfl)) (by kernel_rfl)) (by kernel_rfl)) (by kernel_rfl))
def B102 (x : TableP) : Prop := (BL (BI .i64)) x.1 ∧ (BL B33) x.2.1 ∧ (BL (BL B57)) x.2.2
set_option maxRecDepth 100000 in
theorem op102 : OpT Tryz.prog 102 3 tbT B102 := OpT.struct (en := fun p : (List Int) × (List EntP) × (List (List ValP)) => (fun l => [TV.sl false 1 (l.map (fun n => [TV.i .i64 n]))]) p.1 ++ ((fun l => [TV.sl false 2 (l.map eT)]) p.2.1 ++ ((fun l => [TV.sl false 1 (l.map (fun l => [TV.sl false 4 (l.map vT)]))]) p.2.2))) (B := fun p : (List Int) × (List EntP) × (List (List ValP)) => (BL (BI .i64)) p.1 ∧ (BL B33) p.2.1 ∧ (BL (BL B57)) p.2.2) (fun p : (List Int) × (List EntP) × (List (List ValP)) => (⟨p.1, p.2.1, p.2.2⟩ : TableP)) (fun _ => rfl) (fun _ h => h) (fun _ => rfl) Tryz.underlying102 (by kernel_rfl) (OpT.cons (z := 1) (z' := 2) (OpT.slice (OpT.int Tryz.underlying3) Tryz.underlying25 (by kernel_rfl) (by decide)) rfl (by kernel_rfl) (OpT.cons (z := 1) (z' := 1) (OpT.slice op33 Tryz.underlying99 (by kernel_rfl) (by decide)) rfl (by kernel_rfl) (OpT.last (OpT.slice (OpT.slice op57 Tryz.underlying29 (by kernel_rfl) (by decide)) Tryz.underlying100 (by kernel_rfl) (by decide)) rfl (by kernel_rfl)) (by kernel_rfl)) (by kernel_rfl))
def en31 (p : ((List Int) × (List Int)) × (List TableP) × (List ValP)) : List TV := en27 p.1 ++ ((fun l => [TV.sl false 3 (l.map tbT)]) p.2.1 ++ ((fun l => [TV.sl false 4 (l.map vT)]) p.2.2))
def B31 (p : ((List Int) × (List Int)) × (List TableP) × (List ValP)) : Prop := B27 p.1 ∧ (BL B102) p.2.1 ∧ (BL B57) p.2.2
set_option maxRecDepth 100000 in
theorem op31 : OpT Tryz.prog 31 4 en31 B31 := OpT.struct (fun p => p) (fun _ => rfl) (fun _ h => h) (fun _ => rfl) Tryz.underlying31 (by kernel_rfl) (OpT.cons (z := 2) (z' := 2) op27 rfl (by kernel_rfl) (OpT.cons (z := 1) (z' := 1) (OpT.slice op102 Tryz.underlying28 (by kernel_rfl) (by decide)) rfl (by kernel_rfl) (OpT.last (OpT.slice op57 Tryz.underlying29 (by kernel_rfl) (by decide)) rfl (by kernel_rfl)) (by kernel_rfl)) (by kernel_rfl))
set_option maxRecDepth 100000 in
theorem lifted (os : Os) (started : os.Started) (H : Type) (enc : TypeId × Value → H) :
    ReturnsInHanded {} Tryz.checked os 5 .any (Rows.fnExactDropSpec.pre6 enc Tryz.prog Tryz.f5 Rows.fnExactDropRow.domain false) (Rows.fnExactDropSpec.post enc Tryz.prog Tryz.f5 false true false false) := by
  refine returnsInHanded_of_change_sized (C := Tryz.checked) own started (by kernel_rfl) Tryz.func5
    (ChangeSpec.witness6 (enc := enc) (C := Tryz.checked) false ⟨#[], #[.agg #[.slice none 0 0, .slice none 0 0, .slice none 0 0], .agg #[.slice none 0 0, .slice none 0 0, .slice none 0 0, .slice none 0 0], .agg #[.int .i64 0, .int .i64 0], .int .i64 0], []⟩ 8 (by kernel_rfl) (by kernel_rfl) (by kernel_rfl) (by kernel_rfl)) ?_
  intro W base args ds gs before hval0 hW hcnd hsz0 _
  have hval : ∀ (j : Nat) t v, Tryz.f5.params[j]? = some t → args[j]? = some v → Value.okWide Tryz.prog W .any base t v := hval0
  have hW' := hW
  obtain ⟨p, q, hA0, hV, rfl, hfz, hnd⟩ := hW
  have hA : DataW.TrodAll enc Tryz.prog W 0 (fun _ => true) true Tryz.f5.params.toList args.toList ds p := hA0
  rw [Tryz.params5] at hA hval
  obtain ⟨v0, vs0, d0, ds0, p0, q0, hargs, rfl, rfl, h0, r0⟩ := trodAll_cons hA
  obtain ⟨v1, vs1, d1, ds1, p1, q1, rfl, rfl, rfl, h1, r1⟩ := trodAll_cons r0
  obtain ⟨v2, vs2, d2, ds2, p2, q2, rfl, rfl, rfl, h2, r2⟩ := trodAll_cons r1
  obtain ⟨v3, vs3, d3, ds3, p3, q3, rfl, rfl, rfl, h3, r3⟩ := trodAll_cons r2
  obtain ⟨rfl, rfl, rfl⟩ := trodAll_nil r3
  obtain rfl : args = #[v0, v1, v2, v3] := by cases args; simp_all
  obtain ⟨rfl, rfl⟩ := trodVars_none hV
  have lt0 : ∀ x ∈ p0, x.block < W.heap.size := by obtain ⟨m, hm⟩ := h0; exact DataW.trod_lt m _ _ _ hm
  obtain ⟨cs0, rfl, _⟩ := okWide_struct Tryz.underlying24 (hval 0 24 v0 rfl rfl)
  obtain ⟨x0, hB0, hR0⟩ := OpT.argS op24 h0 (κ := fun _ => undef) (Hh := fun _ => [])
  have lt1 : ∀ x ∈ p1, x.block < W.heap.size := by obtain ⟨m, hm⟩ := h1; exact DataW.trod_lt m _ _ _ hm
  obtain ⟨cs1, rfl, _⟩ := okWide_struct Tryz.underlying31 (hval 1 31 v1 rfl rfl)
  obtain ⟨x1, hB1, hR1⟩ := OpT.argS op31 h1 (κ := fun _ => undef) (Hh := fun _ => [])
  have lt2 : ∀ x ∈ p2, x.block < W.heap.size := by obtain ⟨m, hm⟩ := h2; exact DataW.trod_lt m _ _ _ hm
  obtain ⟨cs2, rfl, _⟩ := okWide_struct Tryz.underlying33 (hval 2 33 v2 rfl rfl)
  obtain ⟨x2, hB2, hR2⟩ := OpT.argS op33 h2 (κ := fun _ => undef) (Hh := fun _ => [])
  have lt3 : ∀ x ∈ p3, x.block < W.heap.size := by obtain ⟨m, hm⟩ := h3; exact DataW.trod_lt m _ _ _ hm
  obtain ⟨b3_, rfl⟩ := okWide_int Tryz.underlying3 (hval 3 3 v3 rfl rfl)
  obtain ⟨x3, hB3, hR3'⟩ := OpT.arg1 (OpT.int Tryz.underlying3) h3 rfl
  have hR3 := RV.pure (κ := fun _ => undef) (H := fun _ => []) _ _ hR3'
  refine (law_calls (w5 x0.1 x0.2.1 x0.2.2 (x1.1.1, x1.1.2, x1.2.1, x1.2.2) x2 x3 ⟨Nat.lt_succ_of_le hB0.1.1, fun d hd => Nat.lt_succ_of_le (hB0.1.2 d hd).1⟩ ⟨Nat.lt_succ_of_le hB0.2.1.1, fun d hd => Nat.lt_succ_of_le (hB0.2.1.2 d hd).1⟩ ⟨Nat.lt_succ_of_le hB0.2.2.1, fun d hd => Nat.lt_succ_of_le (hB0.2.2.2 d hd).1⟩  ⟨Nat.lt_succ_of_le hB1.1.1.1, Nat.lt_succ_of_le hB1.1.2.1, ⟨Nat.lt_succ_of_le hB1.2.1.1, fun t ht => ⟨Nat.lt_succ_of_le (hB1.2.1.2 t ht).1.1, Nat.lt_succ_of_le (hB1.2.1.2 t ht).2.1.1, Nat.lt_succ_of_le (hB1.2.1.2 t ht).2.2.1, fun v hv => Nat.lt_succ_of_le ((hB1.2.1.2 t ht).2.2.2 v hv).1⟩⟩, Nat.lt_succ_of_le hB1.2.2.1⟩ ⟨fun t ht v hv u hu => ⟨(((hB1.2.1.2 t ht).2.2.2 v hv).2 u hu).2.2.1, (((hB1.2.1.2 t ht).2.2.2 v hv).2 u hu).2.2.2⟩, fun u hu => ⟨(hB1.2.2.2 u hu).2.2.1, (hB1.2.2.2 u hu).2.2.2⟩⟩) (vs := [_, _, _, _]) (by simp) rfl rfl (fa_cons hR0 (fa_cons hR1 (fa_cons hR2 (fa_cons hR3 fa_nil))))).mono fun e W' ⟨he, bel⟩ => ?_
  subst he
  exact ⟨_, rfl, _, _, _, [], _, [], hW', trodAll_mk1 (shut_bool Tryz.underlying4 _), (trodAll_cons_mk (Below.trod laidOut (by kernel_rfl) (of_decide_eq_true (by kernel_rfl)) h0 bel lt0) (trodAll_cons_mk (Below.trod laidOut (by kernel_rfl) (of_decide_eq_true (by kernel_rfl)) h1 bel lt1) (trodAll_cons_mk (Below.trod laidOut (by kernel_rfl) (of_decide_eq_true (by kernel_rfl)) h2 bel lt2) (trodAll_cons_mk (Below.trod laidOut (by kernel_rfl) (of_decide_eq_true (by kernel_rfl)) h3 bel lt3) trodAll_mk0)))), rfl, bel.frame _, fun h => by cases h⟩
theorem over : Rows.fnExactDropRow.holds Tryz.pinned (OpenSpec.ofChange Rows.fnExactDropSpec) :=
  OpenClaim.holds_of_wide 5 Tryz.f5 rfl rfl rfl rfl rfl rfl rfl ⟨rfl, rfl, rfl, rfl, rfl⟩ rfl rfl rfl rfl rfl (by kernel_rfl) Tryz.func5 (by kernel_rfl)
    (of_decide_eq_true (by kernel_rfl)) (by unfold Func.isWrapper; first | (rw [if_pos (by decide +kernel)]; kernel_rfl) | (rw [if_neg (by decide +kernel)]; exact ⟨rfl, rfl⟩))
    (fun os started H enc _ => lifted os started H enc)
theorem proved : Rows.FnExactDropSaid := over
#print axioms proved
end Go.Proofs.YtehmdblkkpdmoaaGreatT.fnExactDrop
namespace Go.Proofs.YtehmdblkkpdmoaaGreat
/-- The row, under a short name, for the claim. -/
theorem fnExactDrop_holds : Rows.FnExactDropSaid := Go.Proofs.YtehmdblkkpdmoaaGreatT.fnExactDrop.proved
end Go.Proofs.YtehmdblkkpdmoaaGreat
