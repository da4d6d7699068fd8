/- Values: what may be turned about; the plain laws. -/
import Derived.Test.YtpoalnlkhlchbaaKq1
import Derived.Test.YtpoalnlkhlchbaaKv4
import Derived.Test.YtpoalnlkhlchbaaKf1
namespace Go.Proofs.YtpoalnlkhlchbaaT
set_option linter.unusedVariables false
set_option linter.unusedSimpArgs false
open Go

theorem sum_comm (a b : Ieee.Datum) : a.sum b = b.sum a := by
  cases a with
  | number s m i =>
    cases b with
    | number t n j => simp only [Ieee.Datum.sum, Int.min_comm j i, Bool.and_comm t s, Int.add_comm (Ieee.signed t n _)]
    | infinity t => rfl
    | nan t f => rfl
  | infinity s =>
    cases b with
    | number t n j => rfl
    | infinity t => cases s <;> cases t <;> rfl
    | nan t f => rfl
  | nan s f => cases b <;> rfl
theorem add_comm' (x y : Nat) : fltArith .add x y = fltArith .add y x := by
  simp only [fltArith]
  show Option.elim (((Ieee.double.read x).sum (Ieee.double.read y)).map Ieee.double.write) nanC canon = Option.elim (((Ieee.double.read y).sum (Ieee.double.read x)).map Ieee.double.write) nanC canon
  rw [sum_comm]
theorem ordq (a b : Ieee.Datum) (h : a.order b = some .eq) : b.order a = some .eq := by
  cases a with
  | number s m i =>
    cases b with
    | number t n j =>
      simp only [Ieee.Datum.order, Option.some.injEq, Int.compare_eq_eq] at h ⊢
      rw [Int.min_comm j i]; exact h.symm
    | infinity t => cases t <;> simp [Ieee.Datum.order] at h
    | nan t f => simp [Ieee.Datum.order] at h
  | infinity s =>
    cases b with
    | number t n j => cases s <;> simp [Ieee.Datum.order] at h
    | infinity t => cases s <;> cases t <;> first | rfl | (revert h; decide)
    | nan t f => simp [Ieee.Datum.order] at h
  | nan s f => cases b <;> simp [Ieee.Datum.order] at h
theorem feq_comm (x y : Nat) : (FloatKind.f64.format.order x y == some .eq) = (FloatKind.f64.format.order y x == some .eq) := by
  rw [Bool.eq_iff_iff, beq_iff_eq, beq_iff_eq]
  exact ⟨ordq _ _, ordq _ _⟩
theorem int_comm {op a b : Int} (h : op = 1 ∨ op = 3 ∨ op = 7 ∨ op = 8 ∨ op = 9) : intOp op a b = intOp op b a := by
  rcases h with rfl | rfl | rfl | rfl | rfl
  · simp [intOp, Int.add_comm]
  · simp [intOp, Int.mul_comm]
  · simp only [intOp]; simp [eq_comm]
  · rfl
  · rfl
theorem real_comm {op : Int} {a b : Nat} (h : op = 1 ∨ op = 3 ∨ op = 7 ∨ op = 8 ∨ op = 9) : realOp op a b = realOp op b a := by
  rcases h with rfl | rfl | rfl | rfl | rfl
  · simp [realOp, add_comm' a b]
  · simp [realOp, mul_comm' a b]
  · unfold realOp; simp [feq_comm a b]
  · rfl
  · rfl
theorem pair_comm {op : Int} {a b : ValP} (h : op = 1 ∨ op = 3 ∨ op = 7 ∨ op = 8 ∨ op = 9) : pairOp op a b = pairOp op b a := by
  rcases h with rfl | rfl | rfl | rfl | rfl
  · simp [pairOp, add_comm' a.2.2.1, add_comm' a.2.2.2]
  · have e : ∀ a b : ValP, pairOp 3 a b = ((3, 0, fltArith .sub (fltArith .mul a.2.2.1 b.2.2.1) (fltArith .mul a.2.2.2 b.2.2.2), fltArith .add (fltArith .mul a.2.2.1 b.2.2.2) (fltArith .mul a.2.2.2 b.2.2.1)), 0) := fun _ _ => rfl
    rw [e, e, mul_comm' a.2.2.1 b.2.2.1, mul_comm' a.2.2.2 b.2.2.2, mul_comm' a.2.2.1 b.2.2.2, mul_comm' a.2.2.2 b.2.2.1, add_comm' (fltArith .mul b.2.2.2 a.2.2.1)]
  · unfold pairOp; simp [feq_comm a.2.2.1, feq_comm a.2.2.2]
  · rfl
  · rfl
theorem bool_comm {op a b : Int} (h : op = 1 ∨ op = 3 ∨ op = 7 ∨ op = 8 ∨ op = 9) : boolOp op a b = boolOp op b a := by
  rcases h with rfl | rfl | rfl | rfl | rfl
  · rfl
  · rfl
  · simp only [boolOp]; simp [eq_comm]
  · simp only [boolOp]; simp [and_comm]
  · simp only [boolOp]; simp [or_comm]
theorem opF_comm {op : Int} {a b : ValP} (h : op = 1 ∨ op = 3 ∨ op = 7 ∨ op = 8 ∨ op = 9) : opF op a b = opF op b a := by
  unfold opF
  by_cases hc : ValOkP a ∧ ValOkP b ∧ a.1 = b.1
  · have hc2 : ValOkP b ∧ ValOkP a ∧ b.1 = a.1 := ⟨hc.2.1, hc.1, hc.2.2.symm⟩
    rw [if_pos hc, if_pos hc2, ← hc.2.2, int_comm h, real_comm h, pair_comm h, bool_comm h]
  · rw [if_neg hc, if_neg fun h2 => hc ⟨h2.2.1, h2.1, h2.2.2.symm⟩]
theorem boolV_ok (b : Bool) : ValOkP (boolV b) := by cases b <;> decide
theorem boolV_F (b : Bool) : valOkF (boolV b) := ⟨fOk_zero, fOk_zero⟩
theorem zero_F : valOkF (0, 0, 0, 0) := ⟨fOk_zero, fOk_zero⟩
theorem int_ok {op a b : Int} : valOkF (intOp op a b).1 ∧ ((intOp op a b).2 = 0 → ValOkP (intOp op a b).1) := by
  unfold intOp
  repeat' split
  all_goals first | exact ⟨boolV_F _, fun _ => boolV_ok _⟩ | exact ⟨zero_F, fun h => absurd h (by decide)⟩ | exact ⟨zero_F, fun _ => .inl ⟨rfl, rfl, rfl⟩⟩
theorem real_ok {op : Int} {a b : Nat} : valOkF (realOp op a b).1 ∧ ((realOp op a b).2 = 0 → ValOkP (realOp op a b).1) := by
  unfold realOp
  repeat' split
  all_goals first | exact ⟨boolV_F _, fun _ => boolV_ok _⟩ | exact ⟨zero_F, fun h => absurd h (by decide)⟩ | exact ⟨⟨fOk_add _ _, fOk_zero⟩, fun _ => .inr (.inl ⟨rfl, rfl, rfl⟩)⟩ | exact ⟨⟨fOk_sub _ _, fOk_zero⟩, fun _ => .inr (.inl ⟨rfl, rfl, rfl⟩)⟩ | exact ⟨⟨fOk_mul _ _, fOk_zero⟩, fun _ => .inr (.inl ⟨rfl, rfl, rfl⟩)⟩ | exact ⟨⟨fOk_quo _ _, fOk_zero⟩, fun _ => .inr (.inl ⟨rfl, rfl, rfl⟩)⟩
theorem pair_ok {op : Int} {a b : ValP} : valOkF (pairOp op a b).1 ∧ ((pairOp op a b).2 = 0 → ValOkP (pairOp op a b).1) := by
  unfold pairOp
  repeat' split
  all_goals first | exact ⟨boolV_F _, fun _ => boolV_ok _⟩ | exact ⟨zero_F, fun h => absurd h (by decide)⟩ | exact ⟨⟨fOk_add _ _, fOk_add _ _⟩, fun _ => .inr (.inr (.inl ⟨rfl, rfl⟩))⟩ | exact ⟨⟨fOk_sub _ _, fOk_sub _ _⟩, fun _ => .inr (.inr (.inl ⟨rfl, rfl⟩))⟩ | exact ⟨⟨fOk_sub _ _, fOk_add _ _⟩, fun _ => .inr (.inr (.inl ⟨rfl, rfl⟩))⟩
theorem bool_ok2 {op a b : Int} : valOkF (boolOp op a b).1 ∧ ((boolOp op a b).2 = 0 → ValOkP (boolOp op a b).1) := by
  unfold boolOp
  repeat' split
  all_goals first | exact ⟨boolV_F _, fun _ => boolV_ok _⟩ | exact ⟨zero_F, fun h => absurd h (by decide)⟩
theorem opF_ok (op : Int) (a b : ValP) : valOkF (opF op a b).1 ∧ ((opF op a b).2 = 0 → ValOkP (opF op a b).1) := by
  unfold opF
  repeat' split
  · exact int_ok
  · exact real_ok
  · exact pair_ok
  · exact bool_ok2
  · exact ⟨zero_F, fun h => absurd h (by decide)⟩
end Go.Proofs.YtpoalnlkhlchbaaT
