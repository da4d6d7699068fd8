/- Quarter turns of pairs of small whole parts; the plain law. -/
import Derived.Test.YtpoalnlkhlchbaaKq4
import Derived.Test.YtpoalnlkhlchbaaKq5a
namespace Go.Proofs.YtpoalnlkhlchbaaT
set_option linter.unusedVariables false
set_option linter.unusedSimpArgs false
open Go

structure Small (n : Int) : Prop where
  m1 : fltArith .mul (flI n) ONE = flI n
  m0 : fltArith .mul (flI n) 0 = if n < 0 then NZ else 0
  s0 : n ≠ 0 → fltArith .sub 0 (flI n) = flI (-n)
  sz : n ≠ 0 → fltArith .sub NZ (flI n) = flI (-n)
  a0 : n ≠ 0 → fltArith .add (flI n) 0 = flI n
  az : n ≠ 0 → fltArith .add (flI n) NZ = flI n
  ng : n ≠ 0 → canon (Op.negFloat .f64 (flI n)) = flI (-n)
  sq : fltArith .mul (flI (-n)) (flI (-n)) = fltArith .mul (flI n) (flI n)
  nm : isNum (fltArith .mul (flI n) (flI n)) = true
theorem small {n : Int} (h0 : -256 ≤ n) (h1 : n ≤ 256) : Small n := by
  have h := small_ok h0 h1
  unfold smallT at h
  simp only [Bool.and_eq_true, Bool.or_eq_true, beq_iff_eq] at h
  obtain ⟨⟨⟨⟨h1, h2⟩, h3⟩, h4⟩, h5⟩ := h
  refine ⟨h1, h2, fun hn => ?_, fun hn => ?_, fun hn => ?_, fun hn => ?_, fun hn => ?_, h4, h5⟩
  · exact (h3.resolve_left hn).1.1.1.1
  · exact (h3.resolve_left hn).1.1.1.2
  · exact (h3.resolve_left hn).1.1.2
  · exact (h3.resolve_left hn).1.2
  · exact (h3.resolve_left hn).2
def wS (a b : Int) : Nat → ValP
  | 1 => (3, 0, flI (-b), flI a)
  | 2 => (3, 0, (if a = 0 then NZ else flI (-a)), flI (-b))
  | 3 => (3, 0, flI b, (if a = 0 then NZ else flI (-a)))
  | _ => (3, 0, flI a, flI b)
def sizeN (a b : Int) : Nat := fltArith .add (fltArith .mul (flI a) (flI a)) (fltArith .mul (flI b) (flI b))
theorem flI_zero : flI 0 = 0 := by decide +kernel
theorem fc1 : fltArith .mul NZ ONE = NZ := by decide +kernel
theorem fc2 : fltArith .mul NZ 0 = NZ := by decide +kernel
theorem fc3 : fltArith .mul 0 ONE = 0 := by decide +kernel
theorem fc3' : fltArith .mul 0 0 = 0 := by decide +kernel
theorem fc4 : fltArith .add 0 0 = 0 := by decide +kernel
theorem fc5 : fltArith .add NZ NZ = NZ := by decide +kernel
theorem fc6 : fltArith .sub 0 0 = 0 := by decide +kernel
theorem fc7 : fltArith .sub NZ 0 = NZ := by decide +kernel
theorem fc8 : fltArith .sub 0 NZ = 0 := by decide +kernel
theorem fc9 : fltArith .mul NZ NZ = 0 := by decide +kernel
theorem pok (x y : Nat) : ValOkP (3, 0, x, y) := .inr (.inr (.inl ⟨rfl, rfl⟩))
theorem opF_turn (x y : Nat) : opF 3 (3, 0, x, y) (3, 0, 0, ONE) = ((3, 0, fltArith .sub (fltArith .mul x 0) (fltArith .mul y ONE), fltArith .add (fltArith .mul x ONE) (fltArith .mul y 0)), 0) := by
  unfold opF
  rw [if_pos ⟨pok _ _, pok _ _, rfl⟩]
  rfl
theorem wS_pair (a b : Int) (j : Nat) : ∃ x y, wS a b j = (3, 0, x, y) := by
  unfold wS; split <;> exact ⟨_, _, rfl⟩
theorem wS_step {a b : Int} (ha0 : -256 ≤ a) (ha1 : a ≤ 256) (hb0 : 0 < b) (hb1 : b ≤ 256) {j : Nat} (hj : j < 4) : opF 3 (wS a b j) (3, 0, 0, ONE) = (wS a b (j + 1), 0) := by
  have A := small ha0 ha1
  have A' := small (n := -a) (by omega) (by omega)
  have B := small (n := b) (by omega) hb1
  have B' := small (n := -b) (by omega) (by omega)
  have nb : b ≠ 0 := by omega
  have nb' : -b ≠ 0 := by omega
  have bp : ¬ b < 0 := by omega
  have bm : -b < 0 := by omega
  rcases (by omega : j = 0 ∨ j = 1 ∨ j = 2 ∨ j = 3) with rfl | rfl | rfl | rfl
  · simp only [wS]
    rw [opF_turn, A.m0, A.m1, B.m1, B.m0, if_neg bp]
    have e1 : fltArith .sub (if a < 0 then NZ else 0) (flI b) = flI (-b) := by split; exact B.sz nb; exact B.s0 nb
    rw [e1]
    by_cases h : a = 0
    · subst h; rw [flI_zero, fc4]
    · rw [A.a0 h]
  · simp only [wS]
    rw [opF_turn, A.m0, A.m1, B'.m1, B'.m0, if_pos bm]
    have e1 : fltArith .add (flI (-b)) (if a < 0 then NZ else 0) = flI (-b) := by split; exact B'.az nb'; exact B'.a0 nb'
    rw [e1]
    by_cases h : a = 0
    · subst h; rw [flI_zero, fc7, if_pos rfl]
    · rw [A.sz h, if_neg h]
  · simp only [wS]
    rw [opF_turn, B'.m1, B'.m0, if_pos bm]
    by_cases h : a = 0
    · rw [if_pos h, fc1, fc2, fc5, B'.sz nb', Int.neg_neg]
    · rw [if_neg h, A'.m0, A'.m1, A'.az (by omega)]
      have e1 : fltArith .sub (if -a < 0 then NZ else 0) (flI (-b)) = flI b := by
        have e : flI b = flI (- -b) := by rw [Int.neg_neg]
        rw [e]; split; exact B'.sz nb'; exact B'.s0 nb'
      rw [e1]
  · simp only [wS]
    rw [opF_turn, B.m1, B.m0, if_neg bp]
    by_cases h : a = 0
    · rw [if_pos h, fc1, fc2, fc8, B.az nb]; subst h; rw [flI_zero]
    · rw [if_neg h, A'.m0, A'.m1, A'.s0 (by omega), Int.neg_neg]
      have e1 : fltArith .add (flI b) (if -a < 0 then NZ else 0) = flI b := by split; exact B.az nb; exact B.a0 nb
      rw [e1]
theorem turnF_size (x y : Nat) : turnF 6 (3, 0, x, y) = ((2, 0, fltArith .add (fltArith .mul x x) (fltArith .mul y y), 0), 0) := by
  unfold turnF
  rw [if_pos (pok x y)]
  rfl
theorem wS_size {a b : Int} (ha0 : -256 ≤ a) (ha1 : a ≤ 256) (hb0 : 0 < b) (hb1 : b ≤ 256) (j : Nat) : turnF 6 (wS a b j) = ((2, 0, sizeN a b, 0), 0) := by
  have A := small ha0 ha1
  have B := small (n := b) (by omega) hb1
  have em : fltArith .mul (if a = 0 then NZ else flI (-a)) (if a = 0 then NZ else flI (-a)) = fltArith .mul (flI a) (flI a) := by
    by_cases h : a = 0
    · rw [if_pos h]; subst h; rw [flI_zero, fc9, fc3']
    · rw [if_neg h]; exact A.sq
  unfold wS
  split <;> rw [turnF_size] <;> unfold sizeN
  · rw [B.sq, add_comm']
  · rw [em, B.sq]
  · rw [em, add_comm']
  · rfl
theorem nN_num {x : Nat} (h : isNum x = true) : ¬ isN x := by
  rintro ⟨s, t, e⟩
  unfold isNum at h
  rw [e] at h; exact absurd h (by simp)
theorem nN_sum {x y : Nat} (hx : isNum x = true) (hy : isNum y = true) : ¬ isN (fltArith .add x y) := by
  unfold isNum at hx hy
  have e : fltArith .add x y = Option.elim (((Ieee.double.read x).sum (Ieee.double.read y)).map Ieee.double.write) nanC canon := rfl
  rw [e]
  cases h1 : Ieee.double.read x with
  | number s m i =>
    cases h2 : Ieee.double.read y with
    | number t n j =>
      simp only [Ieee.Datum.sum, Option.map, Option.elim, Ieee.Format.write]
      rw [canon_not (nN_nearest _ _ _)]
      exact nN_nearest _ _ _
    | infinity t => rw [h2] at hy; exact absurd hy (by simp)
    | nan t f => rw [h2] at hy; exact absurd hy (by simp)
  | infinity t => rw [h1] at hx; exact absurd hx (by simp)
  | nan t f => rw [h1] at hx; exact absurd hx (by simp)
theorem sizeN_nN {a b : Int} (ha0 : -256 ≤ a) (ha1 : a ≤ 256) (hb0 : 0 < b) (hb1 : b ≤ 256) : ¬ isN (sizeN a b) :=
  nN_sum (small ha0 ha1).nm (small (n := b) (by omega) hb1).nm
theorem opF_same_size {x : Nat} (h : ¬ isN x) : opF 7 (2, 0, x, 0) (2, 0, x, 0) = (boolV true, 0) := by
  have hk : ValOkP (2, 0, x, 0) := .inr (.inl ⟨rfl, rfl, rfl⟩)
  unfold opF
  rw [if_pos ⟨hk, hk, rfl⟩]
  have : realOp 7 x x = (boolV true, 0) := by unfold realOp; simp [feq_self h]
  exact this
theorem opF_same_pair {x y : Nat} (h : ¬ isN x) (h2 : ¬ isN y) : opF 7 (3, 0, x, y) (3, 0, x, y) = (boolV true, 0) := by
  unfold opF
  rw [if_pos ⟨pok _ _, pok _ _, rfl⟩]
  have : pairOp 7 (3, 0, x, y) (3, 0, x, y) = (boolV true, 0) := by unfold pairOp; simp [feq_self h, feq_self h2]
  exact this
end Go.Proofs.YtpoalnlkhlchbaaT
