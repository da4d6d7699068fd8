/- Texts of this session's own, one behind the other: Ka, Kf0. -/
import Derived.Test.YtmedelmfkciblaaPk9
import Derived.Test.YtmedelmfkciblaaProg
namespace Go.Proofs.YtmedelmfkciblaaT
set_option linter.unusedVariables false
set_option linter.unusedSimpArgs false
open Go
def c87 : TCode := (.seq (.ops [⟨(some 6), 8, .mv (.c (.b false)), none, []⟩])
 (.seq (.ops [⟨(some 7), 9, .mv (.t 0), none, []⟩, ⟨(some 8), 10, .mv (.t 1), none, []⟩, ⟨(some 9), 11, .bin .geq (.t 7) (.t 8), none, []⟩, ⟨(some 10), 12, .mv (.t 9), none, []⟩, ⟨(some 11), 13, .mv (.t 0), (some (10, true)), []⟩, ⟨(some 12), 14, .mv (.t 2), (some (10, true)), []⟩, ⟨(some 13), 15, .bin .leq (.t 11) (.t 12), (some (10, true)), []⟩, ⟨(some 14), 16, .pick (.t 10) (.t 13) (.c (.b false)), none, []⟩, ⟨(some 6), 8, .mv (.t 14), none, []⟩])
 .ret))
theorem k87 : compCode Try.prog Try.f87.ntmps Try.f87.body.get! = some c87 := by kernel_rfl
theorem r87 : resTmps Try.prog Try.f87.results.toList = some [.tmp 6] := by kernel_rfl
theorem w87 (x lo hi : Int) : Contract Try.prog false 87 [.ro, .ro, .ro] [.i .i64 x, .i .i64 lo, .i .i64 hi] [.b (decide (lo ≤ x ∧ x ≤ hi))] [] := by
 refine mk_contract [] Try.func87 (c := Try.f87.body.get!) (by kernel_rfl) k87 r87 (of_decide_eq_true rfl) fun _ => ?_
 unfold c87; simp
 by_cases h : lo ≤ x <;> simp [h]
end Go.Proofs.YtmedelmfkciblaaT


namespace Go.Proofs.YtmedelmfkciblaaT
set_option linter.unusedVariables false
set_option linter.unusedSimpArgs false
open Go
def rg (x : Nat) : Nat := x % 9223372036854775808
def sg (x : Nat) : Bool := x / 9223372036854775808 % 2 == 1
theorem rs_inj {x y : Nat} (hx : x < 18446744073709551616) (hy : y < 18446744073709551616) (h1 : rg x = rg y) (h2 : sg x = sg y) : x = y := by
 unfold rg at h1; unfold sg at h2
 have : x / 9223372036854775808 % 2 = y / 9223372036854775808 % 2 := by
  rcases Nat.mod_two_eq_zero_or_one (x / 9223372036854775808) with h | h <;> rcases Nat.mod_two_eq_zero_or_one (y / 9223372036854775808) with h' | h' <;> simp [h, h'] at h2 ⊢
 omega
theorem read_cases (x : Nat) : isN x ∨ Ieee.double.read x = .infinity (sg x) ∧ rg x = 9218868437227405312 ∨
  ∃ m e : Nat, Ieee.double.read x = .number (sg x) m (-1074 + e) ∧ rg x = m + e * 4503599627370496 ∧ (m < 4503599627370496 ∧ e = 0 ∨ 4503599627370496 ≤ m ∧ m < 9007199254740992) ∧ rg x < 9218868437227405312 := by
 have e1 : Ieee.double.signWeight = 9223372036854775808 := rfl
 have e2 : Ieee.double.binade = 4503599627370496 := rfl
 have e3 : Ieee.double.infRung = 9218868437227405312 := rfl
 have e4 : Ieee.double.leastPlace = -1074 := rfl
 unfold isN
 simp only [Ieee.Format.read, e1, e2, e3, e4]
 rw [show (x / 9223372036854775808 % 2 == 1) = sg x from rfl, show x % 9223372036854775808 = rg x from rfl]
 generalize rg x = r
 by_cases h1 : r < 4503599627370496
 ·right; right
  exact ⟨r, 0, by simp [h1], by omega, by omega, by omega⟩
 ·by_cases h2 : r < 9218868437227405312
  ·right; right
   refine ⟨4503599627370496 + r % 4503599627370496, r / 4503599627370496 - 1, by simp [h1, h2], by omega, by omega, h2⟩
  ·by_cases h3 : r = 9218868437227405312
   ·right; left; simp [h3]
   ·left; simp [h1, h2, h3]
theorem signed_zero (s t : Bool) (a b k l : Nat) (h : Ieee.signed s a k = Ieee.signed t b l) : a * 2 ^ k = b * 2 ^ l ∧ (s = t ∨ a * 2 ^ k = 0) := by
 unfold Ieee.signed at h
 simp only [Nat.shiftLeft_eq] at h
 generalize a * 2 ^ k = u at *
 generalize b * 2 ^ l = v at *
 cases s <;> cases t <;> simp at h ⊢ <;> omega
theorem order_eq {x y : Nat} (h : FloatKind.f64.format.order x y = some .eq) : ¬ isN x ∧ ¬ isN y ∧ rg x = rg y ∧ (sg x = sg y ∨ rg x = 0) := by
 have h' : (Ieee.double.read x).order (Ieee.double.read y) = some .eq := h
 have nx : ¬ isN x := by rintro ⟨s, t, e⟩; rw [e] at h'; simp [Ieee.Datum.order] at h'
 have ny : ¬ isN y := by rintro ⟨s, t, e⟩; rw [e] at h'; cases hr : Ieee.double.read x <;> rw [hr] at h' <;> simp [Ieee.Datum.order] at h'
 refine ⟨nx, ny, ?_⟩
 rcases read_cases x with hx | ⟨hx, rx⟩ | ⟨m, e, hx, rx, cx, lx⟩
 ·exact absurd hx nx
 ·rcases read_cases y with hy | ⟨hy, ry⟩ | ⟨n, d, hy, ry, cy, ly⟩
  ·exact absurd hy ny
  ·rw [hx, hy] at h'
   refine ⟨by omega, .inl ?_⟩
   cases hs : sg x <;> cases ht : sg y <;> rw [hs, ht] at h' <;> first | rfl | (revert h'; decide)
  ·rw [hx, hy] at h'; cases hs : sg x <;> rw [hs] at h' <;> simp [Ieee.Datum.order] at h'
 ·rcases read_cases y with hy | ⟨hy, ry⟩ | ⟨n, d, hy, ry, cy, ly⟩
  ·exact absurd hy ny
  ·rw [hx, hy] at h'; cases hs : sg y <;> rw [hs] at h' <;> simp [Ieee.Datum.order] at h'
  ·rw [hx, hy] at h'
   simp only [Ieee.Datum.order, Option.some.injEq] at h'
   have hc : Ieee.signed (sg x) m ((-1074 + (e : Int)) - min (-1074 + (e : Int)) (-1074 + (d : Int))).toNat = Ieee.signed (sg y) n ((-1074 + (d : Int)) - min (-1074 + (e : Int)) (-1074 + (d : Int))).toNat := by
    rw [Int.compare_eq_eq] at h'; exact h'
   obtain ⟨k1, k2⟩ := signed_zero _ _ _ _ _ _ hc
   have hp : ∀ k : Nat, 1 ≤ k → 2 ≤ 2 ^ k := fun k hk => by
    have := Nat.pow_le_pow_right (n := 2) (by omega) hk; simpa using this
   rcases Nat.lt_trichotomy e d with hed | hed | hed
   ·exfalso
    rw [show ((-1074 + (e : Int)) - min (-1074 + (e : Int)) (-1074 + (d : Int))).toNat = 0 by omega] at k1
    have h2 := hp ((-1074 + (d : Int)) - min (-1074 + (e : Int)) (-1074 + (d : Int))).toNat (by omega)
    have := Nat.mul_le_mul_left n h2
    omega
   ·subst hed
    rw [show ((-1074 + (e : Int)) - min (-1074 + (e : Int)) (-1074 + (e : Int))).toNat = 0 by omega] at k1 k2
    refine ⟨by omega, ?_⟩
    rcases k2 with k2 | k2
    ·exact .inl k2
    ·right; omega
   ·exfalso
    rw [show ((-1074 + (d : Int)) - min (-1074 + (e : Int)) (-1074 + (d : Int))).toNat = 0 by omega] at k1
    have h2 := hp ((-1074 + (e : Int)) - min (-1074 + (e : Int)) (-1074 + (d : Int))).toNat (by omega)
    have := Nat.mul_le_mul_left m h2
    omega
def fOk (x : Nat) : Prop := ∃ y, y < 18446744073709551616 ∧ x = canon y
theorem fOk_lt {x : Nat} (h : fOk x) : x < 18446744073709551616 := by
 obtain ⟨y, hy, rfl⟩ := h
 unfold canon; split <;> omega
theorem feq_self {x : Nat} (hn : ¬ isN x) : FloatKind.f64.format.order x x = some .eq := by
 rcases h : FloatKind.f64.format.order x x with _ | o
 ·exact absurd ((order_none x).1 h) hn
 ·revert h
  simp only [FloatKind.format, Ieee.Format.order]
  cases Ieee.double.read x <;> simp [Ieee.Datum.order] <;> exact fun h => h.symm
noncomputable instance (x : Nat) : Decidable (isN x) := Classical.propDecidable _
theorem feq_iff {x y : Nat} (hx : fOk x) (hy : fOk y) : FloatKind.f64.format.order x y = some .eq ↔ (¬ isN x ∧ x = y) ∨ rg x = 0 ∧ rg y = 0 := by
 constructor
 ·intro h
  obtain ⟨h1, h2, h3, h4⟩ := order_eq h
  rcases h4 with h4 | h4
  ·exact .inl ⟨h1, rs_inj (fOk_lt hx) (fOk_lt hy) h3 h4⟩
  ·exact .inr ⟨h4, by omega⟩
 ·rintro (⟨h1, rfl⟩ | ⟨h1, h2⟩)
  ·exact feq_self h1
  ·have hl := fOk_lt hx
   have hl2 := fOk_lt hy
   have z : ∀ a, a < 18446744073709551616 → rg a = 0 → a = 0 ∨ a = 9223372036854775808 := fun a ha h => by unfold rg at h; omega
   rcases z x hl h1 with rfl | rfl <;> rcases z y hl2 h2 with rfl | rfl <;> decide
theorem rg_zero {x : Nat} (hx : fOk x) : rg x = 0 ↔ x = 0 ∨ x = 9223372036854775808 := by
 have := fOk_lt hx
 unfold rg; omega
theorem fOk_zero : fOk 0 := ⟨0, by omega, by decide⟩
theorem feq_zero {x : Nat} (hx : fOk x) : FloatKind.f64.format.order x 0 = some .eq ↔ x = 0 ∨ x = 9223372036854775808 := by
 rw [feq_iff hx fOk_zero, ← rg_zero hx]
 constructor
 ·rintro (⟨_, rfl⟩ | ⟨h, _⟩)
  ·rfl
  ·exact h
 ·exact fun h => .inr ⟨h, rfl⟩
theorem inv_zero : fltArith .quo 4607182418800017408 0 = 9218868437227405312 := by decide +kernel
theorem inv_mzero : fltArith .quo 4607182418800017408 9223372036854775808 = 18442240474082181120 := by decide +kernel
theorem gt_inf : FloatKind.f64.format.order 9218868437227405312 0 = some .gt := by decide +kernel
theorem gt_minf : FloatKind.f64.format.order 18442240474082181120 0 = some .lt := by decide +kernel
theorem feqz {x : Nat} (hx : fOk x) : (FloatKind.f64.format.order x 0 == some .eq) = decide (x = 0 ∨ x = 9223372036854775808) := by
 have := feq_zero hx
 by_cases h : FloatKind.f64.format.order x 0 = some .eq
 ·simp [h, this.1 h]
 ·have h2 : ¬ (x = 0 ∨ x = 9223372036854775808) := fun h3 => h (this.2 h3)
  simp [h2]; exact h
theorem gt_infb : (FloatKind.f64.format.order 9218868437227405312 0 == some .gt) = true := by rw [gt_inf]; rfl
theorem gt_minfb : (FloatKind.f64.format.order 18442240474082181120 0 == some .gt) = false := by rw [gt_minf]; rfl
end Go.Proofs.YtmedelmfkciblaaT

