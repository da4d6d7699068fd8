/- Floats: what is less than 2^40, times 1024, is a whole number that fits. -/
import Derived.Test.YtpoalnlkhlchbaaKf0
namespace Go.Proofs.YtpoalnlkhlchbaaT
set_option linter.unusedVariables false
set_option linter.unusedSimpArgs false
open Go

theorem product_comm (a b : Ieee.Datum) : a.product b = b.product a := by
  cases a <;> cases b <;> simp [Ieee.Datum.product, Nat.mul_comm, Int.add_comm, Bool.xor_comm]
theorem mul_comm' (x y : Nat) : fltArith .mul x y = fltArith .mul y x := by
  simp only [fltArith]
  show Option.elim (((Ieee.double.read x).product (Ieee.double.read y)).map Ieee.double.write) nanC canon = Option.elim (((Ieee.double.read y).product (Ieee.double.read x)).map Ieee.double.write) nanC canon
  rw [product_comm]
theorem cut_le (s : Bool) (n d L : Nat) (h : n < 2 ^ (L + 53)) (hd : L ≤ d) (hn : L ≤ n.log2) : Ieee.Toward.even.cut s n d ≤ 9007199254740992 := by
  unfold Ieee.Toward.cut
  simp only
  have hg : 2 ^ L ≤ 1 <<< min d (n.log2 + 2) := by
    rw [Nat.shiftLeft_eq, Nat.one_mul]
    exact Nat.pow_le_pow_right (by omega) (by omega)
  generalize 1 <<< min d (n.log2 + 2) = g at *
  have hp : 0 < 2 ^ L := Nat.pow_pos (by omega)
  have : n / g < 9007199254740992 := by
    rw [Nat.div_lt_iff_lt_mul (by omega)]
    rw [Nat.pow_add] at h
    have : 2 ^ L * 2 ^ 53 ≤ g * 2 ^ 53 := Nat.mul_le_mul_right _ hg
    omega
  have hb : ∀ b : Bool, b.toNat ≤ 1 := fun b => by cases b <;> simp
  have := hb (decide (g < 2 * (n % g)) || g == 2 * (n % g) && n / g % 2 == 1)
  omega
theorem cutz_le (s : Bool) (n d : Nat) : Ieee.Toward.zero.cut s n d ≤ n := by
  unfold Ieee.Toward.cut
  simp only [Bool.toNat_false, Nat.add_zero]
  exact Nat.div_le_self _ _
def C10 : Nat := 4652218415073722368
def C40 : Nat := 4787326403894837248
def M40 : Nat := 14010698440749613056
theorem read_C10 : Ieee.double.read C10 = .number false 4503599627370496 (-42) := by decide +kernel
theorem read_C40 : Ieee.double.read C40 = .number false 4503599627370496 (-12) := by decide +kernel
theorem read_M40 : Ieee.double.read M40 = .number true 4503599627370496 (-12) := by decide +kernel
theorem small_e {x m e : Nat} (hr : Ieee.double.read x = .number (sg x) m (-1074 + e)) (hm : m < 4503599627370496 ∧ e = 0 ∨ 4503599627370496 ≤ m ∧ m < 9007199254740992)
    (h1 : FloatKind.f64.format.order x C40 = some .lt) (h2 : FloatKind.f64.format.order x M40 = some .gt) : e ≤ 1061 := by
  rcases hm with ⟨_, h⟩ | ⟨hm1, hm2⟩
  · omega
  · rcases Nat.lt_or_ge 1061 e with he | he
    · exfalso
      have h1' : (Ieee.double.read x).order (Ieee.double.read C40) = some .lt := h1
      have h2' : (Ieee.double.read x).order (Ieee.double.read M40) = some .gt := h2
      rw [hr, read_C40] at h1'
      rw [hr, read_M40] at h2'
      simp only [Ieee.Datum.order, Option.some.injEq] at h1' h2'
      rw [show min (-1074 + (e : Int)) (-12) = -12 by omega] at h1' h2'
      rw [show ((-12 : Int) - -12).toNat = 0 by omega] at h1' h2'
      rw [Int.compare_eq_lt] at h1'
      rw [Int.compare_eq_gt] at h2'
      have hp : 1 ≤ 2 ^ ((-1074 + (e : Int)) - -12).toNat := Nat.one_le_two_pow
      have hk := Nat.mul_le_mul_left m hp
      generalize ((-1074 + (e : Int)) - -12).toNat = k at *
      unfold Ieee.signed at h1' h2'
      simp only [Nat.shiftLeft_eq] at h1' h2'
      generalize m * 2 ^ k = u at *
      cases sg x <;> simp at h1' h2' <;> omega
    · exact he
theorem rung_lt {k kept i : Nat} (hk : k ≤ 1071) (hc : kept ≤ 9007199254740992) : min (k * 4503599627370496 + kept) i < 4836865999795912704 := by
  have h1 : min (k * 4503599627370496 + kept) i ≤ k * 4503599627370496 + kept := Nat.min_le_left _ _
  have h2 : k * 4503599627370496 ≤ 1071 * 4503599627370496 := Nat.mul_le_mul_right _ hk
  have h3 : 1071 * 4503599627370496 = 4823355200913801216 := by decide
  rw [h3] at h2
  clear h3
  obtain ⟨p, hp⟩ : ∃ p, p = k * 4503599627370496 := ⟨_, rfl⟩
  rw [← hp] at h1 h2 ⊢
  clear hp
  omega
theorem nearest_small (s : Bool) (m e : Nat) (hm : m < 9007199254740992) (he : e ≤ 1061) : ∃ r, r < 4836865999795912704 ∧ Ieee.double.nearest s (m * 4503599627370496) (-1074 + (e : Int) + -42) = Ieee.double.word s r := by
  unfold Ieee.Format.nearest
  by_cases hm0 : m = 0
  · subst hm0; exact ⟨0, by omega, by simp⟩
  · have hne : m * 4503599627370496 ≠ 0 := by omega
    rw [if_neg hne]
    have e2 : Ieee.double.binade = 4503599627370496 := rfl
    have e3 : Ieee.double.infRung = 9218868437227405312 := rfl
    have e4 : Ieee.double.leastPlace = -1074 := rfl
    have e5 : Ieee.double.fractionBits = 52 := rfl
    simp only [e2, e3, e4, e5]
    have hlt : (m * 4503599627370496) < 2 ^ ((m * 4503599627370496).log2 + 1) := Nat.lt_log2_self
    have hu : (m * 4503599627370496).log2 < 105 := (Nat.log2_lt hne).2 (by
      have : (2 : Nat) ^ 105 = 9007199254740992 * 4503599627370496 := by decide
      rw [this]
      exact (Nat.mul_lt_mul_right (by decide)).2 hm)
    have hlo : 52 ≤ (m * 4503599627370496).log2 := by
      rw [Nat.le_log2 hne]
      have : (2 : Nat) ^ 52 = 4503599627370496 := by decide
      rw [this]; omega
    obtain ⟨n, hn⟩ : ∃ n, n = m * 4503599627370496 := ⟨_, rfl⟩
    rw [← hn] at hne hlt hu hlo ⊢
    generalize hL : n.log2 = L at *
    obtain ⟨last, hlast⟩ : ∃ last, last = max (-1074 + (e : Int) + -42 + (L : Int) - ((52 : Nat) : Int)) (-1074) := ⟨_, rfl⟩
    rw [← hlast]
    rw [show (-1074 + (e : Int) + -42 - last).toNat = 0 by omega, Nat.shiftLeft_zero]
    have hc := cut_le s n (last - (-1074 + (e : Int) + -42)).toNat (L - 52) (by rw [show L - 52 + 53 = L + 1 by omega]; exact hlt) (by omega) (by rw [hL]; omega)
    generalize Ieee.Toward.even.cut s n (last - (-1074 + (e : Int) + -42)).toNat = kept at *
    refine ⟨_, ?_, rfl⟩
    have hk : (last - -1074).toNat ≤ 1071 := by omega
    exact rung_lt hk hc
theorem rg_word (s : Bool) (r : Nat) (hr : r < 9223372036854775808) : rg (Ieee.double.word s r) = r := by
  have e1 : Ieee.double.signWeight = 9223372036854775808 := rfl
  unfold Ieee.Format.word rg
  rw [e1]
  cases s <;> simp <;> omega
theorem nN_word (s : Bool) (r : Nat) (hr : r < 9218868437227405312) : ¬ isN (Ieee.double.word s r) := fun h => by
  have h1 := rung_of_isN h
  have h2 := rg_word s r (by omega)
  unfold rg at h2
  generalize Ieee.double.word s r = w at *
  omega
theorem toInt_small {w : Nat} (hn : ¬ isN w) (hr : rg w < 4836865999795912704) : ∃ n : Int, (FloatKind.f64.decode w).toInt .zero = some n ∧ -9007199254740992 ≤ n ∧ n ≤ 9007199254740992 := by
  rcases read_cases w with h | ⟨_, h⟩ | ⟨m', e', hr', hrg', hm', _⟩
  · exact absurd h hn
  · exfalso; omega
  have hd : FloatKind.f64.decode w = .number (sg w) m' (-1074 + e') := hr'
  have hm'' : m' < 9007199254740992 := by omega
  have he' : e' < 1074 := by omega
  rw [hd]
  simp only [Ieee.Datum.toInt, Ieee.Datum.integral]
  rw [show (-1074 + (e' : Int)).toNat = 0 by omega, Nat.shiftLeft_zero]
  have hc := cutz_le (sg w) m' (-(-1074 + (e' : Int))).toNat
  generalize Ieee.Toward.zero.cut (sg w) m' (-(-1074 + (e' : Int))).toNat = q at *
  refine ⟨_, rfl, ?_⟩
  unfold Ieee.signed
  simp only [Nat.shiftLeft_eq, Nat.pow_zero, Nat.mul_one]
  cases sg w <;> simp <;> omega
theorem mul_eq (x m e : Nat) (hr : Ieee.double.read x = .number (sg x) m (-1074 + e)) : FloatKind.f64.format.mul x C10 = some (Ieee.double.nearest (sg x ^^ false) (m * 4503599627370496) (-1074 + (e : Int) + -42)) := by
  have : FloatKind.f64.format.mul x C10 = ((Ieee.double.read x).product (Ieee.double.read C10)).map Ieee.double.write := rfl
  rw [this, hr, read_C10]; rfl
theorem mul1024 {x : Nat} (hn : ¬ isN x) (h1 : FloatKind.f64.format.order x C40 = some .lt) (h2 : FloatKind.f64.format.order x M40 = some .gt) :
    ∃ n : Int, (FloatKind.f64.decode (fltArith .mul x C10)).toInt .zero = some n ∧ -9007199254740992 ≤ n ∧ n ≤ 9007199254740992 := by
  rcases read_cases x with h | ⟨hr, _⟩ | ⟨m, e, hr, hrg, hm, _⟩
  · exact absurd h hn
  · exfalso
    have h1' : (Ieee.double.read x).order (Ieee.double.read C40) = some .lt := h1
    have h2' : (Ieee.double.read x).order (Ieee.double.read M40) = some .gt := h2
    rw [hr, read_C40] at h1'; rw [hr, read_M40] at h2'
    cases hs : sg x <;> rw [hs] at h1' h2' <;> simp [Ieee.Datum.order] at h1' h2'
  have he := small_e hr hm h1 h2
  obtain ⟨r, hr1, hr2⟩ := nearest_small (sg x ^^ false) m e (by omega) he
  have hw : fltArith .mul x C10 = Ieee.double.word (sg x ^^ false) r := by
    simp only [fltArith, mul_eq x m e hr, hr2, Option.elim]
    exact canon_not (nN_word _ _ (by omega))
  rw [hw]
  exact toInt_small (nN_word _ _ (by omega)) (by rw [rg_word _ _ (by omega)]; exact hr1)
def i64in' (n : Int) : Prop := -9223372036854775808 ≤ n ∧ n < 9223372036854775808
end Go.Proofs.YtpoalnlkhlchbaaT
