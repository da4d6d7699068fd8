/- The Go law FnExactNameOk answers true for every string: the program's NameOk and the reference's NameOk agree. Condition: none beyond the row's own. -/
import Derived.Test.YtlddgmpaaobpoaaPFnExactNameOkx2
namespace Go.Proofs.Ytlddgmpaaobpoaa.Pure
open Go.RowKit Go.Proofs.Ytlddgmpaaobpoaa.PFnExactNameOk Go.Proofs.YtlddgmpaaobpoaaW.PrintWords Go.Proofs.YtlddgmpaaobpoaaW.PrintLast

theorem iw_ite (p : Prop) [Decidable p] (b : Bool) : (if p then some true else some b) = some (decide p || b) := by
  by_cases h : p <;> simp [h]

theorem iw_loop (x : ByteArray) (W : List ByteArray) (hW : W.length < 1000) (d : Nat) : ∀ (k i : Nat), i + d = W.length → d < k →
    spec_IsWord.l0 k x W (i : Int) = some ((W.drop i).any fun y => decide (x.toList = y.toList)) := by
  induction d with
  | zero =>
    intro k i hi hk
    obtain ⟨k, rfl⟩ : ∃ m, k = m + 1 := ⟨k - 1, by omega⟩
    simp only [spec_IsWord.l0]
    rw [if_neg (by omega), List.drop_eq_nil_of_le (by omega)]
    rfl
  | succ d ih =>
    intro k i hi hk
    obtain ⟨k, rfl⟩ : ∃ m, k = m + 1 := ⟨k - 1, by omega⟩
    have hlt : i < W.length := by omega
    simp only [spec_IsWord.l0]
    rw [if_pos (by omega), if_pos (by omega)]
    have e1 : rdOf ByteArray.empty W (i : Int) = W[i] := by simp [rdOf, List.getD_eq_getElem?_getD, hlt]
    have e2 : wrap64 ((i : Int) + 1) = ((i + 1 : Nat) : Int) := by unfold wrap64; omega
    rw [e1, e2, ih k (i + 1) (by omega) (by omega), List.drop_eq_getElem_cons hlt, List.any_cons, iw_ite]
    congr 2
    simp [eq_comm]

theorem iw_same (k : Nat) (hk : 32 < k) (a : ByteArray) : spec_IsWord.f k a = impl_IsWord.f a := by
  unfold spec_IsWord.f spec_l3Words.f
  rw [Option.bind_some]
  rw [show (0 : Int) = ((0 : Nat) : Int) from rfl, iw_loop a _ ?_ 32 k 0 ?_ hk]
  · unfold impl_IsWord.f
    simp only [iw_ite, List.drop_zero, List.any_cons, List.any_nil, ByteArray.toList_eq]
  · decide
  · rfl
theorem iw_some (a : ByteArray) : ∃ b, impl_IsWord.f a = some b := by
  unfold impl_IsWord.f
  simp only [iw_ite]
  exact ⟨_, rfl⟩

def lett (c : Int) : Bool := (decide (97 ≤ c) && decide (c ≤ 122)) || (decide (65 ≤ c) && decide (c ≤ 90))
theorem spec_lett (c : Int) : spec_l3Letter.f c = some (lett c) := by
  unfold spec_l3Letter.f lett
  by_cases h1 : 97 ≤ c <;> by_cases h2 : c ≤ 122 <;> by_cases h3 : 65 ≤ c <;> simp [h1, h2, h3]
theorem impl_lett (c : Int) : impl_isLetter.f c = some (lett c) := spec_lett c

/-- All bytes from i on are letters. -/
def allL (a : ByteArray) : Nat → Nat → Bool
  | 0, _ => true
  | d + 1, i => lett (bt a (i : Int)) && allL a d (i + 1)

theorem spec_loop (a : ByteArray) (ha : a.size ≤ 1048576) (d : Nat) : ∀ (k i : Nat), i + d = a.size → d + 40 < k →
    ∀ b, impl_IsWord.f a = some b → spec_NameOk.l0 k a (i : Int) = some (allL a d i && !b) := by
  induction d with
  | zero =>
    intro k i hi hk b hb
    obtain ⟨k, rfl⟩ : ∃ m, k = m + 1 := ⟨k - 1, by omega⟩
    simp only [spec_NameOk.l0]
    rw [if_neg (by omega), iw_same k (by omega), hb]
    simp [allL]
  | succ d ih =>
    intro k i hi hk b hb
    obtain ⟨k, rfl⟩ : ∃ m, k = m + 1 := ⟨k - 1, by omega⟩
    simp only [spec_NameOk.l0]
    have e2 : wrap64 ((i : Int) + 1) = ((i + 1 : Nat) : Int) := by unfold wrap64; omega
    rw [if_pos (by omega), if_pos (by omega), spec_lett, Option.bind_some, e2, ih k (i + 1) (by omega) (by omega) b hb, allL]
    cases lett (bt a (i : Int)) <;> simp

theorem impl_loop (a : ByteArray) (ha : a.size ≤ 1048576) (d : Nat) : ∀ (k i : Nat), i + d = a.size → d < k →
    ∀ b, impl_IsWord.f a = some b → impl_NameOk.l0 k a (i : Int) = some (allL a d i && (decide (1 ≤ a.size) && decide (a.size ≤ 12)) && !b) := by
  induction d with
  | zero =>
    intro k i hi hk b hb
    obtain ⟨k, rfl⟩ : ∃ m, k = m + 1 := ⟨k - 1, by omega⟩
    simp only [impl_NameOk.l0]
    rw [if_neg (by omega), hb]
    unfold impl_within.f
    by_cases h1 : 1 ≤ a.size <;> by_cases h2 : a.size ≤ 12
    · rw [if_pos (by omega), show decide ((a.size : Int) ≤ 12) = true by simp; omega]; simp [allL, h1, h2]
    · rw [if_pos (by omega), show decide ((a.size : Int) ≤ 12) = false by simp; omega]; simp [allL, h1, h2]
    · rw [if_neg (by omega)]; simp [allL, h1, h2]
    · rw [if_neg (by omega)]; simp [allL, h1, h2]
  | succ d ih =>
    intro k i hi hk b hb
    obtain ⟨k, rfl⟩ : ∃ m, k = m + 1 := ⟨k - 1, by omega⟩
    simp only [impl_NameOk.l0]
    have e2 : wrap64 ((i : Int) + 1) = ((i + 1 : Nat) : Int) := by unfold wrap64; omega
    rw [if_pos (by omega), if_pos (by omega), impl_lett, Option.bind_some, e2, ih k (i + 1) (by omega) (by omega) b hb, allL]
    cases lett (bt a (i : Int)) <;> simp

theorem FnExactNameOk : laws_FnExactNameOk.Pure := by
  intro a ha
  refine ⟨a.size + 50, ?_⟩
  unfold laws_FnExactNameOk.f
  by_cases h : (a.size : Int) > 1048576
  · rw [if_pos h]
  · rw [if_neg h]
    obtain ⟨b, hb⟩ := iw_some a
    have hi : impl_NameOk.f (a.size + 50) a = some (allL a a.size 0 && (decide (1 ≤ a.size) && decide (a.size ≤ 12)) && !b) := by
      unfold impl_NameOk.f
      exact impl_loop a (by omega) a.size _ 0 (by omega) (by omega) b hb
    have hs : spec_NameOk.f (a.size + 50) a = some (allL a a.size 0 && (decide (1 ≤ a.size) && decide (a.size ≤ 12)) && !b) := by
      unfold spec_NameOk.f spec_l1In.f
      have hl := spec_loop a (by omega) a.size (a.size + 50) 0 (by omega) (by omega) b hb
      rw [show ((0 : Nat) : Int) = 0 from rfl] at hl
      by_cases h1 : 1 ≤ a.size <;> by_cases h2 : a.size ≤ 12
      · rw [if_pos (by omega), show decide ((a.size : Int) ≤ 12) = true by simp; omega]; simp [hl, h1, h2]
      · rw [if_pos (by omega), show decide ((a.size : Int) ≤ 12) = false by simp; omega]; simp [h1, h2]
      · rw [if_neg (by omega)]; simp [h1, h2]
      · rw [if_neg (by omega)]; simp [h1, h2]
    rw [hs, hi]
    simp

end Go.Proofs.Ytlddgmpaaobpoaa.Pure
