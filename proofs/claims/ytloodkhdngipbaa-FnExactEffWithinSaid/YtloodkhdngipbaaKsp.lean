/- Rising rows of integers: the plain law. -/
import Derived.Test.YtloodkhdngipbaaKa
import Derived.Lib.SlicesCompact
namespace Go.Proofs.YtloodkhdngipbaaT
set_option linter.unusedVariables false
set_option linter.unusedSimpArgs false
open Go

abbrev srt (zs : List Int) : List Int := zs.mergeSort fun x y => decide (x ≤ y)
theorem compact_le (zs : List Int) : (Lib.compact zs).length ≤ zs.length := by
  unfold Lib.compact Lib.compactUpTo
  rw [List.length_map]
  exact Nat.le_trans (List.length_filter_le _ _) (by simp)
/-! ### rising rows -/
def ris (l : List Int) : Prop := l.Pairwise (· < ·)
theorem ris_ext : ∀ {a b : List Int}, ris a → ris b → (∀ x, x ∈ a ↔ x ∈ b) → a = b
  | [], [], _, _, _ => rfl
  | [], y :: b, _, _, h => by have := (h y).2 (by simp); simp at this
  | x :: a, [], _, _, h => by have := (h x).1 (by simp); simp at this
  | x :: a, y :: b, ha, hb, h => by
    have ha' := List.pairwise_cons.1 ha
    have hb' := List.pairwise_cons.1 hb
    have hxy : x = y := by
      rcases List.mem_cons.1 ((h x).1 (by simp)) with h1 | h1
      · exact h1
      · rcases List.mem_cons.1 ((h y).2 (by simp)) with h2 | h2
        · exact h2.symm
        · have := ha'.1 y h2; have := hb'.1 x h1; omega
    subst hxy
    congr 1
    refine ris_ext ha'.2 hb'.2 fun z => ⟨fun hz => ?_, fun hz => ?_⟩
    · rcases List.mem_cons.1 ((h z).1 (by simp [hz])) with h1 | h1
      · subst h1; have := ha'.1 z hz; omega
      · exact h1
    · rcases List.mem_cons.1 ((h z).2 (by simp [hz])) with h1 | h1
      · subst h1; have := hb'.1 z hz; omega
      · exact h1
/-- The numbers of a row, ascending, each once. -/
def asc (l : List Int) : List Int := Lib.compact (srt l)
theorem comp_inv (d : Array Int) (hd : ∀ i j, i ≤ j → j < d.size → d[i]! ≤ d[j]!) : ∀ m, m ≤ d.size → ris (Lib.compactUpTo d m) ∧ (∀ x, x ∈ Lib.compactUpTo d m ↔ ∃ i, i < m ∧ d[i]! = x)
  | 0, _ => by
    constructor
    · exact List.Pairwise.nil
    · intro x; simp [Lib.compactUpTo]
  | m + 1, hm => by
    obtain ⟨h1, h2⟩ := comp_inv d hd m (by omega)
    rw [Lib.compactUpTo_succ]
    by_cases hk : Lib.keeps d m = true
    · rw [if_pos hk]
      refine ⟨?_, fun x => ?_⟩
      · refine List.pairwise_append.2 ⟨h1, List.pairwise_singleton _ _, fun x hx y hy => ?_⟩
        rw [List.mem_singleton] at hy; subst hy
        obtain ⟨i, hi, rfl⟩ := (h2 x).1 hx
        have hk' : m = 0 ∨ d[m]! ≠ d[m - 1]! := of_decide_eq_true hk
        have e1 := hd i (m - 1) (by omega) (by omega)
        have e2 := hd (m - 1) m (by omega) (by omega)
        rcases hk' with h0 | hne
        · omega
        · omega
      · rw [List.mem_append, h2, List.mem_singleton]
        constructor
        · rintro (⟨i, hi, rfl⟩ | rfl)
          · exact ⟨i, by omega, rfl⟩
          · exact ⟨m, by omega, rfl⟩
        · rintro ⟨i, hi, rfl⟩
          rcases Nat.lt_or_ge i m with h | h
          · exact .inl ⟨i, h, rfl⟩
          · obtain rfl : i = m := by omega
            exact .inr rfl
    · rw [if_neg hk, List.append_nil]
      refine ⟨h1, fun x => ?_⟩
      rw [h2]
      constructor
      · rintro ⟨i, hi, rfl⟩; exact ⟨i, by omega, rfl⟩
      · rintro ⟨i, hi, rfl⟩
        rcases Nat.lt_or_ge i m with h | h
        · exact ⟨i, h, rfl⟩
        · obtain rfl : i = m := by omega
          have hk' : ¬ (i = 0 ∨ d[i]! ≠ d[i - 1]!) := fun h => hk (decide_eq_true h)
          have h0 : i ≠ 0 := fun h => hk' (.inl h)
          have he : d[i]! = d[i - 1]! := Decidable.byContradiction fun h => hk' (.inr h)
          exact ⟨i - 1, by omega, he.symm⟩
theorem srt_le (l : List Int) : (srt l).Pairwise (· ≤ ·) := by
  have := List.pairwise_mergeSort (le := fun x y : Int => decide (x ≤ y)) (fun a b c h1 h2 => by simp at *; omega) (fun a b => by simp; omega) l
  exact this.imp fun h => of_decide_eq_true h
theorem asc_both (l : List Int) : ris (asc l) ∧ ∀ x, x ∈ asc l ↔ x ∈ l := by
  have hs := srt_le l
  have hget : ∀ i (h : i < (srt l).length), (srt l).toArray[i]! = (srt l)[i] := fun i h => by rw [getElem!_pos _ i (by simpa using h)]; simp
  obtain ⟨h1, h2⟩ := comp_inv (srt l).toArray (fun i j hij hj => by
    have hj' : j < (srt l).length := by simpa using hj
    rw [hget j hj', hget i (by omega)]
    rcases Nat.lt_or_ge i j with h | h
    · exact List.pairwise_iff_getElem.1 hs i j (by omega) hj' h
    · obtain rfl : i = j := by omega
      exact Int.le_refl _) (srt l).length (by simp)
  refine ⟨h1, fun x => ?_⟩
  show x ∈ Lib.compactUpTo _ _ ↔ _
  rw [h2, ← List.mem_mergeSort (le := fun x y : Int => decide (x ≤ y))]
  constructor
  · rintro ⟨i, hi, rfl⟩; rw [hget i hi]; exact List.getElem_mem hi
  · intro hx
    obtain ⟨i, hi, rfl⟩ := List.getElem_of_mem hx
    exact ⟨i, hi, hget i hi⟩
theorem asc_ris (l : List Int) : ris (asc l) := (asc_both l).1
theorem asc_mem (l : List Int) (x : Int) : x ∈ asc l ↔ x ∈ l := (asc_both l).2 x
theorem asc_eq {l r : List Int} (h1 : ris r) (h2 : ∀ x, x ∈ r ↔ x ∈ l) : r = asc l := ris_ext h1 (asc_ris l) fun x => by rw [h2, asc_mem]
theorem asc_len (l : List Int) : (asc l).length ≤ l.length := by
  have := compact_le (srt l)
  rwa [List.length_mergeSort] at this
end Go.Proofs.YtloodkhdngipbaaT
