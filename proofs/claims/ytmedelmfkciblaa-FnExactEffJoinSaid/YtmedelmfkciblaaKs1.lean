/- slices.Sort, slices.Compact at []int: what they do, told by contents; numbers ascending. -/
import Derived.Test.YtmedelmfkciblaaKs0
import Derived.Test.YtmedelmfkciblaaTmAn
import Derived.Test.YtmedelmfkciblaaKa
namespace Go.Proofs.YtmedelmfkciblaaT
set_option linter.unusedVariables false
set_option linter.unusedSimpArgs false
open Go

/- impl.ascending -/
def c78 : TCode := (.seq (.ops [⟨(some 2), 4, .mv (.c (.sl true 1 [])), none, []⟩])
  (.seq (.ops [⟨(some 3), 5, .mv (.t 0), none, []⟩, ⟨(some 4), 6, .call 135 [((.t 3), 0)], none, []⟩])
  (.seq (.ops [⟨(some 5), 7, .mv (.t 0), none, []⟩, ⟨(some 6), 8, .call 136 [((.t 5), 0)], none, []⟩, ⟨(some 2), 4, .mv (.t 6), none, []⟩])
  .ret)))
theorem k78 : compCode Try.prog Try.f78.ntmps Try.f78.body.get! = some c78 := by kernel_rfl
theorem r78 : resTmps Try.prog Try.f78.results.toList = some [.tmp 2] := by kernel_rfl

abbrev srt (zs : List Int) : List Int := zs.mergeSort fun x y => decide (x ≤ y)
theorem w135 (zs : List Int) (h : zs.length ≤ 2^40) : Contract Try.prog false 135 [.own] [.sl true 1 (zs.map iT)] [] [some (.sl true 1 ((srt zs).map iT))] :=
  contract_turn (List.length_mergeSort zs) (fun blk off cap w hH hb hc => Any.slices_Sort_int Try.lays189 blk off cap zs w hH hb (by omega))
    (fun h w => Any.slices_Sort_int_none Try.lays189 none 0 w)
theorem compact_le (zs : List Int) : (Lib.compact zs).length ≤ zs.length := by
  unfold Lib.compact Lib.compactUpTo
  rw [List.length_map]
  exact Nat.le_trans (List.length_filter_le _ _) (by simp)
theorem w136 (zs : List Int) (h : zs.length ≤ 2^40) : Contract Try.prog false 136 [.own] [.sl true 1 (zs.map iT)] [.sl true 1 ((Lib.compact zs).map iT)] [none] := by
  have hle := compact_le zs
  refine contract_cut (zs' := Lib.compact zs ++ List.replicate (zs.length - (Lib.compact zs).length) 0) (Lib.compact zs) (by simp; omega) ⟨(Lib.compact zs).length, by simp, by simp⟩ (fun blk off cap w hH hb hc => ?_) (fun h w => ?_)
  · refine (Any.slices_Compact_int Try.lays20 blk off cap zs w hH (by omega) hc).mono ?_
    rintro e w' ⟨h1, q, h2⟩
    exact ⟨h1, q, #[], by rw [h2, Go.Sort.grow_empty]⟩
  · exact Any.slices_Compact_int_empty Try.lays20 none 0 w

/-! ### rising rows -/
def ris (l : List Int) : Prop := l.Pairwise (· < ·)
theorem ris_ext : ∀ {a b : List Int}, ris a → ris b → (∀ x, x ∈ a ↔ x ∈ b) → a = b
  | [], [], _, _, _ => rfl
  | [], y :: b, _, _, h => by have := (h y).2 (by simp); simp at this
  | x :: a, [], _, _, h => by have := (h x).1 (by simp); simp at this
  | x :: a, y :: b, ha, hb, h => by
    have ha' := List.pairwise_cons.1 ha
    have hb' := List.pairwise_cons.1 hb
    have hxy : x = y := by
      rcases List.mem_cons.1 ((h x).1 (by simp)) with h1 | h1
      · exact h1
      · rcases List.mem_cons.1 ((h y).2 (by simp)) with h2 | h2
        · exact h2.symm
        · have := ha'.1 y h2; have := hb'.1 x h1; omega
    subst hxy
    congr 1
    refine ris_ext ha'.2 hb'.2 fun z => ⟨fun hz => ?_, fun hz => ?_⟩
    · rcases List.mem_cons.1 ((h z).1 (by simp [hz])) with h1 | h1
      · subst h1; have := ha'.1 z hz; omega
      · exact h1
    · rcases List.mem_cons.1 ((h z).2 (by simp [hz])) with h1 | h1
      · subst h1; have := hb'.1 z hz; omega
      · exact h1
/-- The numbers of a row, ascending, each once. -/
def asc (l : List Int) : List Int := Lib.compact (srt l)
theorem comp_inv (d : Array Int) (hd : ∀ i j, i ≤ j → j < d.size → d[i]! ≤ d[j]!) : ∀ m, m ≤ d.size → ris (Lib.compactUpTo d m) ∧ (∀ x, x ∈ Lib.compactUpTo d m ↔ ∃ i, i < m ∧ d[i]! = x)
  | 0, _ => by
    constructor
    · exact List.Pairwise.nil
    · intro x; simp [Lib.compactUpTo]
  | m + 1, hm => by
    obtain ⟨h1, h2⟩ := comp_inv d hd m (by omega)
    rw [Lib.compactUpTo_succ]
    by_cases hk : Lib.keeps d m = true
    · rw [if_pos hk]
      refine ⟨?_, fun x => ?_⟩
      · refine List.pairwise_append.2 ⟨h1, List.pairwise_singleton _ _, fun x hx y hy => ?_⟩
        rw [List.mem_singleton] at hy; subst hy
        obtain ⟨i, hi, rfl⟩ := (h2 x).1 hx
        have hk' : m = 0 ∨ d[m]! ≠ d[m - 1]! := of_decide_eq_true hk
        have e1 := hd i (m - 1) (by omega) (by omega)
        have e2 := hd (m - 1) m (by omega) (by omega)
        rcases hk' with h0 | hne
        · omega
        · omega
      · rw [List.mem_append, h2, List.mem_singleton]
        constructor
        · rintro (⟨i, hi, rfl⟩ | rfl)
          · exact ⟨i, by omega, rfl⟩
          · exact ⟨m, by omega, rfl⟩
        · rintro ⟨i, hi, rfl⟩
          rcases Nat.lt_or_ge i m with h | h
          · exact .inl ⟨i, h, rfl⟩
          · obtain rfl : i = m := by omega
            exact .inr rfl
    · rw [if_neg hk, List.append_nil]
      refine ⟨h1, fun x => ?_⟩
      rw [h2]
      constructor
      · rintro ⟨i, hi, rfl⟩; exact ⟨i, by omega, rfl⟩
      · rintro ⟨i, hi, rfl⟩
        rcases Nat.lt_or_ge i m with h | h
        · exact ⟨i, h, rfl⟩
        · obtain rfl : i = m := by omega
          have hk' : ¬ (i = 0 ∨ d[i]! ≠ d[i - 1]!) := fun h => hk (decide_eq_true h)
          have h0 : i ≠ 0 := fun h => hk' (.inl h)
          have he : d[i]! = d[i - 1]! := Decidable.byContradiction fun h => hk' (.inr h)
          exact ⟨i - 1, by omega, he.symm⟩
theorem srt_le (l : List Int) : (srt l).Pairwise (· ≤ ·) := by
  have := List.pairwise_mergeSort (le := fun x y : Int => decide (x ≤ y)) (fun a b c h1 h2 => by simp at *; omega) (fun a b => by simp; omega) l
  exact this.imp fun h => of_decide_eq_true h
theorem asc_both (l : List Int) : ris (asc l) ∧ ∀ x, x ∈ asc l ↔ x ∈ l := by
  have hs := srt_le l
  have hget : ∀ i (h : i < (srt l).length), (srt l).toArray[i]! = (srt l)[i] := fun i h => by rw [getElem!_pos _ i (by simpa using h)]; simp
  obtain ⟨h1, h2⟩ := comp_inv (srt l).toArray (fun i j hij hj => by
    have hj' : j < (srt l).length := by simpa using hj
    rw [hget j hj', hget i (by omega)]
    rcases Nat.lt_or_ge i j with h | h
    · exact List.pairwise_iff_getElem.1 hs i j (by omega) hj' h
    · obtain rfl : i = j := by omega
      exact Int.le_refl _) (srt l).length (by simp)
  refine ⟨h1, fun x => ?_⟩
  show x ∈ Lib.compactUpTo _ _ ↔ _
  rw [h2, ← List.mem_mergeSort (le := fun x y : Int => decide (x ≤ y))]
  constructor
  · rintro ⟨i, hi, rfl⟩; rw [hget i hi]; exact List.getElem_mem hi
  · intro hx
    obtain ⟨i, hi, rfl⟩ := List.getElem_of_mem hx
    exact ⟨i, hi, hget i hi⟩
theorem asc_ris (l : List Int) : ris (asc l) := (asc_both l).1
theorem asc_mem (l : List Int) (x : Int) : x ∈ asc l ↔ x ∈ l := (asc_both l).2 x
theorem asc_eq {l r : List Int} (h1 : ris r) (h2 : ∀ x, x ∈ r ↔ x ∈ l) : r = asc l := ris_ext h1 (asc_ris l) fun x => by rw [h2, asc_mem]
theorem asc_len (l : List Int) : (asc l).length ≤ l.length := by
  have := compact_le (srt l)
  rwa [List.length_mergeSort] at this
theorem w78 (l : List Int) (h : l.length ≤ 2^40) : Contract Try.prog false 78 [.own] [.sl true 1 (l.map iT)] [.sl true 1 ((asc l).map iT)] [none] := by
  refine mk_contract [none] Try.func78 (c := Try.f78.body.get!) (by kernel_rfl) k78 r78 (of_decide_eq_true rfl) fun _ => ?_
  unfold c78; simp
  refine callW_ms [.own] ?_
  simp
  refine callX_of (w135 l h) (by simp) ?_
  simp
  refine callW_ms [.own] ?_
  simp
  refine callX_of (w136 (srt l) (by rw [List.length_mergeSort]; exact h)) (by simp) ?_
  simp
  rfl
end Go.Proofs.YtmedelmfkciblaaT
