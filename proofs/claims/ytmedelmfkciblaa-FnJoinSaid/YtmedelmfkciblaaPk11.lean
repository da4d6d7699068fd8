/- Texts of this session's own, one behind the other: Ksp, Kv5, Ks2. -/
import Derived.Test.YtmedelmfkciblaaPk10
import Derived.Lib.SlicesCompact
/- Rising rows of integers: the plain law. -/
namespace Go.Proofs.YtmedelmfkciblaaT
set_option linter.unusedVariables false
set_option linter.unusedSimpArgs false
open Go

abbrev srt (zs : List Int) : List Int := zs.mergeSort fun x y => decide (x ≤ y)
theorem compact_le (zs : List Int) : (Lib.compact zs).length ≤ zs.length := by
  unfold Lib.compact Lib.compactUpTo
  rw [List.length_map]
  exact Nat.le_trans (List.length_filter_le _ _) (by simp)
/-! ### rising rows -/
def ris (l : List Int) : Prop := l.Pairwise (· < ·)
theorem ris_ext : ∀ {a b : List Int}, ris a → ris b → (∀ x, x ∈ a ↔ x ∈ b) → a = b
  | [], [], _, _, _ => rfl
  | [], y :: b, _, _, h => by have := (h y).2 (by simp); simp at this
  | x :: a, [], _, _, h => by have := (h x).1 (by simp); simp at this
  | x :: a, y :: b, ha, hb, h => by
    have ha' := List.pairwise_cons.1 ha
    have hb' := List.pairwise_cons.1 hb
    have hxy : x = y := by
      rcases List.mem_cons.1 ((h x).1 (by simp)) with h1 | h1
      · exact h1
      · rcases List.mem_cons.1 ((h y).2 (by simp)) with h2 | h2
        · exact h2.symm
        · have := ha'.1 y h2; have := hb'.1 x h1; omega
    subst hxy
    congr 1
    refine ris_ext ha'.2 hb'.2 fun z => ⟨fun hz => ?_, fun hz => ?_⟩
    · rcases List.mem_cons.1 ((h z).1 (by simp [hz])) with h1 | h1
      · subst h1; have := ha'.1 z hz; omega
      · exact h1
    · rcases List.mem_cons.1 ((h z).2 (by simp [hz])) with h1 | h1
      · subst h1; have := hb'.1 z hz; omega
      · exact h1
/-- The numbers of a row, ascending, each once. -/
def asc (l : List Int) : List Int := Lib.compact (srt l)
theorem comp_inv (d : Array Int) (hd : ∀ i j, i ≤ j → j < d.size → d[i]! ≤ d[j]!) : ∀ m, m ≤ d.size → ris (Lib.compactUpTo d m) ∧ (∀ x, x ∈ Lib.compactUpTo d m ↔ ∃ i, i < m ∧ d[i]! = x)
  | 0, _ => by
    constructor
    · exact List.Pairwise.nil
    · intro x; simp [Lib.compactUpTo]
  | m + 1, hm => by
    obtain ⟨h1, h2⟩ := comp_inv d hd m (by omega)
    rw [Lib.compactUpTo_succ]
    by_cases hk : Lib.keeps d m = true
    · rw [if_pos hk]
      refine ⟨?_, fun x => ?_⟩
      · refine List.pairwise_append.2 ⟨h1, List.pairwise_singleton _ _, fun x hx y hy => ?_⟩
        rw [List.mem_singleton] at hy; subst hy
        obtain ⟨i, hi, rfl⟩ := (h2 x).1 hx
        have hk' : m = 0 ∨ d[m]! ≠ d[m - 1]! := of_decide_eq_true hk
        have e1 := hd i (m - 1) (by omega) (by omega)
        have e2 := hd (m - 1) m (by omega) (by omega)
        rcases hk' with h0 | hne
        · omega
        · omega
      · rw [List.mem_append, h2, List.mem_singleton]
        constructor
        · rintro (⟨i, hi, rfl⟩ | rfl)
          · exact ⟨i, by omega, rfl⟩
          · exact ⟨m, by omega, rfl⟩
        · rintro ⟨i, hi, rfl⟩
          rcases Nat.lt_or_ge i m with h | h
          · exact .inl ⟨i, h, rfl⟩
          · obtain rfl : i = m := by omega
            exact .inr rfl
    · rw [if_neg hk, List.append_nil]
      refine ⟨h1, fun x => ?_⟩
      rw [h2]
      constructor
      · rintro ⟨i, hi, rfl⟩; exact ⟨i, by omega, rfl⟩
      · rintro ⟨i, hi, rfl⟩
        rcases Nat.lt_or_ge i m with h | h
        · exact ⟨i, h, rfl⟩
        · obtain rfl : i = m := by omega
          have hk' : ¬ (i = 0 ∨ d[i]! ≠ d[i - 1]!) := fun h => hk (decide_eq_true h)
          have h0 : i ≠ 0 := fun h => hk' (.inl h)
          have he : d[i]! = d[i - 1]! := Decidable.byContradiction fun h => hk' (.inr h)
          exact ⟨i - 1, by omega, he.symm⟩
theorem srt_le (l : List Int) : (srt l).Pairwise (· ≤ ·) := by
  have := List.pairwise_mergeSort (le := fun x y : Int => decide (x ≤ y)) (fun a b c h1 h2 => by simp at *; omega) (fun a b => by simp; omega) l
  exact this.imp fun h => of_decide_eq_true h
theorem asc_both (l : List Int) : ris (asc l) ∧ ∀ x, x ∈ asc l ↔ x ∈ l := by
  have hs := srt_le l
  have hget : ∀ i (h : i < (srt l).length), (srt l).toArray[i]! = (srt l)[i] := fun i h => by rw [getElem!_pos _ i (by simpa using h)]; simp
  obtain ⟨h1, h2⟩ := comp_inv (srt l).toArray (fun i j hij hj => by
    have hj' : j < (srt l).length := by simpa using hj
    rw [hget j hj', hget i (by omega)]
    rcases Nat.lt_or_ge i j with h | h
    · exact List.pairwise_iff_getElem.1 hs i j (by omega) hj' h
    · obtain rfl : i = j := by omega
      exact Int.le_refl _) (srt l).length (by simp)
  refine ⟨h1, fun x => ?_⟩
  show x ∈ Lib.compactUpTo _ _ ↔ _
  rw [h2, ← List.mem_mergeSort (le := fun x y : Int => decide (x ≤ y))]
  constructor
  · rintro ⟨i, hi, rfl⟩; rw [hget i hi]; exact List.getElem_mem hi
  · intro hx
    obtain ⟨i, hi, rfl⟩ := List.getElem_of_mem hx
    exact ⟨i, hi, hget i hi⟩
theorem asc_ris (l : List Int) : ris (asc l) := (asc_both l).1
theorem asc_mem (l : List Int) (x : Int) : x ∈ asc l ↔ x ∈ l := (asc_both l).2 x
theorem asc_eq {l r : List Int} (h1 : ris r) (h2 : ∀ x, x ∈ r ↔ x ∈ l) : r = asc l := ris_ext h1 (asc_ris l) fun x => by rw [h2, asc_mem]
theorem asc_len (l : List Int) : (asc l).length ≤ l.length := by
  have := compact_le (srt l)
  rwa [List.length_mergeSort] at this
end Go.Proofs.YtmedelmfkciblaaT

/- Effects: whether they have commands. -/
namespace Go.Proofs.YtmedelmfkciblaaT
set_option linter.unusedVariables false
set_option linter.unusedSimpArgs false
open Go

/- laws.szEffect -/
def c13 : TCode := (.seq (.ops [⟨(some 2), 4, .box 10 (.t 0), none, []⟩, ⟨(some 4), 6, .mv (.c (.i .i64 0)), none, []⟩])
  (.seq (.ops [⟨(some 5), 7, .faddr 0 1 (.t 2), none, []⟩, ⟨(some 6), 8, .load false 1 (.t 5), none, []⟩, ⟨(some 7), 9, .mv (.t 1), none, []⟩, ⟨(some 8), 10, .call 68 [((.t 6), 0), ((.t 7), 0)], none, []⟩, ⟨(some 1), 3, .mv (.t 8), none, []⟩])
  (.seq (.seq (.ops [⟨(some 9), 11, .mv (.t 1), none, []⟩, ⟨(some 10), 12, .bin .lss (.t 9) (.c (.i .i64 0)), none, []⟩])
  (.cond (.t 10)
  (.seq (.ops [⟨(some 4), 6, .mv (.c (.i .i64 (-1))), none, []⟩])
  .ret)
  .skip))
  (.seq (.ops [⟨(some 11), 13, .faddr 1 1 (.t 2), none, []⟩, ⟨(some 12), 14, .load false 1 (.t 11), none, []⟩, ⟨(some 13), 15, .mv (.t 1), none, []⟩, ⟨(some 14), 16, .call 68 [((.t 12), 0), ((.t 13), 0)], none, []⟩, ⟨(some 1), 3, .mv (.t 14), none, []⟩])
  (.seq (.seq (.ops [⟨(some 15), 17, .mv (.t 1), none, []⟩, ⟨(some 16), 18, .bin .lss (.t 15) (.c (.i .i64 0)), none, []⟩])
  (.cond (.t 16)
  (.seq (.ops [⟨(some 4), 6, .mv (.c (.i .i64 (-1))), none, []⟩])
  .ret)
  .skip))
  (.seq (.ops [⟨(some 17), 19, .faddr 2 1 (.t 2), none, []⟩, ⟨(some 18), 20, .load false 1 (.t 17), none, []⟩, ⟨(some 19), 21, .mv (.t 1), none, []⟩, ⟨(some 20), 22, .call 68 [((.t 18), 0), ((.t 19), 0)], none, []⟩, ⟨(some 1), 3, .mv (.t 20), none, []⟩])
  (.seq (.seq (.ops [⟨(some 21), 23, .mv (.t 1), none, []⟩, ⟨(some 22), 24, .bin .lss (.t 21) (.c (.i .i64 0)), none, []⟩])
  (.cond (.t 22)
  (.seq (.ops [⟨(some 4), 6, .mv (.c (.i .i64 (-1))), none, []⟩])
  .ret)
  .skip))
  (.seq (.ops [⟨(some 23), 25, .faddr 3 1 (.t 2), none, []⟩, ⟨(some 24), 26, .load false 1 (.t 23), none, []⟩, ⟨(some 25), 27, .mv (.t 1), none, []⟩, ⟨(some 26), 28, .call 68 [((.t 24), 0), ((.t 25), 0)], none, []⟩, ⟨(some 1), 3, .mv (.t 26), none, []⟩])
  (.seq (.seq (.ops [⟨(some 27), 29, .mv (.t 1), none, []⟩, ⟨(some 28), 30, .bin .lss (.t 27) (.c (.i .i64 0)), none, []⟩])
  (.cond (.t 28)
  (.seq (.ops [⟨(some 4), 6, .mv (.c (.i .i64 (-1))), none, []⟩])
  .ret)
  .skip))
  (.seq (.ops [⟨(some 29), 31, .faddr 4 1 (.t 2), none, []⟩, ⟨(some 30), 32, .load false 1 (.t 29), none, []⟩, ⟨(some 31), 33, .mv (.t 1), none, []⟩, ⟨(some 32), 34, .call 68 [((.t 30), 0), ((.t 31), 0)], none, []⟩, ⟨(some 1), 3, .mv (.t 32), none, []⟩])
  (.seq (.seq (.ops [⟨(some 33), 35, .mv (.t 1), none, []⟩, ⟨(some 34), 36, .bin .lss (.t 33) (.c (.i .i64 0)), none, []⟩])
  (.cond (.t 34)
  (.seq (.ops [⟨(some 4), 6, .mv (.c (.i .i64 (-1))), none, []⟩])
  .ret)
  .skip))
  (.seq (.ops [⟨(some 35), 37, .faddr 5 1 (.t 2), none, []⟩, ⟨(some 36), 38, .load false 1 (.t 35), none, []⟩, ⟨(some 37), 39, .mv (.t 1), none, []⟩, ⟨(some 38), 40, .call 68 [((.t 36), 0), ((.t 37), 0)], none, []⟩, ⟨(some 1), 3, .mv (.t 38), none, []⟩])
  (.seq (.seq (.ops [⟨(some 39), 41, .mv (.t 1), none, []⟩, ⟨(some 40), 42, .bin .lss (.t 39) (.c (.i .i64 0)), none, []⟩])
  (.cond (.t 40)
  (.seq (.ops [⟨(some 4), 6, .mv (.c (.i .i64 (-1))), none, []⟩])
  .ret)
  .skip))
  (.seq (.ops [⟨(some 41), 43, .faddr 6 1 (.t 2), none, []⟩, ⟨(some 42), 44, .load false 1 (.t 41), none, []⟩, ⟨(some 43), 45, .mv (.t 1), none, []⟩, ⟨(some 44), 46, .call 68 [((.t 42), 0), ((.t 43), 0)], none, []⟩, ⟨(some 1), 3, .mv (.t 44), none, []⟩])
  (.seq (.seq (.ops [⟨(some 45), 47, .mv (.t 1), none, []⟩, ⟨(some 46), 48, .bin .lss (.t 45) (.c (.i .i64 0)), none, []⟩])
  (.cond (.t 46)
  (.seq (.ops [⟨(some 4), 6, .mv (.c (.i .i64 (-1))), none, []⟩])
  .ret)
  .skip))
  (.seq (.ops [⟨(some 47), 49, .faddr 7 1 (.t 2), none, []⟩, ⟨(some 48), 50, .load false 1 (.t 47), none, []⟩, ⟨(some 49), 51, .mv (.t 1), none, []⟩, ⟨(some 50), 52, .call 68 [((.t 48), 0), ((.t 49), 0)], none, []⟩, ⟨(some 1), 3, .mv (.t 50), none, []⟩])
  (.seq (.seq (.ops [⟨(some 51), 53, .mv (.t 1), none, []⟩, ⟨(some 52), 54, .bin .lss (.t 51) (.c (.i .i64 0)), none, []⟩])
  (.cond (.t 52)
  (.seq (.ops [⟨(some 4), 6, .mv (.c (.i .i64 (-1))), none, []⟩])
  .ret)
  .skip))
  (.seq (.ops [⟨(some 53), 55, .mv (.t 1), none, []⟩, ⟨(some 4), 6, .mv (.t 53), none, []⟩])
  .ret))))))))))))))))))
theorem k13 : compCode Try.prog Try.f13.ntmps Try.f13.body.get! = some c13 := by kernel_rfl
theorem r13 : resTmps Try.prog Try.f13.results.toList = some [.tmp 4] := by kernel_rfl
/- laws.toEffect -/
def c15 : TCode := (.seq (.ops [⟨(some 1), 3, .box 10 (.t 0), none, []⟩, ⟨(some 2), 4, .box 10 (.c (.ag [(.sl true 1 []), (.sl true 1 []), (.sl true 1 []), (.sl true 1 []), (.sl true 1 []), (.sl true 1 []), (.sl true 1 []), (.sl true 1 []), (.b false), (.b false)])), none, []⟩])
  (.seq (.ops [⟨(some 3), 5, .box 10 (.c (.ag [(.sl true 1 []), (.sl true 1 []), (.sl true 1 []), (.sl true 1 []), (.sl true 1 []), (.sl true 1 []), (.sl true 1 []), (.sl true 1 []), (.b false), (.b false)])), none, []⟩])
  (.seq (.ops [⟨(some 4), 6, .faddr 0 1 (.t 1), none, []⟩, ⟨(some 5), 7, .load false 1 (.t 4), none, []⟩, ⟨(some 6), 8, .call 52 [((.t 5), 0)], none, []⟩, ⟨(some 7), 9, .faddr 0 1 (.t 3), none, []⟩, ⟨none, 1002004, .store 1 (.t 7) (.t 6), none, []⟩])
  (.seq (.ops [⟨(some 8), 10, .faddr 1 1 (.t 1), none, []⟩, ⟨(some 9), 11, .load false 1 (.t 8), none, []⟩, ⟨(some 10), 12, .call 52 [((.t 9), 0)], none, []⟩, ⟨(some 11), 13, .faddr 1 1 (.t 3), none, []⟩, ⟨none, 1003004, .store 1 (.t 11) (.t 10), none, []⟩])
  (.seq (.ops [⟨(some 12), 14, .faddr 2 1 (.t 1), none, []⟩, ⟨(some 13), 15, .load false 1 (.t 12), none, []⟩, ⟨(some 14), 16, .call 52 [((.t 13), 0)], none, []⟩, ⟨(some 15), 17, .faddr 2 1 (.t 3), none, []⟩, ⟨none, 1004004, .store 1 (.t 15) (.t 14), none, []⟩])
  (.seq (.ops [⟨(some 16), 18, .faddr 3 1 (.t 1), none, []⟩, ⟨(some 17), 19, .load false 1 (.t 16), none, []⟩, ⟨(some 18), 20, .call 52 [((.t 17), 0)], none, []⟩, ⟨(some 19), 21, .faddr 3 1 (.t 3), none, []⟩, ⟨none, 1005004, .store 1 (.t 19) (.t 18), none, []⟩])
  (.seq (.ops [⟨(some 20), 22, .faddr 4 1 (.t 1), none, []⟩, ⟨(some 21), 23, .load false 1 (.t 20), none, []⟩, ⟨(some 22), 24, .call 52 [((.t 21), 0)], none, []⟩, ⟨(some 23), 25, .faddr 4 1 (.t 3), none, []⟩, ⟨none, 1006004, .store 1 (.t 23) (.t 22), none, []⟩])
  (.seq (.ops [⟨(some 24), 26, .faddr 5 1 (.t 1), none, []⟩, ⟨(some 25), 27, .load false 1 (.t 24), none, []⟩, ⟨(some 26), 28, .call 52 [((.t 25), 0)], none, []⟩, ⟨(some 27), 29, .faddr 5 1 (.t 3), none, []⟩, ⟨none, 1007004, .store 1 (.t 27) (.t 26), none, []⟩])
  (.seq (.ops [⟨(some 28), 30, .faddr 6 1 (.t 1), none, []⟩, ⟨(some 29), 31, .load false 1 (.t 28), none, []⟩, ⟨(some 30), 32, .call 52 [((.t 29), 0)], none, []⟩, ⟨(some 31), 33, .faddr 6 1 (.t 3), none, []⟩, ⟨none, 1008004, .store 1 (.t 31) (.t 30), none, []⟩])
  (.seq (.ops [⟨(some 32), 34, .faddr 7 1 (.t 1), none, []⟩, ⟨(some 33), 35, .load false 1 (.t 32), none, []⟩, ⟨(some 34), 36, .call 52 [((.t 33), 0)], none, []⟩, ⟨(some 35), 37, .faddr 7 1 (.t 3), none, []⟩, ⟨none, 1009004, .store 1 (.t 35) (.t 34), none, []⟩])
  (.seq (.ops [⟨(some 36), 38, .faddr 8 1 (.t 1), none, []⟩, ⟨(some 37), 39, .load false 1 (.t 36), none, []⟩, ⟨(some 38), 40, .faddr 8 1 (.t 3), none, []⟩, ⟨none, 1010003, .store 1 (.t 38) (.t 37), none, []⟩])
  (.seq (.ops [⟨(some 39), 41, .faddr 9 1 (.t 1), none, []⟩, ⟨(some 40), 42, .load false 1 (.t 39), none, []⟩, ⟨(some 41), 43, .faddr 9 1 (.t 3), none, []⟩, ⟨none, 1011003, .store 1 (.t 41) (.t 40), none, []⟩])
  (.seq (.ops [⟨(some 42), 44, .load true 10 (.t 3), none, []⟩, ⟨none, 1012001, .store 10 (.t 2) (.t 42), none, []⟩])
  .ret)))))))))))))
theorem k15 : compCode Try.prog Try.f15.ntmps Try.f15.body.get! = some c15 := by kernel_rfl
theorem r15 : resTmps Try.prog Try.f15.results.toList = some [.cell 2 true 10] := by kernel_rfl
/- laws.eqEffect -/
def c17 : TCode := (.seq (.ops [⟨(some 2), 4, .box 10 (.t 0), none, []⟩, ⟨(some 3), 5, .box 10 (.t 1), none, []⟩, ⟨(some 4), 6, .mv (.c (.b false)), none, []⟩])
  (.seq (.seq (.ops [⟨(some 5), 7, .faddr 0 1 (.t 2), none, []⟩, ⟨(some 6), 8, .load false 1 (.t 5), none, []⟩, ⟨(some 7), 9, .faddr 0 1 (.t 3), none, []⟩, ⟨(some 8), 10, .load false 1 (.t 7), none, []⟩, ⟨(some 9), 11, .call 31 [((.t 6), 0), ((.t 8), 0)], none, []⟩, ⟨(some 10), 12, .un .not (.t 9), none, []⟩])
  (.cond (.t 10)
  (.seq (.ops [⟨(some 4), 6, .mv (.c (.b false)), none, []⟩])
  .ret)
  .skip))
  (.seq (.seq (.ops [⟨(some 11), 13, .faddr 1 1 (.t 2), none, []⟩, ⟨(some 12), 14, .load false 1 (.t 11), none, []⟩, ⟨(some 13), 15, .faddr 1 1 (.t 3), none, []⟩, ⟨(some 14), 16, .load false 1 (.t 13), none, []⟩, ⟨(some 15), 17, .call 31 [((.t 12), 0), ((.t 14), 0)], none, []⟩, ⟨(some 16), 18, .un .not (.t 15), none, []⟩])
  (.cond (.t 16)
  (.seq (.ops [⟨(some 4), 6, .mv (.c (.b false)), none, []⟩])
  .ret)
  .skip))
  (.seq (.seq (.ops [⟨(some 17), 19, .faddr 2 1 (.t 2), none, []⟩, ⟨(some 18), 20, .load false 1 (.t 17), none, []⟩, ⟨(some 19), 21, .faddr 2 1 (.t 3), none, []⟩, ⟨(some 20), 22, .load false 1 (.t 19), none, []⟩, ⟨(some 21), 23, .call 31 [((.t 18), 0), ((.t 20), 0)], none, []⟩, ⟨(some 22), 24, .un .not (.t 21), none, []⟩])
  (.cond (.t 22)
  (.seq (.ops [⟨(some 4), 6, .mv (.c (.b false)), none, []⟩])
  .ret)
  .skip))
  (.seq (.seq (.ops [⟨(some 23), 25, .faddr 3 1 (.t 2), none, []⟩, ⟨(some 24), 26, .load false 1 (.t 23), none, []⟩, ⟨(some 25), 27, .faddr 3 1 (.t 3), none, []⟩, ⟨(some 26), 28, .load false 1 (.t 25), none, []⟩, ⟨(some 27), 29, .call 31 [((.t 24), 0), ((.t 26), 0)], none, []⟩, ⟨(some 28), 30, .un .not (.t 27), none, []⟩])
  (.cond (.t 28)
  (.seq (.ops [⟨(some 4), 6, .mv (.c (.b false)), none, []⟩])
  .ret)
  .skip))
  (.seq (.seq (.ops [⟨(some 29), 31, .faddr 4 1 (.t 2), none, []⟩, ⟨(some 30), 32, .load false 1 (.t 29), none, []⟩, ⟨(some 31), 33, .faddr 4 1 (.t 3), none, []⟩, ⟨(some 32), 34, .load false 1 (.t 31), none, []⟩, ⟨(some 33), 35, .call 31 [((.t 30), 0), ((.t 32), 0)], none, []⟩, ⟨(some 34), 36, .un .not (.t 33), none, []⟩])
  (.cond (.t 34)
  (.seq (.ops [⟨(some 4), 6, .mv (.c (.b false)), none, []⟩])
  .ret)
  .skip))
  (.seq (.seq (.ops [⟨(some 35), 37, .faddr 5 1 (.t 2), none, []⟩, ⟨(some 36), 38, .load false 1 (.t 35), none, []⟩, ⟨(some 37), 39, .faddr 5 1 (.t 3), none, []⟩, ⟨(some 38), 40, .load false 1 (.t 37), none, []⟩, ⟨(some 39), 41, .call 31 [((.t 36), 0), ((.t 38), 0)], none, []⟩, ⟨(some 40), 42, .un .not (.t 39), none, []⟩])
  (.cond (.t 40)
  (.seq (.ops [⟨(some 4), 6, .mv (.c (.b false)), none, []⟩])
  .ret)
  .skip))
  (.seq (.seq (.ops [⟨(some 41), 43, .faddr 6 1 (.t 2), none, []⟩, ⟨(some 42), 44, .load false 1 (.t 41), none, []⟩, ⟨(some 43), 45, .faddr 6 1 (.t 3), none, []⟩, ⟨(some 44), 46, .load false 1 (.t 43), none, []⟩, ⟨(some 45), 47, .call 31 [((.t 42), 0), ((.t 44), 0)], none, []⟩, ⟨(some 46), 48, .un .not (.t 45), none, []⟩])
  (.cond (.t 46)
  (.seq (.ops [⟨(some 4), 6, .mv (.c (.b false)), none, []⟩])
  .ret)
  .skip))
  (.seq (.seq (.ops [⟨(some 47), 49, .faddr 7 1 (.t 2), none, []⟩, ⟨(some 48), 50, .load false 1 (.t 47), none, []⟩, ⟨(some 49), 51, .faddr 7 1 (.t 3), none, []⟩, ⟨(some 50), 52, .load false 1 (.t 49), none, []⟩, ⟨(some 51), 53, .call 31 [((.t 48), 0), ((.t 50), 0)], none, []⟩, ⟨(some 52), 54, .un .not (.t 51), none, []⟩])
  (.cond (.t 52)
  (.seq (.ops [⟨(some 4), 6, .mv (.c (.b false)), none, []⟩])
  .ret)
  .skip))
  (.seq (.seq (.ops [⟨(some 53), 55, .faddr 8 1 (.t 2), none, []⟩, ⟨(some 54), 56, .load false 1 (.t 53), none, []⟩, ⟨(some 55), 57, .faddr 8 1 (.t 3), none, []⟩, ⟨(some 56), 58, .load false 1 (.t 55), none, []⟩, ⟨(some 57), 59, .eqs true false [.b] (.t 54) (.t 56), none, []⟩])
  (.cond (.t 57)
  (.seq (.ops [⟨(some 4), 6, .mv (.c (.b false)), none, []⟩])
  .ret)
  .skip))
  (.seq (.seq (.ops [⟨(some 58), 60, .faddr 9 1 (.t 2), none, []⟩, ⟨(some 59), 61, .load false 1 (.t 58), none, []⟩, ⟨(some 60), 62, .faddr 9 1 (.t 3), none, []⟩, ⟨(some 61), 63, .load false 1 (.t 60), none, []⟩, ⟨(some 62), 64, .eqs true false [.b] (.t 59) (.t 61), none, []⟩])
  (.cond (.t 62)
  (.seq (.ops [⟨(some 4), 6, .mv (.c (.b false)), none, []⟩])
  .ret)
  .skip))
  (.seq (.ops [⟨(some 4), 6, .mv (.c (.b true)), none, []⟩])
  .ret))))))))))))
theorem k17 : compCode Try.prog Try.f17.ntmps Try.f17.body.get! = some c17 := by kernel_rfl
theorem r17 : resTmps Try.prog Try.f17.results.toList = some [.tmp 4] := by kernel_rfl
/- spec.Commands -/
def c26 : TCode := (.seq (.ops [⟨(some 1), 3, .box 10 (.t 0), none, []⟩, ⟨(some 2), 4, .mv (.c (.b false)), none, []⟩])
  (.seq (.ops [⟨(some 3), 5, .faddr 8 1 (.t 1), none, []⟩, ⟨(some 4), 6, .load false 1 (.t 3), none, []⟩, ⟨(some 5), 7, .mv (.t 4), none, []⟩, ⟨(some 6), 8, .faddr 9 1 (.t 1), (some (5, false)), []⟩, ⟨(some 7), 9, .load false 1 (.t 6), (some (5, false)), []⟩, ⟨(some 8), 10, .pick (.t 5) (.c (.b true)) (.t 7), none, []⟩, ⟨(some 9), 11, .mv (.t 8), none, []⟩, ⟨(some 10), 12, .faddr 7 1 (.t 1), (some (9, false)), []⟩, ⟨(some 11), 13, .load false 1 (.t 10), (some (9, false)), []⟩, ⟨(some 12), 14, .len false (.t 11), (some (9, false)), []⟩, ⟨(some 13), 15, .bin .gtr (.t 12) (.c (.i .i64 0)), (some (9, false)), []⟩, ⟨(some 14), 16, .pick (.t 9) (.c (.b true)) (.t 13), none, []⟩, ⟨(some 2), 4, .mv (.t 14), none, []⟩])
  .ret))
theorem k26 : compCode Try.prog Try.f26.ntmps Try.f26.body.get! = some c26 := by kernel_rfl
theorem r26 : resTmps Try.prog Try.f26.results.toList = some [.tmp 2] := by kernel_rfl
/- impl.Commands -/
def c25 : TCode := (.seq (.ops [⟨(some 1), 3, .box 10 (.t 0), none, []⟩, ⟨(some 2), 4, .mv (.c (.b false)), none, []⟩])
  (.seq (.ops [⟨(some 3), 5, .faddr 8 1 (.t 1), none, []⟩, ⟨(some 4), 6, .load false 1 (.t 3), none, []⟩, ⟨(some 5), 7, .mv (.t 4), none, []⟩, ⟨(some 6), 8, .faddr 9 1 (.t 1), (some (5, false)), []⟩, ⟨(some 7), 9, .load false 1 (.t 6), (some (5, false)), []⟩, ⟨(some 8), 10, .pick (.t 5) (.c (.b true)) (.t 7), none, []⟩, ⟨(some 9), 11, .mv (.t 8), none, []⟩, ⟨(some 10), 12, .faddr 7 1 (.t 1), (some (9, false)), []⟩, ⟨(some 11), 13, .load false 1 (.t 10), (some (9, false)), []⟩, ⟨(some 12), 14, .len false (.t 11), (some (9, false)), []⟩, ⟨(some 13), 15, .bin .gtr (.t 12) (.c (.i .i64 0)), (some (9, false)), []⟩, ⟨(some 14), 16, .pick (.t 9) (.c (.b true)) (.t 13), none, []⟩, ⟨(some 2), 4, .mv (.t 14), none, []⟩])
  .ret))
theorem k25 : compCode Try.prog Try.f25.ntmps Try.f25.body.get! = some c25 := by kernel_rfl
theorem r25 : resTmps Try.prog Try.f25.results.toList = some [.tmp 2] := by kernel_rfl

/-- An Effect: eight lists, two flags. -/
abbrev EffP := List Int × List Int × List Int × List Int × List Int × List Int × List Int × List Int × Bool × Bool
def effR (e : EffP) : TV := .ag [.sl false 1 (e.1.map iT), .sl false 1 (e.2.1.map iT), .sl false 1 (e.2.2.1.map iT), .sl false 1 (e.2.2.2.1.map iT), .sl false 1 (e.2.2.2.2.1.map iT), .sl false 1 (e.2.2.2.2.2.1.map iT), .sl false 1 (e.2.2.2.2.2.2.1.map iT), .sl false 1 (e.2.2.2.2.2.2.2.1.map iT), .b e.2.2.2.2.2.2.2.2.1, .b e.2.2.2.2.2.2.2.2.2]
def effO (e : EffP) : TV := .ag [.sl true 1 (e.1.map iT), .sl true 1 (e.2.1.map iT), .sl true 1 (e.2.2.1.map iT), .sl true 1 (e.2.2.2.1.map iT), .sl true 1 (e.2.2.2.2.1.map iT), .sl true 1 (e.2.2.2.2.2.1.map iT), .sl true 1 (e.2.2.2.2.2.2.1.map iT), .sl true 1 (e.2.2.2.2.2.2.2.1.map iT), .b e.2.2.2.2.2.2.2.2.1, .b e.2.2.2.2.2.2.2.2.2]
def effLs (e : EffP) : List (List Int) := [e.1, e.2.1, e.2.2.1, e.2.2.2.1, e.2.2.2.2.1, e.2.2.2.2.2.1, e.2.2.2.2.2.2.1, e.2.2.2.2.2.2.2.1]
def effB (k : Nat) (e : EffP) : Prop := e.1.length ≤ k ∧ e.2.1.length ≤ k ∧ e.2.2.1.length ≤ k ∧ e.2.2.2.1.length ≤ k ∧ e.2.2.2.2.1.length ≤ k ∧ e.2.2.2.2.2.1.length ≤ k ∧ e.2.2.2.2.2.2.1.length ≤ k ∧ e.2.2.2.2.2.2.2.1.length ≤ k
def szLen (l : List Int) (m : Int) : Int := szF m l.length
theorem szLen_le (l : List Int) (m : Int) (h : 0 ≤ m) : szLen l m ≤ m := szF_le _ _ (by omega) h
theorem szLen_neg (l : List Int) (m : Int) (h : szLen l m < 0) : szLen l m = -1 := szF_neg _ _ h
def szEffF (e : EffP) (n : Int) : Int := szA szLen (effLs e) n
theorem szEff_ok {e : EffP} {n : Int} {k : Nat} (h0 : 0 ≤ n) (hk : n ≤ k) (h : ¬ szEffF e n < 0) : 0 ≤ szEffF e n ∧ szEffF e n ≤ n ∧ effB k e := by
  obtain ⟨h1, h2⟩ := szA_ok szLen_le (effLs e) n (by unfold szEffF at h; omega) h0
  have hb : ∀ l ∈ effLs e, l.length ≤ k := fun l hl => by
    obtain ⟨m, m1, m2, m3⟩ := h2 l hl
    have := (szF_pos (n := m) (k := l.length) m3).2
    omega
  refine ⟨by omega, h1, ?_⟩
  simp only [effLs, List.mem_cons, List.not_mem_nil, or_false, forall_eq_or_imp, forall_eq] at hb
  exact hb
theorem szA_cons {α : Type} (f : α → Int → Int) (x : α) (l : List α) (n : Int) (h : 0 ≤ n) : szA f (x :: l) n = szA f l (f x n) := by
  show szA f l (if n < 0 then -1 else f x n) = _; rw [if_neg (by omega)]
theorem szA_cneg {α : Type} {f : α → Int → Int} (hn : ∀ x m, f x m < 0 → f x m = -1) (x : α) (l : List α) (n : Int) (h : 0 ≤ n) (h2 : f x n < 0) : szA f (x :: l) n = -1 := by
  rw [szA_cons f x l n h]; exact szA_neg f l _ (hn x n h2)
theorem w13 (e : EffP) (n : Int) (hb : effB 9223372036854775807 e) (hn : n < 2^62) (hn0 : 0 ≤ n) : Contract Try.prog false 13 [.ro, .ro] [effR e, .i .i64 n] [.i .i64 (szEffF e n)] [] := by
  refine mk_contract [] Try.func13 (c := Try.f13.body.get!) (by kernel_rfl) k13 r13 (of_decide_eq_true rfl) fun _ => ?_
  obtain ⟨b1, b2, b3, b4, b5, b6, b7, b8⟩ := hb
  unfold c13; unfold effR szEffF effLs; simp
  refine callW_ms [.ro, .ro] ?_
  simp
  refine callX_of (w68 e.1 n (by omega) (by omega) hn0) (by simp) ?_
  simp
  have q1 := szF_le n e.1.length (by omega) hn0
  obtain ⟨m1, em1⟩ : ∃ m, m = szF n e.1.length := ⟨_, rfl⟩
  have nm1 : m1 < 0 → m1 = -1 := fun h => by rw [em1] at h ⊢; exact szF_neg _ _ h
  rw [szA_cons szLen _ _ _ hn0, show szLen e.1 n = m1 from em1.symm, ← em1]
  rw [← em1] at q1
  refine ⟨fun h => by rw [szA_neg szLen _ _ (nm1 h)], fun hm1 => ?_⟩
  refine callW_ms [.ro, .ro] ?_
  simp
  refine callX_of (w68 e.2.1 m1 (by omega) (by omega) hm1) (by simp) ?_
  simp
  have q2 := szF_le m1 e.2.1.length (by omega) hm1
  obtain ⟨m2, em2⟩ : ∃ m, m = szF m1 e.2.1.length := ⟨_, rfl⟩
  have nm2 : m2 < 0 → m2 = -1 := fun h => by rw [em2] at h ⊢; exact szF_neg _ _ h
  rw [szA_cons szLen _ _ _ hm1, show szLen e.2.1 m1 = m2 from em2.symm, ← em2]
  rw [← em2] at q2
  refine ⟨fun h => by rw [szA_neg szLen _ _ (nm2 h)], fun hm2 => ?_⟩
  refine callW_ms [.ro, .ro] ?_
  simp
  refine callX_of (w68 e.2.2.1 m2 (by omega) (by omega) hm2) (by simp) ?_
  simp
  have q3 := szF_le m2 e.2.2.1.length (by omega) hm2
  obtain ⟨m3, em3⟩ : ∃ m, m = szF m2 e.2.2.1.length := ⟨_, rfl⟩
  have nm3 : m3 < 0 → m3 = -1 := fun h => by rw [em3] at h ⊢; exact szF_neg _ _ h
  rw [szA_cons szLen _ _ _ hm2, show szLen e.2.2.1 m2 = m3 from em3.symm, ← em3]
  rw [← em3] at q3
  refine ⟨fun h => by rw [szA_neg szLen _ _ (nm3 h)], fun hm3 => ?_⟩
  refine callW_ms [.ro, .ro] ?_
  simp
  refine callX_of (w68 e.2.2.2.1 m3 (by omega) (by omega) hm3) (by simp) ?_
  simp
  have q4 := szF_le m3 e.2.2.2.1.length (by omega) hm3
  obtain ⟨m4, em4⟩ : ∃ m, m = szF m3 e.2.2.2.1.length := ⟨_, rfl⟩
  have nm4 : m4 < 0 → m4 = -1 := fun h => by rw [em4] at h ⊢; exact szF_neg _ _ h
  rw [szA_cons szLen _ _ _ hm3, show szLen e.2.2.2.1 m3 = m4 from em4.symm, ← em4]
  rw [← em4] at q4
  refine ⟨fun h => by rw [szA_neg szLen _ _ (nm4 h)], fun hm4 => ?_⟩
  refine callW_ms [.ro, .ro] ?_
  simp
  refine callX_of (w68 e.2.2.2.2.1 m4 (by omega) (by omega) hm4) (by simp) ?_
  simp
  have q5 := szF_le m4 e.2.2.2.2.1.length (by omega) hm4
  obtain ⟨m5, em5⟩ : ∃ m, m = szF m4 e.2.2.2.2.1.length := ⟨_, rfl⟩
  have nm5 : m5 < 0 → m5 = -1 := fun h => by rw [em5] at h ⊢; exact szF_neg _ _ h
  rw [szA_cons szLen _ _ _ hm4, show szLen e.2.2.2.2.1 m4 = m5 from em5.symm, ← em5]
  rw [← em5] at q5
  refine ⟨fun h => by rw [szA_neg szLen _ _ (nm5 h)], fun hm5 => ?_⟩
  refine callW_ms [.ro, .ro] ?_
  simp
  refine callX_of (w68 e.2.2.2.2.2.1 m5 (by omega) (by omega) hm5) (by simp) ?_
  simp
  have q6 := szF_le m5 e.2.2.2.2.2.1.length (by omega) hm5
  obtain ⟨m6, em6⟩ : ∃ m, m = szF m5 e.2.2.2.2.2.1.length := ⟨_, rfl⟩
  have nm6 : m6 < 0 → m6 = -1 := fun h => by rw [em6] at h ⊢; exact szF_neg _ _ h
  rw [szA_cons szLen _ _ _ hm5, show szLen e.2.2.2.2.2.1 m5 = m6 from em6.symm, ← em6]
  rw [← em6] at q6
  refine ⟨fun h => by rw [szA_neg szLen _ _ (nm6 h)], fun hm6 => ?_⟩
  refine callW_ms [.ro, .ro] ?_
  simp
  refine callX_of (w68 e.2.2.2.2.2.2.1 m6 (by omega) (by omega) hm6) (by simp) ?_
  simp
  have q7 := szF_le m6 e.2.2.2.2.2.2.1.length (by omega) hm6
  obtain ⟨m7, em7⟩ : ∃ m, m = szF m6 e.2.2.2.2.2.2.1.length := ⟨_, rfl⟩
  have nm7 : m7 < 0 → m7 = -1 := fun h => by rw [em7] at h ⊢; exact szF_neg _ _ h
  rw [szA_cons szLen _ _ _ hm6, show szLen e.2.2.2.2.2.2.1 m6 = m7 from em7.symm, ← em7]
  rw [← em7] at q7
  refine ⟨fun h => by rw [szA_neg szLen _ _ (nm7 h)], fun hm7 => ?_⟩
  refine callW_ms [.ro, .ro] ?_
  simp
  refine callX_of (w68 e.2.2.2.2.2.2.2.1 m7 (by omega) (by omega) hm7) (by simp) ?_
  simp
  have q8 := szF_le m7 e.2.2.2.2.2.2.2.1.length (by omega) hm7
  obtain ⟨m8, em8⟩ : ∃ m, m = szF m7 e.2.2.2.2.2.2.2.1.length := ⟨_, rfl⟩
  have nm8 : m8 < 0 → m8 = -1 := fun h => by rw [em8] at h ⊢; exact szF_neg _ _ h
  rw [szA_cons szLen _ _ _ hm7, show szLen e.2.2.2.2.2.2.2.1 m7 = m8 from em8.symm, ← em8]
  rw [← em8] at q8
  simp
  exact fun h => (nm8 h).symm
theorem w15 (e : EffP) (hb : effB (2^40) e) : Contract Try.prog false 15 [.ro] [effR e] [effO e] [] := by
  refine mk_contract [] Try.func15 (c := Try.f15.body.get!) (by kernel_rfl) k15 r15 (of_decide_eq_true rfl) fun _ => ?_
  obtain ⟨b1, b2, b3, b4, b5, b6, b7, b8⟩ := hb
  unfold c15; unfold effR effO; simp
  refine callW_ms [.ro] ?_
  simp
  refine callX_of (w52 e.1 b1) (by simp) ?_
  simp
  refine callW_ms [.ro] ?_
  simp
  refine callX_of (w52 e.2.1 b2) (by simp) ?_
  simp
  refine callW_ms [.ro] ?_
  simp
  refine callX_of (w52 e.2.2.1 b3) (by simp) ?_
  simp
  refine callW_ms [.ro] ?_
  simp
  refine callX_of (w52 e.2.2.2.1 b4) (by simp) ?_
  simp
  refine callW_ms [.ro] ?_
  simp
  refine callX_of (w52 e.2.2.2.2.1 b5) (by simp) ?_
  simp
  refine callW_ms [.ro] ?_
  simp
  refine callX_of (w52 e.2.2.2.2.2.1 b6) (by simp) ?_
  simp
  refine callW_ms [.ro] ?_
  simp
  refine callX_of (w52 e.2.2.2.2.2.2.1 b7) (by simp) ?_
  simp
  refine callW_ms [.ro] ?_
  simp
  refine callX_of (w52 e.2.2.2.2.2.2.2.1 b8) (by simp) ?_
  simp
theorem w17 (e : EffP) (hb : effB (2^40) e) : Contract Try.prog false 17 [.ro, .ro] [effR e, effR e] [.b true] [] := by
  refine mk_contract [] Try.func17 (c := Try.f17.body.get!) (by kernel_rfl) k17 r17 (of_decide_eq_true rfl) fun _ => ?_
  obtain ⟨b1, b2, b3, b4, b5, b6, b7, b8⟩ := hb
  unfold c17; unfold effR; simp
  refine callW_ms [.ro, .ro] ?_
  simp
  refine callX_of (w31 e.1 e.1 b1 b1) (by simp) ?_
  simp
  refine callW_ms [.ro, .ro] ?_
  simp
  refine callX_of (w31 e.2.1 e.2.1 b2 b2) (by simp) ?_
  simp
  refine callW_ms [.ro, .ro] ?_
  simp
  refine callX_of (w31 e.2.2.1 e.2.2.1 b3 b3) (by simp) ?_
  simp
  refine callW_ms [.ro, .ro] ?_
  simp
  refine callX_of (w31 e.2.2.2.1 e.2.2.2.1 b4 b4) (by simp) ?_
  simp
  refine callW_ms [.ro, .ro] ?_
  simp
  refine callX_of (w31 e.2.2.2.2.1 e.2.2.2.2.1 b5 b5) (by simp) ?_
  simp
  refine callW_ms [.ro, .ro] ?_
  simp
  refine callX_of (w31 e.2.2.2.2.2.1 e.2.2.2.2.2.1 b6 b6) (by simp) ?_
  simp
  refine callW_ms [.ro, .ro] ?_
  simp
  refine callX_of (w31 e.2.2.2.2.2.2.1 e.2.2.2.2.2.2.1 b7 b7) (by simp) ?_
  simp
  refine callW_ms [.ro, .ro] ?_
  simp
  refine callX_of (w31 e.2.2.2.2.2.2.2.1 e.2.2.2.2.2.2.2.1 b8 b8) (by simp) ?_
  simp
def cmdsF (e : EffP) : Bool := e.2.2.2.2.2.2.2.2.1 || e.2.2.2.2.2.2.2.2.2 || decide (0 < e.2.2.2.2.2.2.2.1.length)
theorem w26 (e : EffP) : Contract Try.prog false 26 [.ro] [effR e] [.b (cmdsF e)] [] := by
  refine mk_contract [] Try.func26 (c := Try.f26.body.get!) (by kernel_rfl) k26 r26 (of_decide_eq_true rfl) fun _ => ?_
  unfold c26; unfold effR cmdsF; simp
  cases h1 : e.2.2.2.2.2.2.2.2.1 <;> cases h2 : e.2.2.2.2.2.2.2.2.2 <;> simp [h1, h2]
theorem w25 (e : EffP) : Contract Try.prog false 25 [.ro] [effR e] [.b (cmdsF e)] [] := by
  refine mk_contract [] Try.func25 (c := Try.f25.body.get!) (by kernel_rfl) k25 r25 (of_decide_eq_true rfl) fun _ => ?_
  unfold c25; unfold effR cmdsF; simp
  cases h1 : e.2.2.2.2.2.2.2.2.1 <;> cases h2 : e.2.2.2.2.2.2.2.2.2 <;> simp [h1, h2]
end Go.Proofs.YtmedelmfkciblaaT

/- Sorted by halves; joins of effects. -/
namespace Go.Proofs.YtmedelmfkciblaaT
set_option linter.unusedVariables false
set_option linter.unusedSimpArgs false
open Go

/- spec.l10Sorted -/
def c77 : TCode := (.seq (.ops [⟨(some 2), 4, .mv (.c (.sl true 1 [])), none, []⟩])
  (.seq (.ops [⟨(some 10), 12, .mv (.t 0), none, []⟩, ⟨(some 11), 13, .len false (.t 10), none, []⟩, ⟨(some 3), 5, .mv (.t 11), none, []⟩])
  (.seq (.seq (.ops [⟨(some 12), 14, .mv (.t 3), none, []⟩, ⟨(some 13), 15, .bin .lss (.t 12) (.c (.i .i64 2)), none, []⟩])
  (.cond (.t 13)
  (.seq (.ops [⟨(some 14), 16, .bslice 1 0 [(.i .i64 0)] [], none, []⟩, ⟨(some 15), 17, .mv (.t 0), none, []⟩, ⟨(some 16), 18, .app 1 8 (.t 14) (.t 15), none, []⟩, ⟨(some 2), 4, .mv (.t 16), none, []⟩])
  .ret)
  .skip))
  (.seq (.ops [⟨(some 17), 19, .mv (.t 0), none, []⟩, ⟨(some 18), 20, .mv (.t 3), none, []⟩, ⟨(some 19), 21, .bin .quo (.t 18) (.c (.i .i64 2)), none, []⟩, ⟨(some 20), 22, .slice false 1 (.t 17) none (some (.t 19)), none, []⟩, ⟨(some 21), 23, .call 77 [((.t 20), 0)], none, []⟩, ⟨(some 4), 6, .mv (.t 21), none, []⟩])
  (.seq (.ops [⟨(some 22), 24, .mv (.t 0), none, []⟩, ⟨(some 23), 25, .mv (.t 3), none, []⟩, ⟨(some 24), 26, .bin .quo (.t 23) (.c (.i .i64 2)), none, []⟩, ⟨(some 25), 27, .slice false 1 (.t 22) (some (.t 24)) none, none, []⟩, ⟨(some 26), 28, .call 77 [((.t 25), 0)], none, []⟩, ⟨(some 5), 7, .mv (.t 26), none, []⟩])
  (.seq (.ops [⟨(some 27), 29, .bslice 1 0 [(.i .i64 0)] [], none, []⟩, ⟨(some 6), 8, .mv (.t 27), none, []⟩])
  (.seq (.ops [⟨(some 7), 9, .mv (.c (.i .i64 0)), none, []⟩, ⟨(some 8), 10, .mv (.c (.i .i64 0)), none, []⟩])
  (.seq (.block 0 (.loop (.seq (.seq (.ops [⟨(some 28), 30, .mv (.t 7), none, []⟩, ⟨(some 29), 31, .mv (.t 4), none, []⟩, ⟨(some 30), 32, .len false (.t 29), none, []⟩, ⟨(some 31), 33, .bin .lss (.t 28) (.t 30), none, []⟩, ⟨(some 32), 34, .mv (.t 31), none, []⟩, ⟨(some 33), 35, .mv (.t 8), (some (32, false)), []⟩, ⟨(some 34), 36, .mv (.t 5), (some (32, false)), []⟩, ⟨(some 35), 37, .len false (.t 34), (some (32, false)), []⟩, ⟨(some 36), 38, .bin .lss (.t 33) (.t 35), (some (32, false)), []⟩, ⟨(some 37), 39, .pick (.t 32) (.c (.b true)) (.t 36), none, []⟩])
  (.cond (.t 37)
  .skip
  (.exit 0)))
  (.block 1 (.seq (.ops [⟨(some 9), 11, .mv (.c (.i .i64 0)), none, []⟩])
  (.seq (.seq (.draw [⟨(some 38), 40, .mv (.t 8), none, []⟩, ⟨(some 39), 41, .mv (.t 5), none, []⟩, ⟨(some 40), 42, .len false (.t 39), none, []⟩, ⟨(some 41), 43, .bin .geq (.t 38) (.t 40), none, []⟩, ⟨(some 42), 44, .mv (.t 41), none, []⟩, ⟨(some 43), 45, .mv (.t 7), (some (42, false)), []⟩, ⟨(some 44), 46, .mv (.t 4), (some (42, false)), []⟩, ⟨(some 45), 47, .len false (.t 44), (some (42, false)), []⟩, ⟨(some 46), 48, .bin .lss (.t 43) (.t 45), (some (42, false)), []⟩, ⟨(some 47), 49, .mv (.t 46), (some (42, false)), []⟩, ⟨(some 48), 50, .mv (.t 4), (some (47, true)), []⟩, ⟨(some 49), 51, .mv (.t 7), (some (47, true)), []⟩, ⟨(some 50), 52, .iaddr 1 (.t 48) (.t 49), (some (47, true)), []⟩, ⟨(some 51), 53, .load false 1 (.t 50), (some (47, true)), []⟩, ⟨(some 52), 54, .mv (.t 5), (some (47, true)), []⟩, ⟨(some 53), 55, .mv (.t 8), (some (47, true)), []⟩, ⟨(some 54), 56, .iaddr 1 (.t 52) (.t 53), (some (47, true)), []⟩, ⟨(some 55), 57, .load false 1 (.t 54), (some (47, true)), []⟩, ⟨(some 56), 58, .bin .leq (.t 51) (.t 55), (some (47, true)), []⟩, ⟨(some 57), 59, .pick (.t 47) (.t 56) (.c (.b false)), (some (42, false)), []⟩, ⟨(some 58), 60, .pick (.t 42) (.c (.b true)) (.t 57), none, []⟩])
  (.cond (.t 58)
  (.seq (.ops [⟨(some 59), 61, .mv (.t 4), none, []⟩, ⟨(some 60), 62, .mv (.t 7), none, []⟩, ⟨(some 61), 63, .iaddr 1 (.t 59) (.t 60), none, []⟩, ⟨(some 62), 64, .load false 1 (.t 61), none, []⟩, ⟨(some 9), 11, .mv (.t 62), none, []⟩])
  (.ops [⟨(some 63), 65, .mv (.t 7), none, []⟩, ⟨(some 64), 66, .bin .add (.t 63) (.c (.i .i64 1)), none, []⟩, ⟨(some 7), 9, .mv (.t 64), none, []⟩]))
  (.seq (.ops [⟨(some 65), 67, .mv (.t 5), none, []⟩, ⟨(some 66), 68, .mv (.t 8), none, []⟩, ⟨(some 67), 69, .iaddr 1 (.t 65) (.t 66), none, []⟩, ⟨(some 68), 70, .load false 1 (.t 67), none, []⟩, ⟨(some 9), 11, .mv (.t 68), none, []⟩])
  (.ops [⟨(some 69), 71, .mv (.t 8), none, []⟩, ⟨(some 70), 72, .bin .add (.t 69) (.c (.i .i64 1)), none, []⟩, ⟨(some 8), 10, .mv (.t 70), none, []⟩]))))
  (.seq (.ops [⟨(some 71), 73, .mv (.t 6), none, []⟩, ⟨(some 72), 74, .len false (.t 71), none, []⟩, ⟨(some 73), 75, .bin .eql (.t 72) (.c (.i .i64 0)), none, []⟩, ⟨(some 74), 76, .mv (.t 73), none, []⟩, ⟨(some 75), 77, .mv (.t 6), (some (74, false)), []⟩, ⟨(some 76), 78, .mv (.t 6), (some (74, false)), []⟩, ⟨(some 77), 79, .len false (.t 76), (some (74, false)), []⟩, ⟨(some 78), 80, .bin .sub (.t 77) (.c (.i .i64 1)), (some (74, false)), []⟩, ⟨(some 79), 81, .iaddr 1 (.t 75) (.t 78), (some (74, false)), []⟩, ⟨(some 80), 82, .load false 1 (.t 79), (some (74, false)), []⟩, ⟨(some 81), 83, .mv (.t 9), (some (74, false)), []⟩, ⟨(some 82), 84, .bin .neq (.t 80) (.t 81), (some (74, false)), []⟩, ⟨(some 83), 85, .pick (.t 74) (.c (.b true)) (.t 82), none, []⟩])
  (.cond (.t 83)
  (.ops [⟨(some 84), 86, .mv (.t 6), none, []⟩, ⟨(some 85), 87, .mv (.t 9), none, []⟩, ⟨(some 86), 88, .bslice 1 1 [(.i .i64 0)] [(0, (.t 85))], none, []⟩, ⟨(some 87), 89, .app 1 8 (.t 84) (.t 86), none, []⟩, ⟨(some 6), 8, .mv (.t 87), none, []⟩])
  .skip))))))))
  (.seq (.ops [⟨(some 88), 90, .mv (.t 6), none, []⟩, ⟨(some 2), 4, .mv (.t 88), none, []⟩])
  .ret)))))))))
theorem k77 : compCode Try.prog Try.f77.ntmps Try.f77.body.get! = some c77 := by kernel_rfl
theorem r77 : resTmps Try.prog Try.f77.results.toList = some [.tmp 2] := by kernel_rfl

/-- A number put behind a row, if it isn't her last. -/
def push (o : List Int) (x : Int) : List Int := if o.getLast? = some x then o else o ++ [x]
theorem drop_cons {a : List Int} {i : Nat} {x : Int} (hx : a[i]? = some x) : a.drop i = x :: a.drop (i + 1) := by
  obtain ⟨h, rfl⟩ := List.getElem?_eq_some_iff.1 hx
  exact List.drop_eq_getElem_cons h
structure MI (a b o : List Int) (i k : Nat) : Prop where
  ri : ris o
  mem : ∀ x, x ∈ o ↔ x ∈ a.take i ∨ x ∈ b.take k
  la : ∀ x ∈ o, ∀ y ∈ a.drop i, x ≤ y
  lb : ∀ x ∈ o, ∀ y ∈ b.drop k, x ≤ y
theorem MI.zero (a b : List Int) : MI a b [] 0 0 := ⟨List.Pairwise.nil, by simp, by simp, by simp⟩
theorem push_ris {o : List Int} {x : Int} (h : ris o) (hx : ∀ y ∈ o, y ≤ x) : ris (push o x) := by
  unfold push; split
  · exact h
  · rename_i hl
    refine List.pairwise_append.2 ⟨h, List.pairwise_singleton _ _, fun y hy z hz => ?_⟩
    rw [List.mem_singleton] at hz; subst hz
    have h1 := hx y hy
    rcases Int.lt_or_eq_of_le h1 with h2 | h2
    · exact h2
    · subst h2
      exfalso
      rcases List.eq_nil_or_concat o with rfl | ⟨o', u, rfl⟩
      · cases hy
      · rw [List.concat_eq_append] at *
        simp at hl hy
        rcases hy with hy | hy
        · have h3 := (List.pairwise_append.1 h).2.2 y hy u (by simp)
          have h4 := hx u (by simp)
          omega
        · exact hl hy.symm
theorem push_mem {o : List Int} {x z : Int} : z ∈ push o x ↔ z ∈ o ∨ z = x := by
  unfold push; split
  · rename_i h
    have : x ∈ o := List.mem_of_getLast? h
    exact ⟨.inl, fun h => h.elim id fun h => h ▸ this⟩
  · simp
theorem MI.pushA {a b o : List Int} {i k : Nat} {x : Int} (h : MI a b o i k) (ha : ris a) (hx : a[i]? = some x) (hy : ∀ y ∈ b.drop k, x ≤ y) : MI a b (push o x) (i + 1) k := by
  have hi := (List.getElem?_eq_some_iff.1 hx).1
  have hd : a.drop i = x :: a.drop (i + 1) := drop_cons hx
  have hpw : (x :: a.drop (i + 1)).Pairwise (· < ·) := by rw [← hd]; exact List.Pairwise.sublist (List.drop_sublist i a) ha
  refine ⟨push_ris h.ri fun y hy => h.la y hy x (by rw [hd]; simp), fun z => ?_, fun z hz y hy2 => ?_, fun z hz y hy2 => ?_⟩
  · rw [push_mem, h.mem, take_snoc hx]; simp
    constructor
    · rintro ((h1 | h1) | h1)
      · exact .inl (.inl h1)
      · exact .inr h1
      · exact .inl (.inr h1)
    · rintro ((h1 | h1) | h1)
      · exact .inl (.inl h1)
      · exact .inr h1
      · exact .inl (.inr h1)
  · rcases push_mem.1 hz with h1 | rfl
    · exact h.la z h1 y (by rw [hd]; exact List.mem_cons_of_mem _ hy2)
    · exact Int.le_of_lt ((List.pairwise_cons.1 hpw).1 y hy2)
  · rcases push_mem.1 hz with h1 | rfl
    · exact h.lb z h1 y hy2
    · exact hy y hy2
theorem MI.swap {a b o : List Int} {i k : Nat} (h : MI a b o i k) : MI b a o k i := ⟨h.ri, fun x => by rw [h.mem]; exact Or.comm, h.lb, h.la⟩
theorem MI.pushB {a b o : List Int} {i k : Nat} {x : Int} (h : MI a b o i k) (hb : ris b) (hx : b[k]? = some x) (hy : ∀ y ∈ a.drop i, x ≤ y) : MI a b (push o x) i (k + 1) := (h.swap.pushA hb hx hy).swap
theorem ris_head {a : List Int} {i : Nat} {x : Int} (ha : ris a) (hx : a[i]? = some x) : ∀ y ∈ a.drop i, x ≤ y := fun y hy => by
  have hd : a.drop i = x :: a.drop (i + 1) := drop_cons hx
  have hpw : (x :: a.drop (i + 1)).Pairwise (· < ·) := by rw [← hd]; exact List.Pairwise.sublist (List.drop_sublist i a) ha
  rw [hd] at hy
  rcases List.mem_cons.1 hy with rfl | h
  · exact Int.le_refl _
  · exact Int.le_of_lt ((List.pairwise_cons.1 hpw).1 y h)
theorem push_len (o : List Int) (x : Int) : (push o x).length ≤ o.length + 1 := by unfold push; split <;> simp
theorem push_nil (x : Int) : push [] x = [x] := rfl
theorem push_same (o : List Int) (x : Int) : push (o ++ [x]) x = o ++ [x] := by unfold push; rw [if_pos (by simp)]
theorem push_ne (o : List Int) {z x : Int} (h : ¬ z = x) : push (o ++ [z]) x = o ++ [z] ++ [x] := by unfold push; rw [if_neg (by simpa using h)]
theorem w77 (l : List Int) (hl : l.length ≤ 2^40) : Contract Try.prog false 77 [.ro] [.sl false 1 (l.map iT)] [.sl true 1 ((asc l).map iT)] [] := by
  induction hn : l.length using Nat.strongRecOn generalizing l with
  | ind n ih =>
  subst hn
  refine mk_contract [] Try.func77 (c := Try.f77.body.get!) (by kernel_rfl) k77 r77 (of_decide_eq_true rfl) fun _ => ?_
  unfold c77; simp
  refine ⟨fun h => ?_, fun h => ?_⟩
  · have e : l = asc l := asc_eq (by
      match l, h with
      | [], _ => exact List.Pairwise.nil
      | [x], _ => exact List.pairwise_singleton _ _
      | x :: y :: l, h => simp at h; omega) (fun x => Iff.rfl)
    rw [← e]
    exact ⟨by omega, rfl⟩
  · have hwm : IntKind.i64.wrap ((l.length : Int) / 2) = ((l.length / 2 : Nat) : Int) := by rw [wrap_id (by omega) (by omega)]; omega
    have h1 := ih (l.length / 2) (by omega) (l.take (l.length / 2)) (by simp; omega) (by simp; omega)
    have h2 := ih (l.length - l.length / 2) (by omega) (l.drop (l.length / 2)) (by simp; omega) (by simp)
    have ra := asc_ris (l.take (l.length / 2))
    have rb := asc_ris (l.drop (l.length / 2))
    have la := asc_len (l.take (l.length / 2))
    have lb := asc_len (l.drop (l.length / 2))
    have hend : ∀ o, MI (asc (l.take (l.length / 2))) (asc (l.drop (l.length / 2))) o (asc (l.take (l.length / 2))).length (asc (l.drop (l.length / 2))).length → o = asc l := fun o h => by
      refine asc_eq h.ri fun x => ?_
      rw [h.mem, List.take_of_length_le (Nat.le_refl _), List.take_of_length_le (Nat.le_refl _), asc_mem, asc_mem, ← List.mem_append, List.take_append_drop]
    rw [List.map_take] at h1
    rw [List.map_drop] at h2
    rw [List.length_take] at la
    rw [List.length_drop] at lb
    generalize asc (l.take (l.length / 2)) = a at *
    generalize asc (l.drop (l.length / 2)) = b at *
    rw [hwm]
    refine ⟨by omega, by omega, ?_⟩
    refine callW_ms [.ro] ?_
    simp
    refine callX_of h1 (by simp) ?_
    simp [hwm]
    refine ⟨by omega, by omega, ?_⟩
    refine callW_ms [.ro] ?_
    simp
    refine callX_of h2 (by simp) ?_
    simp
    refine twp_forR (a.length + b.length) (fun j s => ∃ (i k : Nat) (o : List Int), i + k = j ∧ i ≤ a.length ∧ k ≤ b.length ∧ o.length ≤ i + k ∧ MI a b o i k ∧ s.t 4 = .rf [(23, 0)] 0 a.length ∧ s.t 5 = .rf [(28, 0)] 0 b.length ∧ s.t 6 = .rf [(89, 0)] 0 o.length ∧ s.t 7 = .i .i64 i ∧ s.t 8 = .i .i64 k ∧ s.H = lk [(1, []), (23, [.sl true 1 (a.map iT)]), (28, [.sl true 1 (b.map iT)]), (89, [.sl true 1 (o.map iT)])]) [88] [(29, 89)] (by simp) (by simp) ?_ ?_
    · exact ⟨0, 0, [], rfl, by omega, by omega, by simp, MI.zero a b, by simp⟩
    · rintro j s hj ⟨i, k, o, rfl, hi, hk, hol, hM, q4, q5, q6, q7, q8, qH⟩
      rw [nf_of qH]
      simp [q4, q5, q6, q7, q8]
      have hwi : IntKind.i64.wrap ((i : Int) + 1) = i + 1 := wrap_id (by omega) (by omega)
      have hwk : IntKind.i64.wrap ((k : Int) + 1) = k + 1 := wrap_id (by omega) (by omega)
      cases hbi : decide (i < a.length)
      rotate_left
      · have hia : i < a.length := of_decide_eq_true hbi
        obtain ⟨x, hx⟩ := get_some hia
        simp [q4, q5, q6, q7, q8]
        cases hbk : decide (b.length ≤ k)
        rotate_left
        · have hkb : b.length ≤ k := of_decide_eq_true hbk
          obtain rfl : k = b.length := by omega
          simp [q4, q5, q6, q7, q8, hx, hwi]
          refine ⟨hia, ?_⟩
          have hM2 := hM.pushA ra hx (by simp)
          have hpl := push_len o x
          rcases List.eq_nil_or_concat o with rfl | ⟨o', z, rfl⟩
          · simp [q4, q5, q6, q7, q8, hwi, hwk]
            exact ⟨by omega, i + 1, b.length, by omega, by omega, by omega, push [] x, by omega, hM2, by simp [push_nil]⟩
          · rw [List.concat_eq_append] at *
            have hne : ¬ ((o' ++ [z]).length = 0) := by simp
            have hol2 : o'.length + 1 ≤ i + b.length := by simpa using hol
            have hwo : IntKind.i64.wrap (o'.length : Int) = o'.length := wrap_id (by omega) (by simp at hol; omega)
            by_cases hz : z = x
            · subst hz
              rw [push_same] at hM2 hpl
              simp [q4, q5, q6, q7, q8, hwi, hwk, hwo]
              exact ⟨by omega, by omega, i + 1, b.length, by omega, by omega, by omega, o' ++ [z], by omega, hM2, by simp⟩
            · rw [push_ne _ hz] at hM2 hpl
              simp at hpl
              simp [q4, q5, q6, q7, q8, hwi, hwk, hwo, hz]
              exact ⟨by omega, by omega, by omega, i + 1, b.length, by omega, by omega, by omega, o' ++ [z] ++ [x], by simp; omega, hM2, by simp⟩
        · have hkb : ¬ b.length ≤ k := of_decide_eq_false hbk
          obtain ⟨y, hy⟩ := get_some (l := b) (j := k) (by omega)
          simp [q4, q5, q6, q7, q8, hx, hy]
          simp only [hbi]
          simp [q4, q5, q6, q7, q8, hx, hy]
          refine ⟨hia, by omega, fun hxy => ⟨hia, ?_⟩, fun hxy => ?_⟩
          · have hM2 := hM.pushA ra hx (fun z hz => Int.le_trans hxy (ris_head rb hy z hz))
            have hpl := push_len o x
            rcases List.eq_nil_or_concat o with rfl | ⟨o', z, rfl⟩
            · simp [q4, q5, q6, q7, q8, hwi, hwk]
              exact ⟨by omega, i + 1, k, by omega, by omega, by omega, push [] x, by omega, hM2, by simp [push_nil]⟩
            · rw [List.concat_eq_append] at *
              have hne : ¬ ((o' ++ [z]).length = 0) := by simp
              have hol2 : o'.length + 1 ≤ i + k := by simpa using hol
              have hwo : IntKind.i64.wrap (o'.length : Int) = o'.length := wrap_id (by omega) (by simp at hol; omega)
              by_cases hz : z = x
              · subst hz
                rw [push_same] at hM2 hpl
                simp [q4, q5, q6, q7, q8, hwi, hwk, hwo]
                exact ⟨by omega, by omega, i + 1, k, by omega, by omega, by omega, o' ++ [z], by omega, hM2, by simp⟩
              · rw [push_ne _ hz] at hM2 hpl
                simp at hpl
                simp [q4, q5, q6, q7, q8, hwi, hwk, hwo, hz]
                exact ⟨by omega, by omega, by omega, i + 1, k, by omega, by omega, by omega, o' ++ [z] ++ [x], by simp; omega, hM2, by simp⟩
          · refine ⟨by omega, ?_⟩
            have hM2 := hM.pushB rb hy (fun z hz => Int.le_trans (Int.le_of_lt (by omega)) (ris_head ra hx z hz))
            have hpl := push_len o y
            rcases List.eq_nil_or_concat o with rfl | ⟨o', z, rfl⟩
            · simp [q4, q5, q6, q7, q8, hwi, hwk]
              exact ⟨by omega, i, k + 1, by omega, by omega, by omega, push [] y, by omega, hM2, by simp [push_nil]⟩
            · rw [List.concat_eq_append] at *
              have hne : ¬ ((o' ++ [z]).length = 0) := by simp
              have hol2 : o'.length + 1 ≤ i + k := by simpa using hol
              have hwo : IntKind.i64.wrap (o'.length : Int) = o'.length := wrap_id (by omega) (by simp at hol; omega)
              by_cases hz : z = y
              · subst hz
                rw [push_same] at hM2 hpl
                simp [q4, q5, q6, q7, q8, hwi, hwk, hwo]
                exact ⟨by omega, by omega, i, k + 1, by omega, by omega, by omega, o' ++ [z], by omega, hM2, by simp⟩
              · rw [push_ne _ hz] at hM2 hpl
                simp at hpl
                simp [q4, q5, q6, q7, q8, hwi, hwk, hwo, hz]
                exact ⟨by omega, by omega, by omega, i, k + 1, by omega, by omega, by omega, o' ++ [z] ++ [y], by simp; omega, hM2, by simp⟩
      · have hia : ¬ i < a.length := of_decide_eq_false hbi
        obtain rfl : i = a.length := by omega
        simp [q4, q5, q6, q7, q8]
        refine ⟨fun hkb => ?_, fun hkb => ?_⟩
        · obtain ⟨y, hy⟩ := get_some hkb
          have hbk : decide (b.length ≤ k) = false := decide_eq_false (by omega)
          simp only [hbk]
          simp [q4, q5, q6, q7, q8, hy]
          refine ⟨hkb, ?_⟩
          have hM2 := hM.pushB rb hy (by simp)
          have hpl := push_len o y
          rcases List.eq_nil_or_concat o with rfl | ⟨o', z, rfl⟩
          · simp [q4, q5, q6, q7, q8, hwi, hwk]
            exact ⟨by omega, a.length, k + 1, by omega, by omega, by omega, push [] y, by omega, hM2, by simp [push_nil]⟩
          · rw [List.concat_eq_append] at *
            have hne : ¬ ((o' ++ [z]).length = 0) := by simp
            have hol2 : o'.length + 1 ≤ a.length + k := by simpa using hol
            have hwo : IntKind.i64.wrap (o'.length : Int) = o'.length := wrap_id (by omega) (by simp at hol; omega)
            by_cases hz : z = y
            · subst hz
              rw [push_same] at hM2 hpl
              simp [q4, q5, q6, q7, q8, hwi, hwk, hwo]
              exact ⟨by omega, by omega, a.length, k + 1, by omega, by omega, by omega, o' ++ [z], by omega, hM2, by simp⟩
            · rw [push_ne _ hz] at hM2 hpl
              simp at hpl
              simp [q4, q5, q6, q7, q8, hwi, hwk, hwo, hz]
              exact ⟨by omega, by omega, by omega, a.length, k + 1, by omega, by omega, by omega, o' ++ [z] ++ [y], by simp; omega, hM2, by simp⟩
        · obtain rfl : k = b.length := by omega
          rw [← hend o hM]
end Go.Proofs.YtmedelmfkciblaaT
