/- slices.Grow at a nil slice of slices, for eight more. -/
import Derived.Test.YtloodkhdngipbaaKv0
import Derived.Test.YtloodkhdngipbaaKg0
namespace Go.Proofs.YtloodkhdngipbaaT
set_option linter.unusedVariables false
set_option linter.unusedSimpArgs false
open Go

theorem rv_nil {w : World} {κ : Path → Value} {H : Hp} {A : Nat → Nat → Prop} {z : Nat} {v : Value} (h : RV w κ H A (.sl true z []) v) : v = .slice none 0 0 := by
  cases h with
  | pure _ _ h => cases h
  | nil => rfl
theorem rv_int {w : World} {κ : Path → Value} {H : Hp} {A : Nat → Nat → Prop} {k : IntKind} {n : Int} {v : Value} (h : RV w κ H A (.i k n) v) : v = .int k n := by
  cases h with
  | pure _ _ h => cases h; rfl
theorem contract_grow8 {P : Program} {g : FuncId} (h : ∀ (w : World), Calls P g #[.slice none 0 0, .int .i64 8] w fun e w' => ∃ B o c arr T, e = .returned (.slice (some ⟨B, o, none⟩) 0 c) ∧ w.heap.size ≤ B ∧ w'.heap[B]? = some (.cells arr T (0, 0)) ∧ o + c ≤ arr.size ∧ Chg (fun _ _ => False) w w') :
    ContractA P [true, false] false g [.ro, .ro] [.sl false 1 [], .i .i64 8] [.sl true 1 []] [] := by
  intro w vs κ γ A hN hA hγ hAA
  obtain ⟨v1, v2, rfl⟩ : ∃ v1 v2, vs = [v1, v2] := by
    have := hA.len
    match vs, this with
    | [v1, v2], _ => exact ⟨v1, v2, rfl⟩
  obtain rfl := hN 0 v1 rfl rfl
  obtain rfl := rv_int (hA.ro 1 _ v2 rfl rfl rfl)
  refine (h w).mono ?_
  rintro e w' ⟨B, o, c, arr, T, rfl, hB, hb, hs, hch⟩
  have hBl : B < w'.heap.size := by
    rcases Nat.lt_or_ge B w'.heap.size with h | h
    · exact h
    · rw [Array.getElem?_eq_none h] at hb; cases hb
  refine ⟨[.slice (some ⟨B, o, none⟩) 0 c], fun q => if q = [(0, 0)] then .slice (some ⟨B, o, none⟩) 0 c else κ q, fun b i => if b = B then some [(0, 0)] else γ b i, rfl, ⟨rfl, ?_, ?_, ?_⟩, fun m u h => ?_, fun b i q h => ?_, ?_⟩
  · intro j u v hu hv
    match j, hu with
    | 0, hu => simp at hu hv; subst hu; subst hv; exact ⟨rfl, rfl⟩
  · intro m x hx
    match m, hx with
    | 0, hx =>
      simp [cellsT] at hx; subst hx
      simp only [if_true]
      exact .sl _ 1 0 c B o [] arr T (by simp) rfl (Nat.zero_le _) (fun e he => by cases he) hb (by omega) (fun k _ => by simp) (fun i f e u he => by simp at he)
  · intro m v hv
    match m, hv with
    | 0, hv => simp [cellsV] at hv; subst hv; simp
  · simp at h
  · by_cases hbB : b = B
    · subst hbB; exact ⟨hBl, .inr hB⟩
    · simp only [if_neg hbB] at h
      exact ⟨Nat.lt_of_lt_of_le (hγ b i q h) hch.keep.size, .inl ⟨q, h⟩⟩
  · exact ⟨hch.os, hch.tape, hch.output, hch.keep.mono (fun _ _ _ h => h)⟩
theorem W1508 (w : World) : Calls Try.prog 150 #[.slice none 0 0, .int .i64 8] w fun e w' => ∃ B o c arr T, e = .returned (.slice (some ⟨B, o, none⟩) 0 c) ∧ w.heap.size ≤ B ∧ w'.heap[B]? = some (.cells arr T (0, 0)) ∧ o + c ≤ arr.size ∧ Chg (fun _ _ => False) w w' := by
  obtain ⟨i0, hi0⟩ : ∃ i0, i0 = (Try.prog.info? (Try.growI_ren.t 25)).get! := ⟨_, rfl⟩
  have e1 : Try.prog.info? (Try.growI_ren.t 25) = some i0 := by rw [hi0]; kernel_rfl
  have e2 : i0.size = 1 := by rw [hi0]; kernel_rfl
  have e3 : i0.bytes = 24 := by rw [hi0]; kernel_rfl
  have e4 : i0.zero = some (.slice none 0 0) := by rw [hi0]; kernel_rfl
  clear hi0
  refine (Any8.slices_Grow_grow Try.growI i0 (.slice none 0 0) e1 e4 (by omega) none 0 0 8 [] w (by omega) (by omega) (by rw [e3]; omega) (by omega) (by simp) (fun _ => rfl) (fun a ha => by cases ha)).mono ?_
  rintro e w' ⟨rfl, rfl⟩
  have hG : 8 ≤ grownCap w (0 + 8) 0 (Try.growI_ren.t 25) := grownCap_ge w _ _ _
  refine ⟨w.heap.size, 0, _, _, _, rfl, Nat.le_refl _, heap_new w.drew _, ?_, rfl, rfl, rfl, ?_⟩
  · simp only [Builtin.zeroCells, Value.cells, Array.size_append, Array.size_map, Array.size_range]
    generalize grownCap w (0 + 8) 0 (Try.growI_ren.t 25) = G at *
    simp
    omega
  · have := Keep.alloc w.drew (.cells (#[] ++ Builtin.zeroCells (Value.slice none 0 0).cells (0 + 8 - 0) ++ Builtin.zeroCells (Value.slice none 0 0).cells (grownCap w (0 + 8) 0 (Try.growI_ren.t 25) - (0 + 8))) (Try.growI_ren.t 25)) (fun b o => ¬ False)
    exact ⟨this.size, this.cells, this.rest⟩
end Go.Proofs.YtloodkhdngipbaaT
