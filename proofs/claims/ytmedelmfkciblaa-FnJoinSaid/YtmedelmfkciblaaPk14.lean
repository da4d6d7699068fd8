/- Texts of this session's own, one behind the other: Kg0, Kg8, Kf, Kg, Kh, Ke1, Kj1. -/
import Derived.Test.YtmedelmfkciblaaPk13
import Derived.Test.YtmedelmfkciblaaProg
import Derived.Shelf.Spec.SlicesGrow
/- The library's contract of slices.Grow at [][]int, laid at this program. -/
namespace Go.Proofs
open Go.Shelf
def Try.growI_ren : Go.Shelf.Ren := ⟨fun | 4 => 133 | n => n, fun | 22 => 110 | 25 => 22 | 3 => 3 | 4 => 4 | 9 => 9 | 20 => 20 | 0 => 0 | n => n, fun | n => n⟩
theorem Try.growI : Go.Proofs.Lays8.n4 Try.prog Try.growI_ren := {
  mixed := by kernel_rfl
  f4 := ⟨Try.f133.name, by decide, Try.func133.trans (congrArg some (by kernel_rfl))⟩
  t0 := Try.underlying0
  a0 := Try.isAgg0
  z0 := Try.sizeOf0
  v0 := Try.zeroValue0
  t3 := Try.underlying3
  a3 := Try.isAgg3
  z3 := Try.sizeOf3
  v3 := Try.zeroValue3
  t4 := Try.underlying4
  a4 := Try.isAgg4
  z4 := Try.sizeOf4
  v4 := Try.zeroValue4
  t9 := Try.underlying9
  a9 := Try.isAgg9
  z9 := Try.sizeOf9
  v9 := Try.zeroValue9
  t20 := Try.underlying20
  a20 := Try.isAgg20
  z20 := Try.sizeOf20
  v20 := Try.zeroValue20
  t22 := Try.underlying110
  a22 := Try.isAgg110
  z22 := Try.sizeOf110
  v22 := Try.zeroValue110 }
end Go.Proofs

/- slices.Grow at a nil slice of slices, for eight more. -/
namespace Go.Proofs.YtmedelmfkciblaaT
set_option linter.unusedVariables false
set_option linter.unusedSimpArgs false
open Go

theorem rv_nil {w : World} {κ : Path → Value} {H : Hp} {A : Nat → Nat → Prop} {z : Nat} {v : Value} (h : RV w κ H A (.sl true z []) v) : v = .slice none 0 0 := by
  cases h with
  | pure _ _ h => cases h
  | nil => rfl
theorem rv_int {w : World} {κ : Path → Value} {H : Hp} {A : Nat → Nat → Prop} {k : IntKind} {n : Int} {v : Value} (h : RV w κ H A (.i k n) v) : v = .int k n := by
  cases h with
  | pure _ _ h => cases h; rfl
theorem contract_grow8 {P : Program} {g : FuncId} (h : ∀ (w : World), Calls P g #[.slice none 0 0, .int .i64 8] w fun e w' => ∃ B o c arr T, e = .returned (.slice (some ⟨B, o, none⟩) 0 c) ∧ w.heap.size ≤ B ∧ w'.heap[B]? = some (.cells arr T (0, 0)) ∧ o + c ≤ arr.size ∧ Chg (fun _ _ => False) w w') :
    ContractA P [true, false] false g [.ro, .ro] [.sl false 1 [], .i .i64 8] [.sl true 1 []] [] := by
  intro w vs κ γ A hN hA hγ hAA
  obtain ⟨v1, v2, rfl⟩ : ∃ v1 v2, vs = [v1, v2] := by
    have := hA.len
    match vs, this with
    | [v1, v2], _ => exact ⟨v1, v2, rfl⟩
  obtain rfl := hN 0 v1 rfl rfl
  obtain rfl := rv_int (hA.ro 1 _ v2 rfl rfl rfl)
  refine (h w).mono ?_
  rintro e w' ⟨B, o, c, arr, T, rfl, hB, hb, hs, hch⟩
  have hBl : B < w'.heap.size := by
    rcases Nat.lt_or_ge B w'.heap.size with h | h
    · exact h
    · rw [Array.getElem?_eq_none h] at hb; cases hb
  refine ⟨[.slice (some ⟨B, o, none⟩) 0 c], fun q => if q = [(0, 0)] then .slice (some ⟨B, o, none⟩) 0 c else κ q, fun b i => if b = B then some [(0, 0)] else γ b i, rfl, ⟨rfl, ?_, ?_, ?_⟩, fun m u h => ?_, fun b i q h => ?_, ?_⟩
  · intro j u v hu hv
    match j, hu with
    | 0, hu => simp at hu hv; subst hu; subst hv; exact ⟨rfl, rfl⟩
  · intro m x hx
    match m, hx with
    | 0, hx =>
      simp [cellsT] at hx; subst hx
      simp only [if_true]
      exact .sl _ 1 0 c B o [] arr T (by simp) rfl (Nat.zero_le _) (fun e he => by cases he) hb (by omega) (fun k _ => by simp) (fun i f e u he => by simp at he)
  · intro m v hv
    match m, hv with
    | 0, hv => simp [cellsV] at hv; subst hv; simp
  · simp at h
  · by_cases hbB : b = B
    · subst hbB; exact ⟨hBl, .inr hB⟩
    · simp only [if_neg hbB] at h
      exact ⟨Nat.lt_of_lt_of_le (hγ b i q h) hch.keep.size, .inl ⟨q, h⟩⟩
  · exact ⟨hch.os, hch.tape, hch.output, hch.keep.mono (fun _ _ _ h => h)⟩
theorem W1338 (w : World) : Calls Try.prog 133 #[.slice none 0 0, .int .i64 8] w fun e w' => ∃ B o c arr T, e = .returned (.slice (some ⟨B, o, none⟩) 0 c) ∧ w.heap.size ≤ B ∧ w'.heap[B]? = some (.cells arr T (0, 0)) ∧ o + c ≤ arr.size ∧ Chg (fun _ _ => False) w w' := by
  obtain ⟨i0, hi0⟩ : ∃ i0, i0 = (Try.prog.info? (Try.growI_ren.t 25)).get! := ⟨_, rfl⟩
  have e1 : Try.prog.info? (Try.growI_ren.t 25) = some i0 := by rw [hi0]; kernel_rfl
  have e2 : i0.size = 1 := by rw [hi0]; kernel_rfl
  have e3 : i0.bytes = 24 := by rw [hi0]; kernel_rfl
  have e4 : i0.zero = some (.slice none 0 0) := by rw [hi0]; kernel_rfl
  clear hi0
  refine (Any8.slices_Grow_grow Try.growI i0 (.slice none 0 0) e1 e4 (by omega) none 0 0 8 [] w (by omega) (by omega) (by rw [e3]; omega) (by omega) (by simp) (fun _ => rfl) (fun a ha => by cases ha)).mono ?_
  rintro e w' ⟨rfl, rfl⟩
  have hG : 8 ≤ grownCap w (0 + 8) 0 (Try.growI_ren.t 25) := grownCap_ge w _ _ _
  refine ⟨w.heap.size, 0, _, _, _, rfl, Nat.le_refl _, heap_new w.drew _, ?_, rfl, rfl, rfl, ?_⟩
  · simp only [Builtin.zeroCells, Value.cells, Array.size_append, Array.size_map, Array.size_range]
    generalize grownCap w (0 + 8) 0 (Try.growI_ren.t 25) = G at *
    simp
    omega
  · have := Keep.alloc w.drew (.cells (#[] ++ Builtin.zeroCells (Value.slice none 0 0).cells (0 + 8 - 0) ++ Builtin.zeroCells (Value.slice none 0 0).cells (grownCap w (0 + 8) 0 (Try.growI_ren.t 25) - (0 + 8))) (Try.growI_ren.t 25)) (fun b o => ¬ False)
    exact ⟨this.size, this.cells, this.rest⟩
end Go.Proofs.YtmedelmfkciblaaT

/- Rows of things; EntList. -/
namespace Go.Proofs.YtmedelmfkciblaaT
set_option linter.unusedVariables false
set_option linter.unusedSimpArgs false
open Go

/- laws.eqEntS -/
def c54 : TCode := (.seq (.ops [⟨(some 4), 6, .mv (.c (.b false)), none, []⟩])
  (.seq (.seq (.ops [⟨(some 6), 8, .mv (.t 0), none, []⟩, ⟨(some 7), 9, .len false (.t 6), none, []⟩, ⟨(some 8), 10, .mv (.t 1), none, []⟩, ⟨(some 9), 11, .len false (.t 8), none, []⟩, ⟨(some 10), 12, .bin .neq (.t 7) (.t 9), none, []⟩])
  (.cond (.t 10)
  (.seq (.ops [⟨(some 4), 6, .mv (.c (.b false)), none, []⟩])
  .ret)
  .skip))
  (.seq (.seq (.ops [⟨(some 5), 7, .mv (.c (.i .i64 0)), none, []⟩])
  (.block 0 (.loop (.seq (.seq (.ops [⟨(some 11), 13, .mv (.t 5), none, []⟩, ⟨(some 12), 14, .mv (.t 0), none, []⟩, ⟨(some 13), 15, .len false (.t 12), none, []⟩, ⟨(some 14), 16, .bin .lss (.t 11) (.t 13), none, []⟩])
  (.cond (.t 14)
  .skip
  (.exit 0)))
  (.seq (.block 1 (.seq (.draw [⟨(some 17), 19, .mv (.t 0), none, []⟩, ⟨(some 18), 20, .mv (.t 5), none, []⟩, ⟨(some 19), 21, .iaddr 2 (.t 17) (.t 18), none, []⟩, ⟨(some 20), 22, .load true 2 (.t 19), none, []⟩, ⟨(some 21), 23, .mv (.t 1), none, []⟩, ⟨(some 22), 24, .mv (.t 5), none, []⟩, ⟨(some 23), 25, .iaddr 2 (.t 21) (.t 22), none, []⟩, ⟨(some 24), 26, .load true 2 (.t 23), none, []⟩, ⟨(some 25), 27, .call 94 [((.t 20), 0), ((.t 24), 0)], none, []⟩, ⟨(some 26), 28, .un .not (.t 25), none, []⟩])
  (.cond (.t 26)
  (.seq (.ops [⟨(some 4), 6, .mv (.c (.b false)), none, []⟩])
  .ret)
  .skip)))
  (.ops [⟨(some 15), 17, .mv (.t 5), none, []⟩, ⟨(some 16), 18, .bin .add (.t 15) (.c (.i .i64 1)), none, []⟩, ⟨(some 5), 7, .mv (.t 16), none, []⟩]))))))
  (.seq (.ops [⟨(some 4), 6, .mv (.c (.b true)), none, []⟩])
  .ret))))
theorem k54 : compCode Try.prog Try.f54.ntmps Try.f54.body.get! = some c54 := by kernel_rfl
theorem r54 : resTmps Try.prog Try.f54.results.toList = some [.tmp 4] := by kernel_rfl
/- laws.markEntS -/
def c57 : TCode := (.seq (.ops [⟨(some 4), 6, .mv (.c (.i .i64 0)), none, []⟩])
  (.seq (.seq (.ops [⟨(some 5), 7, .mv (.c (.i .i64 0)), none, []⟩])
  (.block 0 (.loop (.seq (.seq (.ops [⟨(some 6), 8, .mv (.t 5), none, []⟩, ⟨(some 7), 9, .mv (.t 0), none, []⟩, ⟨(some 8), 10, .len false (.t 7), none, []⟩, ⟨(some 9), 11, .bin .lss (.t 6) (.t 8), none, []⟩])
  (.cond (.t 9)
  .skip
  (.exit 0)))
  (.seq (.block 1 (.seq (.ops [⟨(some 12), 14, .mv (.t 0), none, []⟩, ⟨(some 13), 15, .mv (.t 5), none, []⟩, ⟨(some 14), 16, .mv (.t 1), none, []⟩, ⟨(some 15), 17, .iaddr 2 (.t 12) (.t 13), none, []⟩, ⟨(some 16), 18, .faddr 0 1 (.t 15), none, []⟩, ⟨none, 1004005, .store 1 (.t 16) (.t 14), none, []⟩])
  (.seq (.ops [⟨(some 17), 19, .mv (.t 1), none, []⟩, ⟨(some 18), 20, .bin .add (.t 17) (.c (.i .i64 1)), none, []⟩, ⟨(some 1), 3, .mv (.t 18), none, []⟩])
  (.seq (.ops [⟨(some 19), 21, .mv (.t 0), none, []⟩, ⟨(some 20), 22, .mv (.t 5), none, []⟩, ⟨(some 21), 23, .mv (.t 1), none, []⟩, ⟨(some 22), 24, .iaddr 2 (.t 19) (.t 20), none, []⟩, ⟨(some 23), 25, .faddr 1 1 (.t 22), none, []⟩, ⟨none, 1006005, .store 1 (.t 23) (.t 21), none, []⟩])
  (.ops [⟨(some 24), 26, .mv (.t 1), none, []⟩, ⟨(some 25), 27, .bin .add (.t 24) (.c (.i .i64 1)), none, []⟩, ⟨(some 1), 3, .mv (.t 25), none, []⟩])))))
  (.ops [⟨(some 10), 12, .mv (.t 5), none, []⟩, ⟨(some 11), 13, .bin .add (.t 10) (.c (.i .i64 1)), none, []⟩, ⟨(some 5), 7, .mv (.t 11), none, []⟩]))))))
  (.seq (.ops [⟨(some 26), 28, .mv (.t 1), none, []⟩, ⟨(some 4), 6, .mv (.t 26), none, []⟩])
  .ret)))
theorem k57 : compCode Try.prog Try.f57.ntmps Try.f57.body.get! = some c57 := by kernel_rfl
theorem r57 : resTmps Try.prog Try.f57.results.toList = some [.tmp 4] := by kernel_rfl
/- laws.heldEntS -/
def c58 : TCode := (.seq (.ops [⟨(some 4), 6, .mv (.c (.i .i64 0)), none, []⟩])
  (.seq (.seq (.ops [⟨(some 5), 7, .mv (.c (.i .i64 0)), none, []⟩])
  (.block 0 (.loop (.seq (.seq (.ops [⟨(some 6), 8, .mv (.t 5), none, []⟩, ⟨(some 7), 9, .mv (.t 0), none, []⟩, ⟨(some 8), 10, .len false (.t 7), none, []⟩, ⟨(some 9), 11, .bin .lss (.t 6) (.t 8), none, []⟩])
  (.cond (.t 9)
  .skip
  (.exit 0)))
  (.seq (.block 1 (.seq (.seq (.ops [⟨(some 12), 14, .mv (.t 0), none, []⟩, ⟨(some 13), 15, .mv (.t 5), none, []⟩, ⟨(some 14), 16, .iaddr 2 (.t 12) (.t 13), none, []⟩, ⟨(some 15), 17, .faddr 0 1 (.t 14), none, []⟩, ⟨(some 16), 18, .load false 1 (.t 15), none, []⟩, ⟨(some 17), 19, .mv (.t 1), none, []⟩, ⟨(some 18), 20, .bin .neq (.t 16) (.t 17), none, []⟩])
  (.cond (.t 18)
  (.seq (.ops [⟨(some 4), 6, .mv (.c (.i .i64 (-1))), none, []⟩])
  .ret)
  .skip))
  (.seq (.ops [⟨(some 19), 21, .mv (.t 1), none, []⟩, ⟨(some 20), 22, .bin .add (.t 19) (.c (.i .i64 1)), none, []⟩, ⟨(some 1), 3, .mv (.t 20), none, []⟩])
  (.seq (.seq (.ops [⟨(some 21), 23, .mv (.t 0), none, []⟩, ⟨(some 22), 24, .mv (.t 5), none, []⟩, ⟨(some 23), 25, .iaddr 2 (.t 21) (.t 22), none, []⟩, ⟨(some 24), 26, .faddr 1 1 (.t 23), none, []⟩, ⟨(some 25), 27, .load false 1 (.t 24), none, []⟩, ⟨(some 26), 28, .mv (.t 1), none, []⟩, ⟨(some 27), 29, .bin .neq (.t 25) (.t 26), none, []⟩])
  (.cond (.t 27)
  (.seq (.ops [⟨(some 4), 6, .mv (.c (.i .i64 (-1))), none, []⟩])
  .ret)
  .skip))
  (.ops [⟨(some 28), 30, .mv (.t 1), none, []⟩, ⟨(some 29), 31, .bin .add (.t 28) (.c (.i .i64 1)), none, []⟩, ⟨(some 1), 3, .mv (.t 29), none, []⟩])))))
  (.ops [⟨(some 10), 12, .mv (.t 5), none, []⟩, ⟨(some 11), 13, .bin .add (.t 10) (.c (.i .i64 1)), none, []⟩, ⟨(some 5), 7, .mv (.t 11), none, []⟩]))))))
  (.seq (.ops [⟨(some 30), 32, .mv (.t 1), none, []⟩, ⟨(some 4), 6, .mv (.t 30), none, []⟩])
  .ret)))
theorem k58 : compCode Try.prog Try.f58.ntmps Try.f58.body.get! = some c58 := by kernel_rfl
theorem r58 : resTmps Try.prog Try.f58.results.toList = some [.tmp 4] := by kernel_rfl
/- spec.EntList -/
def c218 : TCode := (.seq (.ops [⟨(some 1), 3, .box 2 (.t 0), none, []⟩, ⟨(some 2), 4, .mv (.c (.sl true 2 [])), none, []⟩])
  (.seq (.ops [⟨(some 7), 9, .bslice 2 0 [(.i .i64 0), (.i .i64 0)] [], none, []⟩, ⟨(some 3), 5, .mv (.t 7), none, []⟩])
  (.seq (.seq (.ops [⟨(some 8), 10, .load true 2 (.t 1), none, []⟩, ⟨(some 9), 11, .call 234 [((.t 8), 0)], none, []⟩, ⟨(some 10), 12, .un .not (.t 9), none, []⟩])
  (.cond (.t 10)
  (.seq (.ops [⟨(some 11), 13, .mv (.t 3), none, []⟩, ⟨(some 2), 4, .mv (.t 11), none, []⟩])
  .ret)
  .skip))
  (.seq (.ops [⟨(some 12), 14, .faddr 0 1 (.t 1), none, []⟩, ⟨(some 13), 15, .load false 1 (.t 12), none, []⟩, ⟨(some 14), 16, .len false (.t 13), none, []⟩, ⟨(some 15), 17, .mkslice 1 1 [(.b false)] (.t 14) (.t 14), none, []⟩, ⟨(some 4), 6, .mv (.t 15), none, []⟩])
  (.seq (.seq (.ops [⟨(some 5), 7, .mv (.c (.i .i64 0)), none, []⟩])
  (.block 0 (.loop (.seq (.seq (.ops [⟨(some 16), 18, .mv (.t 5), none, []⟩, ⟨(some 17), 19, .faddr 1 1 (.t 1), none, []⟩, ⟨(some 18), 20, .load false 1 (.t 17), none, []⟩, ⟨(some 19), 21, .len false (.t 18), none, []⟩, ⟨(some 20), 22, .bin .lss (.t 16) (.t 19), none, []⟩])
  (.cond (.t 20)
  .skip
  (.exit 0)))
  (.seq (.block 1 (.ops [⟨(some 23), 25, .mv (.t 4), none, []⟩, ⟨(some 24), 26, .faddr 1 1 (.t 1), none, []⟩, ⟨(some 25), 27, .load false 1 (.t 24), none, []⟩, ⟨(some 26), 28, .mv (.t 5), none, []⟩, ⟨(some 27), 29, .iaddr 1 (.t 25) (.t 26), none, []⟩, ⟨(some 28), 30, .load false 1 (.t 27), none, []⟩, ⟨(some 29), 31, .iaddr 1 (.t 23) (.t 28), none, []⟩, ⟨none, 1008007, .store 1 (.t 29) (.c (.b true)), none, []⟩]))
  (.ops [⟨(some 21), 23, .mv (.t 5), none, []⟩, ⟨(some 22), 24, .bin .add (.t 21) (.c (.i .i64 1)), none, []⟩, ⟨(some 5), 7, .mv (.t 22), none, []⟩]))))))
  (.seq (.seq (.ops [⟨(some 6), 8, .mv (.c (.i .i64 0)), none, []⟩])
  (.block 2 (.loop (.seq (.seq (.ops [⟨(some 30), 32, .mv (.t 6), none, []⟩, ⟨(some 31), 33, .faddr 0 1 (.t 1), none, []⟩, ⟨(some 32), 34, .load false 1 (.t 31), none, []⟩, ⟨(some 33), 35, .len false (.t 32), none, []⟩, ⟨(some 34), 36, .bin .lss (.t 30) (.t 33), none, []⟩])
  (.cond (.t 34)
  .skip
  (.exit 2)))
  (.seq (.block 3 (.seq (.ops [⟨(some 37), 39, .mv (.t 4), none, []⟩, ⟨(some 38), 40, .mv (.t 6), none, []⟩, ⟨(some 39), 41, .iaddr 1 (.t 37) (.t 38), none, []⟩, ⟨(some 40), 42, .load false 1 (.t 39), none, []⟩, ⟨(some 41), 43, .un .not (.t 40), none, []⟩])
  (.cond (.t 41)
  (.ops [⟨(some 42), 44, .mv (.t 3), none, []⟩, ⟨(some 43), 45, .mv (.t 6), none, []⟩, ⟨(some 44), 46, .faddr 0 1 (.t 1), none, []⟩, ⟨(some 45), 47, .load false 1 (.t 44), none, []⟩, ⟨(some 46), 48, .mv (.t 6), none, []⟩, ⟨(some 47), 49, .iaddr 1 (.t 45) (.t 46), none, []⟩, ⟨(some 48), 50, .load false 1 (.t 47), none, []⟩, ⟨(some 49), 51, .build [(.i .i64 0), (.i .i64 0)] [(0, 1, (.t 43)), (1, 1, (.t 48))], none, []⟩, ⟨(some 50), 52, .bslice 2 1 [(.i .i64 0), (.i .i64 0)] [(0, (.t 49))], none, []⟩, ⟨(some 51), 53, .app 2 16 (.t 42) (.t 50), none, []⟩, ⟨(some 3), 5, .mv (.t 51), none, []⟩])
  .skip)))
  (.ops [⟨(some 35), 37, .mv (.t 6), none, []⟩, ⟨(some 36), 38, .bin .add (.t 35) (.c (.i .i64 1)), none, []⟩, ⟨(some 6), 8, .mv (.t 36), none, []⟩]))))))
  (.seq (.ops [⟨(some 52), 54, .mv (.t 3), none, []⟩, ⟨(some 2), 4, .mv (.t 52), none, []⟩])
  .ret)))))))
theorem k218 : compCode Try.prog Try.f218.ntmps Try.f218.body.get! = some c218 := by kernel_rfl
theorem r218 : resTmps Try.prog Try.f218.results.toList = some [.tmp 2] := by kernel_rfl

@[simp] def eT (p : Int × Int) : List TV := [.i .i64 p.1, .i .i64 p.2]
@[simp] theorem fzL_eT (p : Int × Int) : fzL (eT p) = eT p := rfl
@[simp] theorem fzLL_eT (l : List (Int × Int)) : fzLL (l.map eT) = l.map eT := fzLL_map fzL_eT l
@[simp] theorem noROLL_eT (l : List (Int × Int)) : noROLL (l.map eT) = true := noROLL_map (fun _ => rfl) l
@[simp] theorem noref_eT (l : List (Int × Int)) : (l.map eT).all (·.all noref) = true := noref_map (fun _ => rfl) l
@[simp] theorem srcT_eT (H : Hp) (z : Nat) (l : List (Int × Int)) : srcT H (.sl false z (l.map eT)) = some (z, l.map eT, H, []) := by simp only [srcT, noref_eT, if_true]

theorem w54 (a b : List (Int × Int)) (ha : a.length ≤ 2^40) (hb : b.length ≤ 2^40) : Contract Try.prog false 54 [.ro, .ro] [.sl false 2 (a.map eT), .sl false 2 (b.map eT)] [.b (decide (a = b))] [] := by
  refine mk_contract [] Try.func54 (c := Try.f54.body.get!) (by kernel_rfl) k54 r54 (of_decide_eq_true rfl) fun _ => ?_
  unfold c54; simp
  refine ⟨fun h => ?_, fun h => ?_⟩
  · refine twp_for a.length (fun j s => s.t 0 = .sl false 2 (a.map eT) ∧ s.t 1 = .sl false 2 (b.map eT) ∧ s.t 5 = .i .i64 j ∧ a.take j = b.take j ∧ s.H = lk [(1, [])]) [] (by simp) ?_ ?_
    · simp
    · rintro j s hj ⟨q0, q1, q5, hab, qH⟩
      rw [nf_of qH]
      simp [q0, q1, q5]
      refine ⟨fun hlt => ?_, fun hge => ?_⟩
      · have hw : IntKind.i64.wrap (j + 1) = j + 1 := wrap_id (by omega) (by omega)
        obtain ⟨x, hx⟩ := get_some hlt
        obtain ⟨y, hy⟩ := get_some (l := b) (j := j) (by omega)
        simp [hx, hy, hw, q0, q1, q5]
        by_cases hxy : x = y
        · refine callW_ms [.ro, .ro] ?_
          simp [entT]
          refine callX_of ((w94 x.1 x.2 y.1 y.2).t ⟨by rw [hxy], by rw [hxy]⟩) (by simp) ?_
          simp [hw, q0, q1, q5]
          exact ⟨hlt, by rw [take_snoc hx, take_snoc hy, hab, hxy]⟩
        · refine callW_ms [.ro, .ro] ?_
          simp [entT]
          refine callX_of ((w94 x.1 x.2 y.1 y.2).f (fun h => hxy (Prod.ext h.1 h.2))) (by simp) ?_
          simp [hw, q0, q1, q5]
          intro hab2; subst hab2; rw [hx] at hy; cases hy; exact absurd rfl hxy
      · obtain rfl : j = a.length := by omega
        rw [List.take_of_length_le (Nat.le_refl _), List.take_of_length_le (by omega)] at hab
        exact hab
  · rintro rfl; exact h rfl
theorem w57 (l : List (Int × Int)) (k : Int) (hl : l.length ≤ 2^38) (hk : 0 ≤ k) (hk2 : k ≤ 2^40) : Contract Try.prog false 57 [.own, .ro] [.sl true 2 (l.map eT), .i .i64 k] [.i .i64 (k + 2 * l.length)] [some (.sl true 2 ((mkL 2 (fun k => (k, k + 1)) k l.length).map eT))] := by
  refine mk_contract [some [(1, 0)]] Try.func57 (c := Try.f57.body.get!) (by kernel_rfl) k57 r57 (of_decide_eq_true rfl) fun _ => ?_
  unfold c57; simp
  refine twp_for l.length (fun j s => s.t 0 = .rf [(1, 0)] 0 l.length ∧ s.t 1 = .i .i64 (k + 2 * j) ∧ s.t 5 = .i .i64 j ∧ s.H = lk [(1, [.sl true 2 ((mkL 2 (fun k => (k, k + 1)) k j).map eT ++ (l.map eT).drop j)])]) [] (by simp) ?_ ?_
  · simp
  · rintro j s hj ⟨q0, q1, q5, qH⟩
    rw [nf_of qH]
    simp [q0, q1, q5]
    refine ⟨fun hlt => ?_, fun hge => ?_⟩
    · have hw : IntKind.i64.wrap (j + 1) = j + 1 := wrap_id (by omega) (by omega)
      obtain ⟨x, hx⟩ := get_some hlt
      have hw1 : IntKind.i64.wrap (k + 2 * j + 1) = k + 2 * j + 1 := wrap_id (by omega) (by omega)
      have hw2 : IntKind.i64.wrap (k + 2 * j + 1 + 1) = k + 2 * j + 1 + 1 := wrap_id (by omega) (by omega)
      simp [hw, hw1, hw2, q0, q1, q5, drop_at hx]
      omega
    · obtain rfl : j = l.length := by omega
      simp [q0, q1, q5]
theorem w58 (n : Nat) (k : Int) (hl : n ≤ 2^38) (hk : 0 ≤ k) (hk2 : k ≤ 2^40) : Contract Try.prog false 58 [.ro, .ro] [.sl false 2 ((mkL 2 (fun k => (k, k + 1)) k n).map eT), .i .i64 k] [.i .i64 (k + 2 * n)] [] := by
  refine mk_contract [] Try.func58 (c := Try.f58.body.get!) (by kernel_rfl) k58 r58 (of_decide_eq_true rfl) fun _ => ?_
  unfold c58; simp
  refine twp_for n (fun j s => s.t 0 = .sl false 2 ((mkL 2 (fun k => (k, k + 1)) k n).map eT) ∧ s.t 1 = .i .i64 (k + 2 * j) ∧ s.t 5 = .i .i64 j ∧ s.H = lk [(1, [])]) [] (by simp) ?_ ?_
  · simp
  · rintro j s hj ⟨q0, q1, q5, qH⟩
    rw [nf_of qH]
    simp [q0, q1, q5]
    refine ⟨fun hlt => ?_, fun hge => ?_⟩
    · have hw : IntKind.i64.wrap (j + 1) = j + 1 := wrap_id (by omega) (by omega)
      have hx := mkL_get 2 (fun k => (k, k + 1)) k hlt
      have hw1 : IntKind.i64.wrap (k + 2 * j + 1) = k + 2 * j + 1 := wrap_id (by omega) (by omega)
      have hw2 : IntKind.i64.wrap (k + 2 * j + 1 + 1) = k + 2 * j + 1 + 1 := wrap_id (by omega) (by omega)
      simp [hx, hw, hw1, hw2, q0, q1, q5]
      omega
    · obtain rfl : j = n := by omega
      simp [q0, q1, q5]

/-- The places that are not free, with their gens. -/
def liveG (g f : List Int) : Nat → List (Int × Int)
  | 0 => []
  | n + 1 => liveG g f n ++ (if (n : Int) ∈ f then [] else [((n : Int), (g[n]?).getD 0)])
theorem liveG_len (g f : List Int) (n : Nat) : (liveG g f n).length ≤ n := by
  induction n with
  | zero => simp [liveG]
  | succ n ih => simp only [liveG, List.length_append]; split <;> simp <;> omega
def entListF (g f : List Int) : List (Int × Int) := if EntsOkP g f then liveG g f g.length else []
theorem entListF_len (g f : List Int) : (entListF g f).length ≤ g.length := by
  unfold entListF; split
  · exact liveG_len ..
  · simp
theorem w218 (g f : List Int) (hg : g.length ≤ 2^40) (hf : f.length ≤ 2^40) : Contract Try.prog false 218 [.ro] [entsR g f] [.sl true 2 ((entListF g f).map eT)] [] := by
  refine mk_contract [] Try.func218 (c := Try.f218.body.get!) (by kernel_rfl) k218 r218 (of_decide_eq_true rfl) fun _ => ?_
  unfold c218; unfold entsR; simp
  refine callW_ms [.ro] ?_
  simp
  refine callX_of (w234 g f hg hf) (by simp) ?_
  simp
  refine ⟨fun hE => ?_, fun hE => ?_⟩
  · refine ⟨by omega, ?_⟩
    refine twp_for f.length (fun j s => s.t 1 = .pt [(3, 0)] 0 0 ∧ s.t 3 = .rf [(9, 0)] 0 0 ∧ s.t 4 = .rf [(17, 0)] 0 g.length ∧ s.t 5 = .i .i64 j ∧ s.H = lk [(1, []), (3, [.po true [.sl false 1 (g.map iT), .sl false 1 (f.map iT)]]), (9, [.sl true 2 []]), (17, [.sl true 1 ((freeL g.length (f.take j)).map bT)])]) [] (by simp) ?_ ?_
    · simp
    · rintro j s hj ⟨q1, q3, q4, q5, qH⟩
      rw [nf_of qH]
      simp [q1, q3, q4, q5]
      refine ⟨fun hlt => ?_, fun hge => ?_⟩
      · have hw : IntKind.i64.wrap (j + 1) = j + 1 := wrap_id (by omega) (by omega)
        obtain ⟨x, hx⟩ := get_some hlt
        have hb := hE.2.1.1 x (List.mem_of_getElem? hx)
        have hgt := freeL_get (n := g.length) (f := f.take j) (x := x) hb.1 hb.2
        have hset : (List.map bT (freeL g.length (f.take j))).set x.toNat [.b true] = List.map bT (freeL g.length (f.take (j + 1))) := by
          rw [take_snoc hx, ← freeL_set hb.1 hb.2]; simp
        simp [hx, hw, q1, q3, q4, q5, hb.1, hb.2, hgt, hset]
        omega
      · obtain rfl : j = f.length := by omega
        simp [q1, q3, q4, q5]
        refine twp_forR g.length (fun j s => s.t 1 = .pt [(3, 0)] 0 0 ∧ s.t 3 = .rf [(53, 0)] 0 (liveG g f j).length ∧ s.t 4 = .rf [(17, 0)] 0 g.length ∧ s.t 6 = .i .i64 j ∧ s.H = lk [(1, []), (3, [.po true [.sl false 1 (g.map iT), .sl false 1 (f.map iT)]]), (53, [.sl true 2 ((liveG g f j).map eT)]), (17, [.sl true 1 ((freeL g.length f).map bT)])]) [52] [(9, 53)] (by simp) (by simp) ?_ ?_
        · simp [q1, q3, q4, liveG]
        · rintro j s hj ⟨q1, q3, q4, q6, qH⟩
          rw [nf_of qH]
          simp [q1, q3, q4, q6]
          refine ⟨fun hlt => ?_, fun hge => ?_⟩
          · have hw : IntKind.i64.wrap (j + 1) = j + 1 := wrap_id (by omega) (by omega)
            obtain ⟨x, hx⟩ := get_some hlt
            have hgt := freeL_get (n := g.length) (f := f) (x := j) (by omega) (by omega)
            simp at hgt
            have hll := liveG_len g f j
            simp [hx, hw, q1, q3, q4, q6, hgt]
            refine ⟨hlt, fun h => ?_, fun h => ?_⟩
            · simp [liveG, h, hlt]
            · refine ⟨by omega, hlt, ?_⟩; simp [liveG, h, hx]
          · obtain rfl : j = g.length := by omega
            simp [q1, q3, q4, q6, entListF, hE]
  · simp [entListF, hE]
end Go.Proofs.YtmedelmfkciblaaT

/- Names and declarations. -/
namespace Go.Proofs.YtmedelmfkciblaaT
set_option linter.unusedVariables false
set_option linter.unusedSimpArgs false
open Go

/- spec.l3Letter -/
def c185 : TCode := (.seq (.ops [⟨(some 2), 4, .mv (.c (.b false)), none, []⟩])
  (.seq (.ops [⟨(some 3), 5, .mv (.t 0), none, []⟩, ⟨(some 4), 6, .bin .geq (.t 3) (.c (.i .u8 97)), none, []⟩, ⟨(some 5), 7, .mv (.t 4), none, []⟩, ⟨(some 6), 8, .mv (.t 0), (some (5, true)), []⟩, ⟨(some 7), 9, .bin .leq (.t 6) (.c (.i .u8 122)), (some (5, true)), []⟩, ⟨(some 8), 10, .pick (.t 5) (.t 7) (.c (.b false)), none, []⟩, ⟨(some 9), 11, .mv (.t 8), none, []⟩, ⟨(some 10), 12, .mv (.t 0), (some (9, false)), []⟩, ⟨(some 11), 13, .bin .geq (.t 10) (.c (.i .u8 65)), (some (9, false)), []⟩, ⟨(some 12), 14, .mv (.t 11), (some (9, false)), []⟩, ⟨(some 13), 15, .mv (.t 0), (some (12, true)), []⟩, ⟨(some 14), 16, .bin .leq (.t 13) (.c (.i .u8 90)), (some (12, true)), []⟩, ⟨(some 15), 17, .pick (.t 12) (.t 14) (.c (.b false)), (some (9, false)), []⟩, ⟨(some 16), 18, .pick (.t 9) (.c (.b true)) (.t 15), none, []⟩, ⟨(some 2), 4, .mv (.t 16), none, []⟩])
  .ret))
theorem k185 : compCode Try.prog Try.f185.ntmps Try.f185.body.get! = some c185 := by kernel_rfl
theorem r185 : resTmps Try.prog Try.f185.results.toList = some [.tmp 2] := by kernel_rfl
/- impl.isLetter -/
def c188 : TCode := (.seq (.ops [⟨(some 2), 4, .mv (.c (.b false)), none, []⟩])
  (.seq (.ops [⟨(some 3), 5, .mv (.t 0), none, []⟩, ⟨(some 4), 6, .bin .geq (.t 3) (.c (.i .u8 97)), none, []⟩, ⟨(some 5), 7, .mv (.t 4), none, []⟩, ⟨(some 6), 8, .mv (.t 0), (some (5, true)), []⟩, ⟨(some 7), 9, .bin .leq (.t 6) (.c (.i .u8 122)), (some (5, true)), []⟩, ⟨(some 8), 10, .pick (.t 5) (.t 7) (.c (.b false)), none, []⟩, ⟨(some 9), 11, .mv (.t 8), none, []⟩, ⟨(some 10), 12, .mv (.t 0), (some (9, false)), []⟩, ⟨(some 11), 13, .bin .geq (.t 10) (.c (.i .u8 65)), (some (9, false)), []⟩, ⟨(some 12), 14, .mv (.t 11), (some (9, false)), []⟩, ⟨(some 13), 15, .mv (.t 0), (some (12, true)), []⟩, ⟨(some 14), 16, .bin .leq (.t 13) (.c (.i .u8 90)), (some (12, true)), []⟩, ⟨(some 15), 17, .pick (.t 12) (.t 14) (.c (.b false)), (some (9, false)), []⟩, ⟨(some 16), 18, .pick (.t 9) (.c (.b true)) (.t 15), none, []⟩, ⟨(some 2), 4, .mv (.t 16), none, []⟩])
  .ret))
theorem k188 : compCode Try.prog Try.f188.ntmps Try.f188.body.get! = some c188 := by kernel_rfl
theorem r188 : resTmps Try.prog Try.f188.results.toList = some [.tmp 2] := by kernel_rfl
/- spec.l3Words -/
def c222 : TCode := (.seq (.ops [⟨(some 0), 2, .mv (.c (.sl true 1 [])), none, []⟩])
  (.seq (.ops [⟨(some 1), 3, .bslice 1 32 [(.s ⟨#[]⟩)] [(0, (.c (.s ⟨#[115, 121, 115, 116, 101, 109]⟩))), (1, (.c (.s ⟨#[102, 110]⟩))), (2, (.c (.s ⟨#[108, 101, 116]⟩))), (3, (.c (.s ⟨#[105, 102]⟩))), (4, (.c (.s ⟨#[101, 108, 115, 101]⟩))), (5, (.c (.s ⟨#[108, 111, 111, 112]⟩))), (6, (.c (.s ⟨#[101, 97, 99, 104]⟩))), (7, (.c (.s ⟨#[119, 105, 116, 104]⟩))), (8, (.c (.s ⟨#[119, 105, 116, 104, 111, 117, 116]⟩))), (9, (.c (.s ⟨#[101, 109, 105, 116]⟩))), (10, (.c (.s ⟨#[104, 101, 97, 114]⟩))), (11, (.c (.s ⟨#[97, 115]⟩))), (12, (.c (.s ⟨#[115, 112, 97, 119, 110]⟩))), (13, (.c (.s ⟨#[107, 105, 108, 108]⟩))), (14, (.c (.s ⟨#[112, 117, 116]⟩))), (15, (.c (.s ⟨#[100, 114, 111, 112]⟩))), (16, (.c (.s ⟨#[100, 111]⟩))), (17, (.c (.s ⟨#[114, 101, 116, 117, 114, 110]⟩))), (18, (.c (.s ⟨#[112, 105, 99, 107]⟩))), (19, (.c (.s ⟨#[111, 102]⟩))), (20, (.c (.s ⟨#[121, 101, 115]⟩))), (21, (.c (.s ⟨#[110, 111]⟩))), (22, (.c (.s ⟨#[97, 110, 100]⟩))), (23, (.c (.s ⟨#[111, 114]⟩))), (24, (.c (.s ⟨#[110, 111, 116]⟩))), (25, (.c (.s ⟨#[105, 110, 116]⟩))), (26, (.c (.s ⟨#[114, 101, 97, 108]⟩))), (27, (.c (.s ⟨#[112, 97, 105, 114]⟩))), (28, (.c (.s ⟨#[98, 111, 111, 108]⟩))), (29, (.c (.s ⟨#[114, 101]⟩))), (30, (.c (.s ⟨#[105, 109]⟩))), (31, (.c (.s ⟨#[115, 105, 122, 101]⟩)))], none, []⟩, ⟨(some 0), 2, .mv (.t 1), none, []⟩])
  .ret))
theorem k222 : compCode Try.prog Try.f222.ntmps Try.f222.body.get! = some c222 := by kernel_rfl
theorem r222 : resTmps Try.prog Try.f222.results.toList = some [.tmp 0] := by kernel_rfl
/- spec.IsWord -/
def c186 : TCode := (.seq (.ops [⟨(some 2), 4, .mv (.c (.b false)), none, []⟩])
  (.seq (.ops [⟨(some 5), 7, .call 222 [], none, []⟩, ⟨(some 3), 5, .mv (.t 5), none, []⟩])
  (.seq (.seq (.ops [⟨(some 4), 6, .mv (.c (.i .i64 0)), none, []⟩])
  (.block 0 (.loop (.seq (.seq (.ops [⟨(some 6), 8, .mv (.t 4), none, []⟩, ⟨(some 7), 9, .mv (.t 3), none, []⟩, ⟨(some 8), 10, .len false (.t 7), none, []⟩, ⟨(some 9), 11, .bin .lss (.t 6) (.t 8), none, []⟩])
  (.cond (.t 9)
  .skip
  (.exit 0)))
  (.seq (.block 1 (.seq (.ops [⟨(some 12), 14, .mv (.t 3), none, []⟩, ⟨(some 13), 15, .mv (.t 4), none, []⟩, ⟨(some 14), 16, .iaddr 1 (.t 12) (.t 13), none, []⟩, ⟨(some 15), 17, .load false 1 (.t 14), none, []⟩, ⟨(some 16), 18, .mv (.t 0), none, []⟩, ⟨(some 17), 19, .bin .eql (.t 15) (.t 16), none, []⟩])
  (.cond (.t 17)
  (.seq (.ops [⟨(some 2), 4, .mv (.c (.b true)), none, []⟩])
  .ret)
  .skip)))
  (.ops [⟨(some 10), 12, .mv (.t 4), none, []⟩, ⟨(some 11), 13, .bin .add (.t 10) (.c (.i .i64 1)), none, []⟩, ⟨(some 4), 6, .mv (.t 11), none, []⟩]))))))
  (.seq (.ops [⟨(some 2), 4, .mv (.c (.b false)), none, []⟩])
  .ret))))
theorem k186 : compCode Try.prog Try.f186.ntmps Try.f186.body.get! = some c186 := by kernel_rfl
theorem r186 : resTmps Try.prog Try.f186.results.toList = some [.tmp 2] := by kernel_rfl
/- impl.IsWord -/
def c189 : TCode := (.seq (.ops [⟨(some 2), 4, .mv (.c (.b false)), none, []⟩])
  (.seq (.seq (.ops [⟨(some 3), 5, .mv (.t 0), none, []⟩])
  (.block 0 (.seq (.seq (.ops [⟨(some 5), 7, .bin .eql (.t 3) (.c (.s ⟨#[115, 121, 115, 116, 101, 109]⟩)), none, []⟩, ⟨(some 4), 6, .mv (.t 5), none, []⟩])
  (.cond (.t 4)
  .skip
  (.seq (.ops [⟨(some 6), 8, .bin .eql (.t 3) (.c (.s ⟨#[102, 110]⟩)), none, []⟩, ⟨(some 4), 6, .mv (.t 6), none, []⟩])
  (.cond (.t 4)
  .skip
  (.seq (.ops [⟨(some 7), 9, .bin .eql (.t 3) (.c (.s ⟨#[108, 101, 116]⟩)), none, []⟩, ⟨(some 4), 6, .mv (.t 7), none, []⟩])
  (.cond (.t 4)
  .skip
  (.seq (.ops [⟨(some 8), 10, .bin .eql (.t 3) (.c (.s ⟨#[105, 102]⟩)), none, []⟩, ⟨(some 4), 6, .mv (.t 8), none, []⟩])
  (.cond (.t 4)
  .skip
  (.seq (.ops [⟨(some 9), 11, .bin .eql (.t 3) (.c (.s ⟨#[101, 108, 115, 101]⟩)), none, []⟩, ⟨(some 4), 6, .mv (.t 9), none, []⟩])
  (.cond (.t 4)
  .skip
  (.seq (.ops [⟨(some 10), 12, .bin .eql (.t 3) (.c (.s ⟨#[108, 111, 111, 112]⟩)), none, []⟩, ⟨(some 4), 6, .mv (.t 10), none, []⟩])
  (.cond (.t 4)
  .skip
  (.seq (.ops [⟨(some 11), 13, .bin .eql (.t 3) (.c (.s ⟨#[101, 97, 99, 104]⟩)), none, []⟩, ⟨(some 4), 6, .mv (.t 11), none, []⟩])
  (.cond (.t 4)
  .skip
  (.seq (.ops [⟨(some 12), 14, .bin .eql (.t 3) (.c (.s ⟨#[119, 105, 116, 104]⟩)), none, []⟩, ⟨(some 4), 6, .mv (.t 12), none, []⟩])
  (.cond (.t 4)
  .skip
  (.seq (.ops [⟨(some 13), 15, .bin .eql (.t 3) (.c (.s ⟨#[119, 105, 116, 104, 111, 117, 116]⟩)), none, []⟩, ⟨(some 4), 6, .mv (.t 13), none, []⟩])
  (.cond (.t 4)
  .skip
  (.seq (.ops [⟨(some 14), 16, .bin .eql (.t 3) (.c (.s ⟨#[101, 109, 105, 116]⟩)), none, []⟩, ⟨(some 4), 6, .mv (.t 14), none, []⟩])
  (.cond (.t 4)
  .skip
  (.seq (.ops [⟨(some 15), 17, .bin .eql (.t 3) (.c (.s ⟨#[104, 101, 97, 114]⟩)), none, []⟩, ⟨(some 4), 6, .mv (.t 15), none, []⟩])
  (.cond (.t 4)
  .skip
  (.seq (.ops [⟨(some 16), 18, .bin .eql (.t 3) (.c (.s ⟨#[97, 115]⟩)), none, []⟩, ⟨(some 4), 6, .mv (.t 16), none, []⟩])
  (.cond (.t 4)
  .skip
  (.seq (.ops [⟨(some 17), 19, .bin .eql (.t 3) (.c (.s ⟨#[115, 112, 97, 119, 110]⟩)), none, []⟩, ⟨(some 4), 6, .mv (.t 17), none, []⟩])
  (.cond (.t 4)
  .skip
  (.seq (.ops [⟨(some 18), 20, .bin .eql (.t 3) (.c (.s ⟨#[107, 105, 108, 108]⟩)), none, []⟩, ⟨(some 4), 6, .mv (.t 18), none, []⟩])
  (.cond (.t 4)
  .skip
  (.seq (.ops [⟨(some 19), 21, .bin .eql (.t 3) (.c (.s ⟨#[112, 117, 116]⟩)), none, []⟩, ⟨(some 4), 6, .mv (.t 19), none, []⟩])
  (.cond (.t 4)
  .skip
  (.seq (.ops [⟨(some 20), 22, .bin .eql (.t 3) (.c (.s ⟨#[100, 114, 111, 112]⟩)), none, []⟩, ⟨(some 4), 6, .mv (.t 20), none, []⟩])
  (.cond (.t 4)
  .skip
  (.seq (.ops [⟨(some 21), 23, .bin .eql (.t 3) (.c (.s ⟨#[100, 111]⟩)), none, []⟩, ⟨(some 4), 6, .mv (.t 21), none, []⟩])
  (.cond (.t 4)
  .skip
  (.seq (.ops [⟨(some 22), 24, .bin .eql (.t 3) (.c (.s ⟨#[114, 101, 116, 117, 114, 110]⟩)), none, []⟩, ⟨(some 4), 6, .mv (.t 22), none, []⟩])
  (.cond (.t 4)
  .skip
  (.seq (.ops [⟨(some 23), 25, .bin .eql (.t 3) (.c (.s ⟨#[112, 105, 99, 107]⟩)), none, []⟩, ⟨(some 4), 6, .mv (.t 23), none, []⟩])
  (.cond (.t 4)
  .skip
  (.seq (.ops [⟨(some 24), 26, .bin .eql (.t 3) (.c (.s ⟨#[111, 102]⟩)), none, []⟩, ⟨(some 4), 6, .mv (.t 24), none, []⟩])
  (.cond (.t 4)
  .skip
  (.seq (.ops [⟨(some 25), 27, .bin .eql (.t 3) (.c (.s ⟨#[121, 101, 115]⟩)), none, []⟩, ⟨(some 4), 6, .mv (.t 25), none, []⟩])
  (.cond (.t 4)
  .skip
  (.seq (.ops [⟨(some 26), 28, .bin .eql (.t 3) (.c (.s ⟨#[110, 111]⟩)), none, []⟩, ⟨(some 4), 6, .mv (.t 26), none, []⟩])
  (.cond (.t 4)
  .skip
  (.seq (.ops [⟨(some 27), 29, .bin .eql (.t 3) (.c (.s ⟨#[97, 110, 100]⟩)), none, []⟩, ⟨(some 4), 6, .mv (.t 27), none, []⟩])
  (.cond (.t 4)
  .skip
  (.seq (.ops [⟨(some 28), 30, .bin .eql (.t 3) (.c (.s ⟨#[111, 114]⟩)), none, []⟩, ⟨(some 4), 6, .mv (.t 28), none, []⟩])
  (.cond (.t 4)
  .skip
  (.seq (.ops [⟨(some 29), 31, .bin .eql (.t 3) (.c (.s ⟨#[110, 111, 116]⟩)), none, []⟩, ⟨(some 4), 6, .mv (.t 29), none, []⟩])
  (.cond (.t 4)
  .skip
  (.seq (.ops [⟨(some 30), 32, .bin .eql (.t 3) (.c (.s ⟨#[105, 110, 116]⟩)), none, []⟩, ⟨(some 4), 6, .mv (.t 30), none, []⟩])
  (.cond (.t 4)
  .skip
  (.seq (.ops [⟨(some 31), 33, .bin .eql (.t 3) (.c (.s ⟨#[114, 101, 97, 108]⟩)), none, []⟩, ⟨(some 4), 6, .mv (.t 31), none, []⟩])
  (.cond (.t 4)
  .skip
  (.seq (.ops [⟨(some 32), 34, .bin .eql (.t 3) (.c (.s ⟨#[112, 97, 105, 114]⟩)), none, []⟩, ⟨(some 4), 6, .mv (.t 32), none, []⟩])
  (.cond (.t 4)
  .skip
  (.seq (.ops [⟨(some 33), 35, .bin .eql (.t 3) (.c (.s ⟨#[98, 111, 111, 108]⟩)), none, []⟩, ⟨(some 4), 6, .mv (.t 33), none, []⟩])
  (.cond (.t 4)
  .skip
  (.seq (.ops [⟨(some 34), 36, .bin .eql (.t 3) (.c (.s ⟨#[114, 101]⟩)), none, []⟩, ⟨(some 4), 6, .mv (.t 34), none, []⟩])
  (.cond (.t 4)
  .skip
  (.seq (.ops [⟨(some 35), 37, .bin .eql (.t 3) (.c (.s ⟨#[105, 109]⟩)), none, []⟩, ⟨(some 4), 6, .mv (.t 35), none, []⟩])
  (.cond (.t 4)
  .skip
  (.ops [⟨(some 36), 38, .bin .eql (.t 3) (.c (.s ⟨#[115, 105, 122, 101]⟩)), none, []⟩, ⟨(some 4), 6, .mv (.t 36), none, []⟩])))))))))))))))))))))))))))))))))))))))))))))))))))))))))))))))
  (.cond (.t 4)
  (.seq (.ops [⟨(some 2), 4, .mv (.c (.b true)), none, []⟩])
  .ret)
  .skip))))
  (.seq (.ops [⟨(some 2), 4, .mv (.c (.b false)), none, []⟩])
  .ret)))
theorem k189 : compCode Try.prog Try.f189.ntmps Try.f189.body.get! = some c189 := by kernel_rfl
theorem r189 : resTmps Try.prog Try.f189.results.toList = some [.tmp 2] := by kernel_rfl
/- spec.NameOk -/
def c145 : TCode := (.seq (.ops [⟨(some 2), 4, .mv (.c (.b false)), none, []⟩])
  (.seq (.seq (.ops [⟨(some 4), 6, .mv (.t 0), none, []⟩, ⟨(some 5), 7, .len true (.t 4), none, []⟩, ⟨(some 6), 8, .call 87 [((.t 5), 0), ((.c (.i .i64 1)), 0), ((.c (.i .i64 12)), 0)], none, []⟩, ⟨(some 7), 9, .un .not (.t 6), none, []⟩])
  (.cond (.t 7)
  (.seq (.ops [⟨(some 2), 4, .mv (.c (.b false)), none, []⟩])
  .ret)
  .skip))
  (.seq (.seq (.ops [⟨(some 3), 5, .mv (.c (.i .i64 0)), none, []⟩])
  (.block 0 (.loop (.seq (.seq (.ops [⟨(some 8), 10, .mv (.t 3), none, []⟩, ⟨(some 9), 11, .mv (.t 0), none, []⟩, ⟨(some 10), 12, .len true (.t 9), none, []⟩, ⟨(some 11), 13, .bin .lss (.t 8) (.t 10), none, []⟩])
  (.cond (.t 11)
  .skip
  (.exit 0)))
  (.seq (.block 1 (.seq (.ops [⟨(some 14), 16, .mv (.t 0), none, []⟩, ⟨(some 15), 17, .mv (.t 3), none, []⟩, ⟨(some 16), 18, .ix (.t 14) (.t 15), none, []⟩, ⟨(some 17), 19, .call 185 [((.t 16), 0)], none, []⟩, ⟨(some 18), 20, .un .not (.t 17), none, []⟩])
  (.cond (.t 18)
  (.seq (.ops [⟨(some 2), 4, .mv (.c (.b false)), none, []⟩])
  .ret)
  .skip)))
  (.ops [⟨(some 12), 14, .mv (.t 3), none, []⟩, ⟨(some 13), 15, .bin .add (.t 12) (.c (.i .i64 1)), none, []⟩, ⟨(some 3), 5, .mv (.t 13), none, []⟩]))))))
  (.seq (.ops [⟨(some 19), 21, .mv (.t 0), none, []⟩, ⟨(some 20), 22, .call 186 [((.t 19), 0)], none, []⟩, ⟨(some 21), 23, .un .not (.t 20), none, []⟩, ⟨(some 2), 4, .mv (.t 21), none, []⟩])
  .ret))))
theorem k145 : compCode Try.prog Try.f145.ntmps Try.f145.body.get! = some c145 := by kernel_rfl
theorem r145 : resTmps Try.prog Try.f145.results.toList = some [.tmp 2] := by kernel_rfl
/- impl.NameOk -/
def c149 : TCode := (.seq (.ops [⟨(some 2), 4, .mv (.c (.b false)), none, []⟩])
  (.seq (.seq (.ops [⟨(some 3), 5, .mv (.c (.i .i64 0)), none, []⟩])
  (.block 0 (.loop (.seq (.seq (.ops [⟨(some 4), 6, .mv (.t 3), none, []⟩, ⟨(some 5), 7, .mv (.t 0), none, []⟩, ⟨(some 6), 8, .len true (.t 5), none, []⟩, ⟨(some 7), 9, .bin .lss (.t 4) (.t 6), none, []⟩])
  (.cond (.t 7)
  .skip
  (.exit 0)))
  (.seq (.block 1 (.seq (.ops [⟨(some 10), 12, .mv (.t 0), none, []⟩, ⟨(some 11), 13, .mv (.t 3), none, []⟩, ⟨(some 12), 14, .ix (.t 10) (.t 11), none, []⟩, ⟨(some 13), 15, .call 188 [((.t 12), 0)], none, []⟩, ⟨(some 14), 16, .un .not (.t 13), none, []⟩])
  (.cond (.t 14)
  (.seq (.ops [⟨(some 2), 4, .mv (.c (.b false)), none, []⟩])
  .ret)
  .skip)))
  (.ops [⟨(some 8), 10, .mv (.t 3), none, []⟩, ⟨(some 9), 11, .bin .add (.t 8) (.c (.i .i64 1)), none, []⟩, ⟨(some 3), 5, .mv (.t 9), none, []⟩]))))))
  (.seq (.ops [⟨(some 15), 17, .mv (.t 0), none, []⟩, ⟨(some 16), 18, .len true (.t 15), none, []⟩, ⟨(some 17), 19, .call 154 [((.t 16), 0), ((.c (.i .i64 1)), 0), ((.c (.i .i64 12)), 0)], none, []⟩, ⟨(some 18), 20, .mv (.t 17), none, []⟩, ⟨(some 19), 21, .mv (.t 0), (some (18, true)), []⟩, ⟨(some 20), 22, .call 189 [((.t 19), 0)], (some (18, true)), []⟩, ⟨(some 21), 23, .un .not (.t 20), (some (18, true)), []⟩, ⟨(some 22), 24, .pick (.t 18) (.t 21) (.c (.b false)), none, []⟩, ⟨(some 2), 4, .mv (.t 22), none, []⟩])
  .ret)))
theorem k149 : compCode Try.prog Try.f149.ntmps Try.f149.body.get! = some c149 := by kernel_rfl
theorem r149 : resTmps Try.prog Try.f149.results.toList = some [.tmp 2] := by kernel_rfl
/- laws.szDecl -/
def c144 : TCode := (.seq (.ops [⟨(some 2), 4, .box 2 (.t 0), none, []⟩, ⟨(some 4), 6, .mv (.c (.i .i64 0)), none, []⟩])
  (.seq (.ops [⟨(some 5), 7, .mv (.t 1), none, []⟩, ⟨(some 6), 8, .faddr 0 1 (.t 2), none, []⟩, ⟨(some 7), 9, .load false 1 (.t 6), none, []⟩, ⟨(some 8), 10, .len true (.t 7), none, []⟩, ⟨(some 9), 11, .bin .sub (.t 5) (.t 8), none, []⟩, ⟨(some 1), 3, .mv (.t 9), none, []⟩])
  (.seq (.seq (.ops [⟨(some 10), 12, .mv (.t 1), none, []⟩, ⟨(some 11), 13, .bin .lss (.t 10) (.c (.i .i64 0)), none, []⟩])
  (.cond (.t 11)
  (.seq (.ops [⟨(some 4), 6, .mv (.c (.i .i64 (-1))), none, []⟩])
  .ret)
  .skip))
  (.seq (.ops [⟨(some 12), 14, .mv (.t 1), none, []⟩, ⟨(some 4), 6, .mv (.t 12), none, []⟩])
  .ret))))
theorem k144 : compCode Try.prog Try.f144.ntmps Try.f144.body.get! = some c144 := by kernel_rfl
theorem r144 : resTmps Try.prog Try.f144.results.toList = some [.tmp 4] := by kernel_rfl
/- laws.szDeclS -/
def c82 : TCode := (.seq (.ops [⟨(some 4), 6, .mv (.c (.i .i64 0)), none, []⟩])
  (.seq (.ops [⟨(some 6), 8, .mv (.t 1), none, []⟩, ⟨(some 7), 9, .mv (.t 0), none, []⟩, ⟨(some 8), 10, .len false (.t 7), none, []⟩, ⟨(some 9), 11, .bin .sub (.t 6) (.t 8), none, []⟩, ⟨(some 1), 3, .mv (.t 9), none, []⟩])
  (.seq (.seq (.ops [⟨(some 10), 12, .mv (.t 1), none, []⟩, ⟨(some 11), 13, .bin .lss (.t 10) (.c (.i .i64 0)), none, []⟩])
  (.cond (.t 11)
  (.seq (.ops [⟨(some 4), 6, .mv (.c (.i .i64 (-1))), none, []⟩])
  .ret)
  .skip))
  (.seq (.seq (.ops [⟨(some 5), 7, .mv (.c (.i .i64 0)), none, []⟩])
  (.block 0 (.loop (.seq (.seq (.ops [⟨(some 12), 14, .mv (.t 5), none, []⟩, ⟨(some 13), 15, .mv (.t 0), none, []⟩, ⟨(some 14), 16, .len false (.t 13), none, []⟩, ⟨(some 15), 17, .bin .lss (.t 12) (.t 14), none, []⟩])
  (.cond (.t 15)
  .skip
  (.exit 0)))
  (.seq (.block 1 (.seq (.ops [⟨(some 18), 20, .mv (.t 0), none, []⟩, ⟨(some 19), 21, .mv (.t 5), none, []⟩, ⟨(some 20), 22, .iaddr 2 (.t 18) (.t 19), none, []⟩, ⟨(some 21), 23, .load true 2 (.t 20), none, []⟩, ⟨(some 22), 24, .mv (.t 1), none, []⟩, ⟨(some 23), 25, .call 144 [((.t 21), 0), ((.t 22), 0)], none, []⟩, ⟨(some 1), 3, .mv (.t 23), none, []⟩])
  (.seq (.ops [⟨(some 24), 26, .mv (.t 1), none, []⟩, ⟨(some 25), 27, .bin .lss (.t 24) (.c (.i .i64 0)), none, []⟩])
  (.cond (.t 25)
  (.seq (.ops [⟨(some 4), 6, .mv (.c (.i .i64 (-1))), none, []⟩])
  .ret)
  .skip))))
  (.ops [⟨(some 16), 18, .mv (.t 5), none, []⟩, ⟨(some 17), 19, .bin .add (.t 16) (.c (.i .i64 1)), none, []⟩, ⟨(some 5), 7, .mv (.t 17), none, []⟩]))))))
  (.seq (.ops [⟨(some 26), 28, .mv (.t 1), none, []⟩, ⟨(some 4), 6, .mv (.t 26), none, []⟩])
  .ret)))))
theorem k82 : compCode Try.prog Try.f82.ntmps Try.f82.body.get! = some c82 := by kernel_rfl
theorem r82 : resTmps Try.prog Try.f82.results.toList = some [.tmp 4] := by kernel_rfl
/- laws.szReg -/
def c41 : TCode := (.seq (.ops [⟨(some 2), 4, .box 3 (.t 0), none, []⟩, ⟨(some 4), 6, .mv (.c (.i .i64 0)), none, []⟩])
  (.seq (.ops [⟨(some 5), 7, .faddr 0 1 (.t 2), none, []⟩, ⟨(some 6), 8, .load false 1 (.t 5), none, []⟩, ⟨(some 7), 9, .mv (.t 1), none, []⟩, ⟨(some 8), 10, .call 82 [((.t 6), 0), ((.t 7), 0)], none, []⟩, ⟨(some 1), 3, .mv (.t 8), none, []⟩])
  (.seq (.seq (.ops [⟨(some 9), 11, .mv (.t 1), none, []⟩, ⟨(some 10), 12, .bin .lss (.t 9) (.c (.i .i64 0)), none, []⟩])
  (.cond (.t 10)
  (.seq (.ops [⟨(some 4), 6, .mv (.c (.i .i64 (-1))), none, []⟩])
  .ret)
  .skip))
  (.seq (.ops [⟨(some 11), 13, .faddr 1 1 (.t 2), none, []⟩, ⟨(some 12), 14, .load false 1 (.t 11), none, []⟩, ⟨(some 13), 15, .mv (.t 1), none, []⟩, ⟨(some 14), 16, .call 82 [((.t 12), 0), ((.t 13), 0)], none, []⟩, ⟨(some 1), 3, .mv (.t 14), none, []⟩])
  (.seq (.seq (.ops [⟨(some 15), 17, .mv (.t 1), none, []⟩, ⟨(some 16), 18, .bin .lss (.t 15) (.c (.i .i64 0)), none, []⟩])
  (.cond (.t 16)
  (.seq (.ops [⟨(some 4), 6, .mv (.c (.i .i64 (-1))), none, []⟩])
  .ret)
  .skip))
  (.seq (.ops [⟨(some 17), 19, .faddr 2 1 (.t 2), none, []⟩, ⟨(some 18), 20, .load false 1 (.t 17), none, []⟩, ⟨(some 19), 21, .mv (.t 1), none, []⟩, ⟨(some 20), 22, .call 82 [((.t 18), 0), ((.t 19), 0)], none, []⟩, ⟨(some 1), 3, .mv (.t 20), none, []⟩])
  (.seq (.seq (.ops [⟨(some 21), 23, .mv (.t 1), none, []⟩, ⟨(some 22), 24, .bin .lss (.t 21) (.c (.i .i64 0)), none, []⟩])
  (.cond (.t 22)
  (.seq (.ops [⟨(some 4), 6, .mv (.c (.i .i64 (-1))), none, []⟩])
  .ret)
  .skip))
  (.seq (.ops [⟨(some 23), 25, .mv (.t 1), none, []⟩, ⟨(some 4), 6, .mv (.t 23), none, []⟩])
  .ret))))))))
theorem k41 : compCode Try.prog Try.f41.ntmps Try.f41.body.get! = some c41 := by kernel_rfl
theorem r41 : resTmps Try.prog Try.f41.results.toList = some [.tmp 4] := by kernel_rfl
/- laws.toDecl -/
def c147 : TCode := (.seq (.ops [⟨(some 1), 3, .box 2 (.t 0), none, []⟩, ⟨(some 2), 4, .box 2 (.c (.ag [(.s ⟨#[]⟩), (.i .i64 0)])), none, []⟩])
  (.seq (.ops [⟨(some 3), 5, .box 2 (.c (.ag [(.s ⟨#[]⟩), (.i .i64 0)])), none, []⟩])
  (.seq (.ops [⟨(some 4), 6, .faddr 0 1 (.t 1), none, []⟩, ⟨(some 5), 7, .load false 1 (.t 4), none, []⟩, ⟨(some 6), 8, .faddr 0 1 (.t 3), none, []⟩, ⟨none, 1002003, .store 1 (.t 6) (.t 5), none, []⟩])
  (.seq (.ops [⟨(some 7), 9, .faddr 1 1 (.t 1), none, []⟩, ⟨(some 8), 10, .load false 1 (.t 7), none, []⟩, ⟨(some 9), 11, .faddr 1 1 (.t 3), none, []⟩, ⟨none, 1003003, .store 1 (.t 9) (.t 8), none, []⟩])
  (.seq (.ops [⟨(some 10), 12, .load true 2 (.t 3), none, []⟩, ⟨none, 1004001, .store 2 (.t 2) (.t 10), none, []⟩])
  .ret)))))
theorem k147 : compCode Try.prog Try.f147.ntmps Try.f147.body.get! = some c147 := by kernel_rfl
theorem r147 : resTmps Try.prog Try.f147.results.toList = some [.cell 2 true 2] := by kernel_rfl
/- laws.toDeclS -/
def c88 : TCode := (.seq (.ops [⟨(some 2), 4, .mv (.c (.sl true 2 [])), none, []⟩])
  (.seq (.ops [⟨(some 5), 7, .mv (.t 0), none, []⟩, ⟨(some 6), 8, .len false (.t 5), none, []⟩, ⟨(some 7), 9, .mkslice 2 24 [(.s ⟨#[]⟩), (.i .i64 0)] (.t 6) (.t 6), none, []⟩, ⟨(some 3), 5, .mv (.t 7), none, []⟩])
  (.seq (.seq (.ops [⟨(some 4), 6, .mv (.c (.i .i64 0)), none, []⟩])
  (.block 0 (.loop (.seq (.seq (.ops [⟨(some 8), 10, .mv (.t 4), none, []⟩, ⟨(some 9), 11, .mv (.t 0), none, []⟩, ⟨(some 10), 12, .len false (.t 9), none, []⟩, ⟨(some 11), 13, .bin .lss (.t 8) (.t 10), none, []⟩])
  (.cond (.t 11)
  .skip
  (.exit 0)))
  (.seq (.block 1 (.ops [⟨(some 14), 16, .mv (.t 3), none, []⟩, ⟨(some 15), 17, .mv (.t 4), none, []⟩, ⟨(some 16), 18, .mv (.t 0), none, []⟩, ⟨(some 17), 19, .mv (.t 4), none, []⟩, ⟨(some 18), 20, .iaddr 2 (.t 16) (.t 17), none, []⟩, ⟨(some 19), 21, .load true 2 (.t 18), none, []⟩, ⟨(some 20), 22, .call 147 [((.t 19), 0)], none, []⟩, ⟨(some 21), 23, .iaddr 2 (.t 14) (.t 15), none, []⟩, ⟨none, 1005008, .store 2 (.t 21) (.t 20), none, []⟩]))
  (.ops [⟨(some 12), 14, .mv (.t 4), none, []⟩, ⟨(some 13), 15, .bin .add (.t 12) (.c (.i .i64 1)), none, []⟩, ⟨(some 4), 6, .mv (.t 13), none, []⟩]))))))
  (.seq (.ops [⟨(some 22), 24, .mv (.t 3), none, []⟩, ⟨(some 2), 4, .mv (.t 22), none, []⟩])
  .ret))))
theorem k88 : compCode Try.prog Try.f88.ntmps Try.f88.body.get! = some c88 := by kernel_rfl
theorem r88 : resTmps Try.prog Try.f88.results.toList = some [.tmp 2] := by kernel_rfl
/- laws.toReg -/
def c44 : TCode := (.seq (.ops [⟨(some 1), 3, .box 3 (.t 0), none, []⟩, ⟨(some 2), 4, .box 3 (.c (.ag [(.sl true 2 []), (.sl true 2 []), (.sl true 2 [])])), none, []⟩])
  (.seq (.ops [⟨(some 3), 5, .box 3 (.c (.ag [(.sl true 2 []), (.sl true 2 []), (.sl true 2 [])])), none, []⟩])
  (.seq (.ops [⟨(some 4), 6, .faddr 0 1 (.t 1), none, []⟩, ⟨(some 5), 7, .load false 1 (.t 4), none, []⟩, ⟨(some 6), 8, .call 88 [((.t 5), 0)], none, []⟩, ⟨(some 7), 9, .faddr 0 1 (.t 3), none, []⟩, ⟨none, 1002004, .store 1 (.t 7) (.t 6), none, []⟩])
  (.seq (.ops [⟨(some 8), 10, .faddr 1 1 (.t 1), none, []⟩, ⟨(some 9), 11, .load false 1 (.t 8), none, []⟩, ⟨(some 10), 12, .call 88 [((.t 9), 0)], none, []⟩, ⟨(some 11), 13, .faddr 1 1 (.t 3), none, []⟩, ⟨none, 1003004, .store 1 (.t 11) (.t 10), none, []⟩])
  (.seq (.ops [⟨(some 12), 14, .faddr 2 1 (.t 1), none, []⟩, ⟨(some 13), 15, .load false 1 (.t 12), none, []⟩, ⟨(some 14), 16, .call 88 [((.t 13), 0)], none, []⟩, ⟨(some 15), 17, .faddr 2 1 (.t 3), none, []⟩, ⟨none, 1004004, .store 1 (.t 15) (.t 14), none, []⟩])
  (.seq (.ops [⟨(some 16), 18, .load true 3 (.t 3), none, []⟩, ⟨none, 1005001, .store 3 (.t 2) (.t 16), none, []⟩])
  .ret))))))
theorem k44 : compCode Try.prog Try.f44.ntmps Try.f44.body.get! = some c44 := by kernel_rfl
theorem r44 : resTmps Try.prog Try.f44.results.toList = some [.cell 2 true 3] := by kernel_rfl
/- laws.eqDecl -/
def c155 : TCode := (.seq (.ops [⟨(some 2), 4, .box 2 (.t 0), none, []⟩, ⟨(some 3), 5, .box 2 (.t 1), none, []⟩, ⟨(some 4), 6, .mv (.c (.b false)), none, []⟩])
  (.seq (.seq (.ops [⟨(some 5), 7, .faddr 0 1 (.t 2), none, []⟩, ⟨(some 6), 8, .load false 1 (.t 5), none, []⟩, ⟨(some 7), 9, .faddr 0 1 (.t 3), none, []⟩, ⟨(some 8), 10, .load false 1 (.t 7), none, []⟩, ⟨(some 9), 11, .bin .neq (.t 6) (.t 8), none, []⟩])
  (.cond (.t 9)
  (.seq (.ops [⟨(some 4), 6, .mv (.c (.b false)), none, []⟩])
  .ret)
  .skip))
  (.seq (.seq (.ops [⟨(some 10), 12, .faddr 1 1 (.t 2), none, []⟩, ⟨(some 11), 13, .load false 1 (.t 10), none, []⟩, ⟨(some 12), 14, .faddr 1 1 (.t 3), none, []⟩, ⟨(some 13), 15, .load false 1 (.t 12), none, []⟩, ⟨(some 14), 16, .bin .neq (.t 11) (.t 13), none, []⟩])
  (.cond (.t 14)
  (.seq (.ops [⟨(some 4), 6, .mv (.c (.b false)), none, []⟩])
  .ret)
  .skip))
  (.seq (.ops [⟨(some 4), 6, .mv (.c (.b true)), none, []⟩])
  .ret))))
theorem k155 : compCode Try.prog Try.f155.ntmps Try.f155.body.get! = some c155 := by kernel_rfl
theorem r155 : resTmps Try.prog Try.f155.results.toList = some [.tmp 4] := by kernel_rfl
/- laws.eqDeclS -/
def c93 : TCode := (.seq (.ops [⟨(some 4), 6, .mv (.c (.b false)), none, []⟩])
  (.seq (.seq (.ops [⟨(some 6), 8, .mv (.t 0), none, []⟩, ⟨(some 7), 9, .len false (.t 6), none, []⟩, ⟨(some 8), 10, .mv (.t 1), none, []⟩, ⟨(some 9), 11, .len false (.t 8), none, []⟩, ⟨(some 10), 12, .bin .neq (.t 7) (.t 9), none, []⟩])
  (.cond (.t 10)
  (.seq (.ops [⟨(some 4), 6, .mv (.c (.b false)), none, []⟩])
  .ret)
  .skip))
  (.seq (.seq (.ops [⟨(some 5), 7, .mv (.c (.i .i64 0)), none, []⟩])
  (.block 0 (.loop (.seq (.seq (.ops [⟨(some 11), 13, .mv (.t 5), none, []⟩, ⟨(some 12), 14, .mv (.t 0), none, []⟩, ⟨(some 13), 15, .len false (.t 12), none, []⟩, ⟨(some 14), 16, .bin .lss (.t 11) (.t 13), none, []⟩])
  (.cond (.t 14)
  .skip
  (.exit 0)))
  (.seq (.block 1 (.seq (.draw [⟨(some 17), 19, .mv (.t 0), none, []⟩, ⟨(some 18), 20, .mv (.t 5), none, []⟩, ⟨(some 19), 21, .iaddr 2 (.t 17) (.t 18), none, []⟩, ⟨(some 20), 22, .load true 2 (.t 19), none, []⟩, ⟨(some 21), 23, .mv (.t 1), none, []⟩, ⟨(some 22), 24, .mv (.t 5), none, []⟩, ⟨(some 23), 25, .iaddr 2 (.t 21) (.t 22), none, []⟩, ⟨(some 24), 26, .load true 2 (.t 23), none, []⟩, ⟨(some 25), 27, .call 155 [((.t 20), 0), ((.t 24), 0)], none, []⟩, ⟨(some 26), 28, .un .not (.t 25), none, []⟩])
  (.cond (.t 26)
  (.seq (.ops [⟨(some 4), 6, .mv (.c (.b false)), none, []⟩])
  .ret)
  .skip)))
  (.ops [⟨(some 15), 17, .mv (.t 5), none, []⟩, ⟨(some 16), 18, .bin .add (.t 15) (.c (.i .i64 1)), none, []⟩, ⟨(some 5), 7, .mv (.t 16), none, []⟩]))))))
  (.seq (.ops [⟨(some 4), 6, .mv (.c (.b true)), none, []⟩])
  .ret))))
theorem k93 : compCode Try.prog Try.f93.ntmps Try.f93.body.get! = some c93 := by kernel_rfl
theorem r93 : resTmps Try.prog Try.f93.results.toList = some [.tmp 4] := by kernel_rfl
/- laws.eqReg -/
def c47 : TCode := (.seq (.ops [⟨(some 2), 4, .box 3 (.t 0), none, []⟩, ⟨(some 3), 5, .box 3 (.t 1), none, []⟩, ⟨(some 4), 6, .mv (.c (.b false)), none, []⟩])
  (.seq (.seq (.ops [⟨(some 5), 7, .faddr 0 1 (.t 2), none, []⟩, ⟨(some 6), 8, .load false 1 (.t 5), none, []⟩, ⟨(some 7), 9, .faddr 0 1 (.t 3), none, []⟩, ⟨(some 8), 10, .load false 1 (.t 7), none, []⟩, ⟨(some 9), 11, .call 93 [((.t 6), 0), ((.t 8), 0)], none, []⟩, ⟨(some 10), 12, .un .not (.t 9), none, []⟩])
  (.cond (.t 10)
  (.seq (.ops [⟨(some 4), 6, .mv (.c (.b false)), none, []⟩])
  .ret)
  .skip))
  (.seq (.seq (.ops [⟨(some 11), 13, .faddr 1 1 (.t 2), none, []⟩, ⟨(some 12), 14, .load false 1 (.t 11), none, []⟩, ⟨(some 13), 15, .faddr 1 1 (.t 3), none, []⟩, ⟨(some 14), 16, .load false 1 (.t 13), none, []⟩, ⟨(some 15), 17, .call 93 [((.t 12), 0), ((.t 14), 0)], none, []⟩, ⟨(some 16), 18, .un .not (.t 15), none, []⟩])
  (.cond (.t 16)
  (.seq (.ops [⟨(some 4), 6, .mv (.c (.b false)), none, []⟩])
  .ret)
  .skip))
  (.seq (.seq (.ops [⟨(some 17), 19, .faddr 2 1 (.t 2), none, []⟩, ⟨(some 18), 20, .load false 1 (.t 17), none, []⟩, ⟨(some 19), 21, .faddr 2 1 (.t 3), none, []⟩, ⟨(some 20), 22, .load false 1 (.t 19), none, []⟩, ⟨(some 21), 23, .call 93 [((.t 18), 0), ((.t 20), 0)], none, []⟩, ⟨(some 22), 24, .un .not (.t 21), none, []⟩])
  (.cond (.t 22)
  (.seq (.ops [⟨(some 4), 6, .mv (.c (.b false)), none, []⟩])
  .ret)
  .skip))
  (.seq (.ops [⟨(some 4), 6, .mv (.c (.b true)), none, []⟩])
  .ret)))))
theorem k47 : compCode Try.prog Try.f47.ntmps Try.f47.body.get! = some c47 := by kernel_rfl
theorem r47 : resTmps Try.prog Try.f47.results.toList = some [.tmp 4] := by kernel_rfl

@[simp] def sT (s : ByteArray) : List TV := [.s s]
@[simp] theorem fzL_sT (s : ByteArray) : fzL (sT s) = sT s := rfl
@[simp] theorem fzLL_sT (l : List (ByteArray)) : fzLL (l.map sT) = l.map sT := fzLL_map fzL_sT l
@[simp] theorem noROLL_sT (l : List (ByteArray)) : noROLL (l.map sT) = true := noROLL_map (fun _ => rfl) l
@[simp] theorem noref_sT (l : List (ByteArray)) : (l.map sT).all (·.all noref) = true := noref_map (fun _ => rfl) l
@[simp] theorem srcT_sT (H : Hp) (z : Nat) (l : List (ByteArray)) : srcT H (.sl false z (l.map sT)) = some (z, l.map sT, H, []) := by simp only [srcT, noref_sT, if_true]
abbrev DeclP := ByteArray × Int
@[simp] def dT (d : ByteArray × Int) : List TV := [.s d.1, .i .i64 d.2]
@[simp] theorem fzL_dT (d : ByteArray × Int) : fzL (dT d) = dT d := rfl
@[simp] theorem fzLL_dT (l : List (ByteArray × Int)) : fzLL (l.map dT) = l.map dT := fzLL_map fzL_dT l
@[simp] theorem noROLL_dT (l : List (ByteArray × Int)) : noROLL (l.map dT) = true := noROLL_map (fun _ => rfl) l
@[simp] theorem noref_dT (l : List (ByteArray × Int)) : (l.map dT).all (·.all noref) = true := noref_map (fun _ => rfl) l
@[simp] theorem srcT_dT (H : Hp) (z : Nat) (l : List (ByteArray × Int)) : srcT H (.sl false z (l.map dT)) = some (z, l.map dT, H, []) := by simp only [srcT, noref_dT, if_true]

instance memS (a : ByteArray) (l : List ByteArray) : Decidable (a ∈ l) := decidable_of_iff (l.any (fun x => decide (x = a)) = true) (by simp)
def lettP (n : Int) : Prop := (97 ≤ n ∧ n ≤ 122) ∨ (65 ≤ n ∧ n ≤ 90)
instance (n : Int) : Decidable (lettP n) := by unfold lettP; infer_instance
theorem w185 (n : Int) : Contract Try.prog false 185 [.ro] [.i .u8 n] [.b (decide (lettP n))] [] := by
  refine mk_contract [] Try.func185 (c := Try.f185.body.get!) (by kernel_rfl) k185 r185 (of_decide_eq_true rfl) fun _ => ?_
  unfold c185; simp
  by_cases h1 : 97 ≤ n <;> by_cases h2 : n ≤ 122 <;> by_cases h3 : 65 ≤ n <;> by_cases h4 : n ≤ 90 <;> simp [lettP, h1, h2, h3, h4]
theorem w188 (n : Int) : Contract Try.prog false 188 [.ro] [.i .u8 n] [.b (decide (lettP n))] [] := by
  refine mk_contract [] Try.func188 (c := Try.f188.body.get!) (by kernel_rfl) k188 r188 (of_decide_eq_true rfl) fun _ => ?_
  unfold c188; simp
  by_cases h1 : 97 ≤ n <;> by_cases h2 : n ≤ 122 <;> by_cases h3 : 65 ≤ n <;> by_cases h4 : n ≤ 90 <;> simp [lettP, h1, h2, h3, h4]

def words : List ByteArray := [⟨#[115, 121, 115, 116, 101, 109]⟩, ⟨#[102, 110]⟩, ⟨#[108, 101, 116]⟩, ⟨#[105, 102]⟩, ⟨#[101, 108, 115, 101]⟩, ⟨#[108, 111, 111, 112]⟩, ⟨#[101, 97, 99, 104]⟩, ⟨#[119, 105, 116, 104]⟩, ⟨#[119, 105, 116, 104, 111, 117, 116]⟩, ⟨#[101, 109, 105, 116]⟩, ⟨#[104, 101, 97, 114]⟩, ⟨#[97, 115]⟩, ⟨#[115, 112, 97, 119, 110]⟩, ⟨#[107, 105, 108, 108]⟩, ⟨#[112, 117, 116]⟩, ⟨#[100, 114, 111, 112]⟩, ⟨#[100, 111]⟩, ⟨#[114, 101, 116, 117, 114, 110]⟩, ⟨#[112, 105, 99, 107]⟩, ⟨#[111, 102]⟩, ⟨#[121, 101, 115]⟩, ⟨#[110, 111]⟩, ⟨#[97, 110, 100]⟩, ⟨#[111, 114]⟩, ⟨#[110, 111, 116]⟩, ⟨#[105, 110, 116]⟩, ⟨#[114, 101, 97, 108]⟩, ⟨#[112, 97, 105, 114]⟩, ⟨#[98, 111, 111, 108]⟩, ⟨#[114, 101]⟩, ⟨#[105, 109]⟩, ⟨#[115, 105, 122, 101]⟩]
theorem words_len : words.length = 32 := rfl
theorem w222  : Contract Try.prog false 222 [] [] [.sl true 1 (words.map sT)] [] := by
  refine mk_contract [] Try.func222 (c := Try.f222.body.get!) (by kernel_rfl) k222 r222 (of_decide_eq_true rfl) fun _ => ?_
  unfold c222; simp [words]
theorem w186 (a : ByteArray) : Contract Try.prog false 186 [.ro] [.s a] [.b (decide (a ∈ words))] [] := by
  refine mk_contract [] Try.func186 (c := Try.f186.body.get!) (by kernel_rfl) k186 r186 (of_decide_eq_true rfl) fun _ => ?_
  unfold c186; simp
  refine callW_ms [] ?_
  simp
  refine callX_of (w222 ) (by simp) ?_
  simp
  have hwl := words_len
  generalize words = W at hwl
  refine twp_for W.length (fun j s => s.t 0 = .s a ∧ s.t 3 = .rf [(7, 0)] 0 W.length ∧ s.t 4 = .i .i64 j ∧ a ∉ W.take j ∧ s.H = lk [(1, []), (7, [.sl true 1 (W.map sT)])]) [] (by simp) ?_ ?_
  · simp
  · rintro j s hj ⟨q0, q3, q4, hn, qH⟩
    rw [nf_of qH]
    simp [q0, q3, q4]
    refine ⟨fun hlt => ?_, fun hge => ?_⟩
    · have hw : IntKind.i64.wrap (j + 1) = j + 1 := wrap_id (by omega) (by omega)
      obtain ⟨x, hx⟩ := get_some hlt
      simp [hx, hw, q0, q3, q4]
      refine ⟨hlt, fun h => by subst h; exact List.mem_of_getElem? hx, fun h => ⟨hlt, ?_⟩⟩
      rw [take_snoc hx]; simp; exact ⟨hn, fun h2 => h h2.symm⟩
    · obtain rfl : j = W.length := by omega
      rw [List.take_of_length_le (Nat.le_refl _)] at hn
      exact hn
set_option maxRecDepth 100000 in
theorem w189 (a : ByteArray) : Contract Try.prog false 189 [.ro] [.s a] [.b (decide (a ∈ words))] [] := by
  refine mk_contract [] Try.func189 (c := Try.f189.body.get!) (by kernel_rfl) k189 r189 (of_decide_eq_true rfl) fun _ => ?_
  unfold c189; simp
  repeat (refine ⟨fun h => by simp [words, h], fun _ => ?_⟩)
  simp [words, *]

def allLet (a : ByteArray) (j : Nat) : Prop := ∀ i < j, ∀ b : UInt8, a[i]? = some b → lettP b.toNat
def nameP (a : ByteArray) : Prop := (1 ≤ a.size ∧ a.size ≤ 12) ∧ allLet a a.size ∧ a ∉ words
noncomputable instance (a : ByteArray) : Decidable (nameP a) := Classical.propDecidable _
theorem get_byte {a : ByteArray} {j : Nat} (h : j < a.size) : ∃ b : UInt8, a[j]? = some b := ⟨a[j], by simp [h]⟩
theorem allLet_succ {a : ByteArray} {j : Nat} {b : UInt8} (h : a[j]? = some b) : allLet a (j + 1) ↔ allLet a j ∧ lettP b.toNat := by
  constructor
  · intro h2; exact ⟨fun i hi => h2 i (by omega), h2 j (by omega) b h⟩
  · rintro ⟨h1, h2⟩ i hi c hc
    rcases Nat.lt_or_ge i j with h3 | h3
    · exact h1 i h3 c hc
    · obtain rfl : i = j := by omega
      rw [h] at hc; cases hc; exact h2
theorem w145 (a : ByteArray) : Contract Try.prog false 145 [.ro] [.s a] [.b (decide (nameP a))] [] := by
  refine mk_contract [] Try.func145 (c := Try.f145.body.get!) (by kernel_rfl) k145 r145 (of_decide_eq_true rfl) fun _ => ?_
  unfold c145; simp
  by_cases hr : 1 ≤ (a.size : Int) ∧ (a.size : Int) ≤ 12
  · refine callW_ms [.ro, .ro, .ro] ?_
    simp
    refine callX_of ((w87 _ _ _).t hr) (by simp) ?_
    simp
    refine twp_for a.size (fun j s => s.t 0 = .s a ∧ s.t 3 = .i .i64 j ∧ allLet a j ∧ s.H = lk [(1, [])]) [] (by simp) ?_ ?_
    · simp [allLet]
    · rintro j s hj ⟨q0, q3, hn, qH⟩
      rw [nf_of qH]
      simp [q0, q3]
      refine ⟨fun hlt => ?_, fun hge => ?_⟩
      · have hw : IntKind.i64.wrap (j + 1) = j + 1 := wrap_id (by omega) (by omega)
        obtain ⟨b, hb⟩ := get_byte hlt
        simp [hb, hw, q0, q3]
        by_cases hl : lettP b.toNat
        · refine callW_ms [.ro] ?_
          simp
          refine callX_of ((w185 b.toNat).t hl) (by simp) ?_
          simp [hw, q0, q3]
          exact ⟨hlt, (allLet_succ hb).2 ⟨hn, hl⟩⟩
        · refine callW_ms [.ro] ?_
          simp
          refine callX_of ((w185 b.toNat).f hl) (by simp) ?_
          simp [hw, q0, q3]
          intro h; exact hl (h.2.1 j hlt b hb)
      · obtain rfl : j = a.size := by omega
        have h1 : 1 ≤ a.size ∧ a.size ≤ 12 := by omega
        refine callW_ms [.ro] ?_
        simp
        refine callX_of (w186 a) (by simp) ?_
        simp [nameP, hn, h1]
  · refine callW_ms [.ro, .ro, .ro] ?_
    simp
    refine callX_of ((w87 _ _ _).f hr) (by simp) ?_
    simp
    intro h; exact hr (by have := h.1; omega)
theorem w149 (a : ByteArray) (ha : a.size ≤ 2^40) : Contract Try.prog false 149 [.ro] [.s a] [.b (decide (nameP a))] [] := by
  refine mk_contract [] Try.func149 (c := Try.f149.body.get!) (by kernel_rfl) k149 r149 (of_decide_eq_true rfl) fun _ => ?_
  unfold c149; simp
  refine twp_for a.size (fun j s => s.t 0 = .s a ∧ s.t 3 = .i .i64 j ∧ allLet a j ∧ s.H = lk [(1, [])]) [] (by simp) ?_ ?_
  · simp [allLet]
  · rintro j s hj ⟨q0, q3, hn, qH⟩
    rw [nf_of qH]
    simp [q0, q3]
    refine ⟨fun hlt => ?_, fun hge => ?_⟩
    · have hw : IntKind.i64.wrap (j + 1) = j + 1 := wrap_id (by omega) (by omega)
      obtain ⟨b, hb⟩ := get_byte hlt
      simp [hb, hw, q0, q3]
      by_cases hl : lettP b.toNat
      · refine callW_ms [.ro] ?_
        simp
        refine callX_of ((w188 b.toNat).t hl) (by simp) ?_
        simp [hw, q0, q3]
        exact ⟨hlt, (allLet_succ hb).2 ⟨hn, hl⟩⟩
      · refine callW_ms [.ro] ?_
        simp
        refine callX_of ((w188 b.toNat).f hl) (by simp) ?_
        simp [hw, q0, q3]
        intro h; exact hl (h.2.1 j hlt b hb)
    · obtain rfl : j = a.size := by omega
      by_cases hr : 1 ≤ (a.size : Int) ∧ (a.size : Int) ≤ 12
      · have h1 : 1 ≤ a.size ∧ a.size ≤ 12 := by omega
        refine callW_ms [.ro, .ro, .ro] ?_
        simp
        refine callX_of ((w154 _ _ _).t hr) (by simp) ?_
        simp [q0, q3]
        refine callW_ms [.ro] ?_
        simp
        refine callX_of (w189 a) (by simp) ?_
        simp [nameP, hn, h1]
      · have h1 : ¬ (1 ≤ a.size ∧ a.size ≤ 12) := by omega
        refine callW_ms [.ro, .ro, .ro] ?_
        simp
        refine callX_of ((w154 _ _ _).f hr) (by simp) ?_
        simp [q0, q3, nameP, h1]

def declT (d : ByteArray × Int) : TV := .ag [.s d.1, .i .i64 d.2]
def szDeclF (d : ByteArray × Int) (n : Int) : Int := szF n d.1.size
theorem w144 (d : ByteArray × Int) (n : Int) (hd : d.1.size < 2^63) (hn : n < 2^62) (hn0 : 0 ≤ n) : Contract Try.prog false 144 [.ro, .ro] [declT d, .i .i64 n] [.i .i64 (szDeclF d n)] [] := by
  refine mk_contract [] Try.func144 (c := Try.f144.body.get!) (by kernel_rfl) k144 r144 (of_decide_eq_true rfl) fun _ => ?_
  have hw : IntKind.i64.wrap (n - d.1.size) = n - d.1.size := wrap_id (by omega) (by omega)
  unfold c144; unfold declT szDeclF szF; simp [hw]
  omega
theorem szDecl_le (d : ByteArray × Int) (n : Int) (h : 0 ≤ n) : szDeclF d n ≤ n := szF_le _ _ (by omega) h
theorem w82 (l : List (ByteArray × Int)) (n : Int) (hl : l.length < 2^63) (hd : ∀ d ∈ l, d.1.size < 2^63) (hn : n < 2^62) (hn0 : 0 ≤ n) : Contract Try.prog false 82 [.ro, .ro] [.sl false 2 (l.map dT), .i .i64 n] [.i .i64 (szS szDeclF l n)] [] := by
  refine mk_contract [] Try.func82 (c := Try.f82.body.get!) (by kernel_rfl) k82 r82 (of_decide_eq_true rfl) fun _ => ?_
  have hw : IntKind.i64.wrap (n - l.length) = n - l.length := wrap_id (by omega) (by omega)
  unfold c82; simp [hw]
  refine ⟨fun h => ?_, fun h => ?_⟩
  · simp [szS, szF, h]
  have e : szF n l.length = n - l.length := by unfold szF; rw [if_neg (by omega)]
  have e2 : szS szDeclF l n = szA szDeclF l (n - l.length) := by unfold szS; rw [e, if_neg (by omega)]
  rw [e2]
  refine twp_for l.length (fun j s => s.t 0 = .sl false 2 (l.map dT) ∧ s.t 1 = .i .i64 (szA szDeclF (l.take j) (n - l.length)) ∧ s.t 5 = .i .i64 j ∧ 0 ≤ szA szDeclF (l.take j) (n - l.length) ∧ s.H = lk [(1, [])]) [] (by simp) ?_ ?_
  · simp; omega
  · rintro j s hj ⟨q0, q1, q5, h0, qH⟩
    rw [nf_of qH]
    simp [q0, q1, q5]
    refine ⟨fun hlt => ?_, fun hge => ?_⟩
    · have hw : IntKind.i64.wrap (j + 1) = j + 1 := wrap_id (by omega) (by omega)
      obtain ⟨x, hx⟩ := get_some hlt
      have hle := (szA_ok szDecl_le (l.take j) _ h0 (by omega)).1
      have hs : szA szDeclF (l.take (j + 1)) (n - l.length) = szDeclF x (szA szDeclF (l.take j) (n - l.length)) := by
        rw [take_snoc hx, szA_snoc, if_neg (by omega)]
      have hng : szDeclF x (szA szDeclF (l.take j) (n - l.length)) < 0 → szDeclF x (szA szDeclF (l.take j) (n - l.length)) = -1 := szF_neg _ _
      have hng2 := szA_take szDeclF l (n - l.length) (j + 1)
      rw [hs] at hng2
      generalize szA szDeclF (l.take j) (n - l.length) = m at *
      simp [hx, hw, q0, q1, q5]
      refine callW_ms [.ro, .ro] ?_
      simp [declT]
      refine callX_of (w144 x m (hd x (List.mem_of_getElem? hx)) (by omega) h0) (by simp) ?_
      simp [hw, q0, q1, q5]
      generalize szDeclF x m = m' at *
      refine ⟨fun h1 => (hng2 (hng h1)).symm, fun h1 => ⟨hlt, by rw [hs], by rw [hs]; omega⟩⟩
    · obtain rfl : j = l.length := by omega
      simp [q0, q1, q5]
theorem w147 (d : ByteArray × Int) : Contract Try.prog false 147 [.ro] [declT d] [declT d] [] := by
  refine mk_contract [] Try.func147 (c := Try.f147.body.get!) (by kernel_rfl) k147 r147 (of_decide_eq_true rfl) fun _ => ?_
  unfold c147; unfold declT; simp
theorem w88 (l : List (ByteArray × Int)) (hl : l.length ≤ 2^40) : Contract Try.prog false 88 [.ro] [.sl false 2 (l.map dT)] [.sl true 2 (l.map dT)] [] := by
  refine mk_contract [] Try.func88 (c := Try.f88.body.get!) (by kernel_rfl) k88 r88 (of_decide_eq_true rfl) fun _ => ?_
  unfold c88; simp
  refine ⟨by omega, ?_⟩
  refine twp_for l.length (fun j s => s.t 0 = .sl false 2 (l.map dT) ∧ s.t 3 = .rf [(9, 0)] 0 l.length ∧ s.t 4 = .i .i64 j ∧ s.H = lk [(1, []), (9, [.sl true 2 ((l.map dT).take j ++ List.replicate (l.length - j) [.s ⟨#[]⟩, .i .i64 0])])]) [] (by simp) ?_ ?_
  · simp
  · rintro j s hj ⟨q0, q3, q4, qH⟩
    rw [nf_of qH]
    simp [q0, q3, q4]
    refine ⟨fun hlt => ?_, fun hge => ?_⟩
    · have hw : IntKind.i64.wrap (j + 1) = j + 1 := wrap_id (by omega) (by omega)
      obtain ⟨x, hx⟩ := get_some hlt
      have hmin : min j l.length = j := by omega
      simp [hx, hw, q0, q3, q4]
      refine callW_ms [.ro] ?_
      simp [declT]
      refine callX_of (w147 x) (by simp) ?_
      simp [declT, hw, q0, q3, q4, rep_at hlt, mapsnoc hx, hmin]
      omega
    · obtain rfl : j = l.length := by omega
      simp [q0, q3, q4]
theorem w155 (d e : ByteArray × Int) : Contract Try.prog false 155 [.ro, .ro] [declT d, declT e] [.b (decide (d = e))] [] := by
  refine mk_contract [] Try.func155 (c := Try.f155.body.get!) (by kernel_rfl) k155 r155 (of_decide_eq_true rfl) fun _ => ?_
  unfold c155; unfold declT; simp
  exact ⟨fun h1 => ⟨fun h2 => Prod.ext h1 h2, fun h2 h3 => h2 (by rw [h3])⟩, fun h1 h2 => h1 (by rw [h2])⟩
theorem w93 (a b : List (ByteArray × Int)) (ha : a.length ≤ 2^40) (hb : b.length ≤ 2^40) : Contract Try.prog false 93 [.ro, .ro] [.sl false 2 (a.map dT), .sl false 2 (b.map dT)] [.b (decide (a = b))] [] := by
  refine mk_contract [] Try.func93 (c := Try.f93.body.get!) (by kernel_rfl) k93 r93 (of_decide_eq_true rfl) fun _ => ?_
  unfold c93; simp
  refine ⟨fun h => ?_, fun h => ?_⟩
  · refine twp_for a.length (fun j s => s.t 0 = .sl false 2 (a.map dT) ∧ s.t 1 = .sl false 2 (b.map dT) ∧ s.t 5 = .i .i64 j ∧ a.take j = b.take j ∧ s.H = lk [(1, [])]) [] (by simp) ?_ ?_
    · simp
    · rintro j s hj ⟨q0, q1, q5, hab, qH⟩
      rw [nf_of qH]
      simp [q0, q1, q5]
      refine ⟨fun hlt => ?_, fun hge => ?_⟩
      · have hw : IntKind.i64.wrap (j + 1) = j + 1 := wrap_id (by omega) (by omega)
        obtain ⟨x, hx⟩ := get_some hlt
        obtain ⟨y, hy⟩ := get_some (l := b) (j := j) (by omega)
        simp [hx, hy, hw, q0, q1, q5]
        by_cases hxy : x = y
        · refine callW_ms [.ro, .ro] ?_
          simp [declT]
          refine callX_of ((w155 x y).t hxy) (by simp) ?_
          simp [hw, q0, q1, q5]
          exact ⟨hlt, by rw [take_snoc hx, take_snoc hy, hab, hxy]⟩
        · refine callW_ms [.ro, .ro] ?_
          simp [declT]
          refine callX_of ((w155 x y).f hxy) (by simp) ?_
          simp [hw, q0, q1, q5]
          intro hab2; subst hab2; rw [hx] at hy; cases hy; exact absurd rfl hxy
      · obtain rfl : j = a.length := by omega
        rw [List.take_of_length_le (Nat.le_refl _), List.take_of_length_le (by omega)] at hab
        exact hab
  · rintro rfl; exact h rfl

/-- A Reg: its three lists. -/
def regR (c r e : List (ByteArray × Int)) : TV := .ag [.sl false 2 (c.map dT), .sl false 2 (r.map dT), .sl false 2 (e.map dT)]
def regO (c r e : List (ByteArray × Int)) : TV := .ag [.sl true 2 (c.map dT), .sl true 2 (r.map dT), .sl true 2 (e.map dT)]
theorem szDecl_neg (x : ByteArray × Int) (m : Int) (h : szDeclF x m < 0) : szDeclF x m = -1 := szF_neg _ _ h
def szRegF (c r e : List (ByteArray × Int)) (n : Int) : Int :=
  let a := szS szDeclF c n
  if a < 0 then -1 else
    let b := szS szDeclF r a
    if b < 0 then -1 else szS szDeclF e b
def bndD (l : List (ByteArray × Int)) : Prop := l.length < 2^63 ∧ ∀ d ∈ l, d.1.size < 2^63
def okD (k : Nat) (l : List (ByteArray × Int)) : Prop := l.length ≤ k ∧ ∀ d ∈ l, d.1.size ≤ k
theorem szS_okD {l : List (ByteArray × Int)} {n : Int} {k : Nat} (h0 : 0 ≤ n) (hk : n ≤ k) (h : ¬ szS szDeclF l n < 0) : 0 ≤ szS szDeclF l n ∧ szS szDeclF l n ≤ n ∧ okD k l := by
  obtain ⟨h1, h2, h3, h4⟩ := szS_lo szDecl_le h0 h
  refine ⟨h1, h2, by omega, fun d hd => ?_⟩
  obtain ⟨m, m1, m2, m3⟩ := h4 d hd
  have := (szF_pos (n := m) (k := d.1.size) m3).2
  omega
theorem szRegF_ok {c r e : List (ByteArray × Int)} {n : Int} {k : Nat} (h0 : 0 ≤ n) (hk : n ≤ k) (h : ¬ szRegF c r e n < 0) : 0 ≤ szRegF c r e n ∧ szRegF c r e n ≤ n ∧ okD k c ∧ okD k r ∧ okD k e := by
  simp only [szRegF] at h ⊢
  by_cases h1 : szS szDeclF c n < 0
  · simp [h1] at h
  · obtain ⟨a1, a2, a3⟩ := szS_okD h0 hk h1
    rw [if_neg h1] at h ⊢
    by_cases h2 : szS szDeclF r (szS szDeclF c n) < 0
    · simp [h2] at h
    · obtain ⟨b1, b2, b3⟩ := szS_okD a1 (by omega : szS szDeclF c n ≤ k) h2
      rw [if_neg h2] at h ⊢
      obtain ⟨c1, c2, c3⟩ := szS_okD b1 (by omega : szS szDeclF r (szS szDeclF c n) ≤ k) h
      exact ⟨c1, by omega, a3, b3, c3⟩
theorem w41 (c r e : List (ByteArray × Int)) (n : Int) (hc : bndD c) (hr : bndD r) (he : bndD e) (hn : n < 2^62) (hn0 : 0 ≤ n) : Contract Try.prog false 41 [.ro, .ro] [regR c r e, .i .i64 n] [.i .i64 (szRegF c r e n)] [] := by
  refine mk_contract [] Try.func41 (c := Try.f41.body.get!) (by kernel_rfl) k41 r41 (of_decide_eq_true rfl) fun _ => ?_
  unfold c41; unfold regR szRegF; simp
  refine callW_ms [.ro, .ro] ?_
  simp
  refine callX_of (w82 c n hc.1 hc.2 hn hn0) (by simp) ?_
  simp
  refine ⟨fun h => by intros; omega, fun h => ?_⟩
  obtain ⟨a1, a2, -⟩ := szS_okD (k := 2^62) hn0 (by omega) (by omega : ¬ szS szDeclF c n < 0)
  refine callW_ms [.ro, .ro] ?_
  simp
  refine callX_of (w82 r _ hr.1 hr.2 (by omega) h) (by simp) ?_
  simp
  rw [if_neg (by omega)]
  refine ⟨fun h2 => by intros; omega, fun h2 => ?_⟩
  obtain ⟨b1, b2, -⟩ := szS_okD (k := 2^62) h (by omega) (by omega : ¬ szS szDeclF r (szS szDeclF c n) < 0)
  refine callW_ms [.ro, .ro] ?_
  simp
  refine callX_of (w82 e _ he.1 he.2 (by omega) h2) (by simp) ?_
  simp
  refine ⟨fun h3 _ => (szS_neg szDecl_neg _ _ h3).symm, fun h3 h4 => by omega⟩
theorem w44 (c r e : List (ByteArray × Int)) (hc : c.length ≤ 2^40) (hr : r.length ≤ 2^40) (he : e.length ≤ 2^40) : Contract Try.prog false 44 [.ro] [regR c r e] [regO c r e] [] := by
  refine mk_contract [] Try.func44 (c := Try.f44.body.get!) (by kernel_rfl) k44 r44 (of_decide_eq_true rfl) fun _ => ?_
  unfold c44; unfold regR regO; simp
  refine callW_ms [.ro] ?_
  simp
  refine callX_of (w88 c hc) (by simp) ?_
  simp
  refine callW_ms [.ro] ?_
  simp
  refine callX_of (w88 r hr) (by simp) ?_
  simp
  refine callW_ms [.ro] ?_
  simp
  refine callX_of (w88 e he) (by simp) ?_
  simp
theorem w47 (c r e c' r' e' : List (ByteArray × Int)) (hc : c.length ≤ 2^40) (hr : r.length ≤ 2^40) (he : e.length ≤ 2^40) (hc' : c'.length ≤ 2^40) (hr' : r'.length ≤ 2^40) (he' : e'.length ≤ 2^40) : Contract Try.prog false 47 [.ro, .ro] [regR c r e, regR c' r' e'] [.b (decide (c = c' ∧ r = r' ∧ e = e'))] [] := by
  refine mk_contract [] Try.func47 (c := Try.f47.body.get!) (by kernel_rfl) k47 r47 (of_decide_eq_true rfl) fun _ => ?_
  unfold c47; unfold regR; simp
  refine callW_ms [.ro, .ro] ?_
  simp
  refine callX_of (w93 c c' hc hc') (by simp) ?_
  simp
  refine ⟨fun h => ?_, fun h => ?_⟩
  · refine callW_ms [.ro, .ro] ?_
    simp
    refine callX_of (w93 r r' hr hr') (by simp) ?_
    simp
    refine ⟨fun h2 => ?_, fun h2 => ?_⟩
    · refine callW_ms [.ro, .ro] ?_
      simp
      refine callX_of (w93 e e' he he') (by simp) ?_
      simp [h, h2]
    · simp [h2]
  · simp [h]
end Go.Proofs.YtmedelmfkciblaaT

/- Regs: whether they are right. -/
namespace Go.Proofs.YtmedelmfkciblaaT
set_option linter.unusedVariables false
set_option linter.unusedSimpArgs false
open Go

/- spec.RegOk -/
def c84 : TCode := (.seq (.ops [⟨(some 1), 3, .box 3 (.t 0), none, []⟩, ⟨(some 2), 4, .mv (.c (.b false)), none, []⟩])
  (.seq (.seq (.ops [⟨(some 6), 8, .faddr 0 1 (.t 1), none, []⟩, ⟨(some 7), 9, .load false 1 (.t 6), none, []⟩, ⟨(some 8), 10, .len false (.t 7), none, []⟩, ⟨(some 9), 11, .bin .gtr (.t 8) (.c (.i .i64 12)), none, []⟩, ⟨(some 10), 12, .mv (.t 9), none, []⟩, ⟨(some 11), 13, .faddr 1 1 (.t 1), (some (10, false)), []⟩, ⟨(some 12), 14, .load false 1 (.t 11), (some (10, false)), []⟩, ⟨(some 13), 15, .len false (.t 12), (some (10, false)), []⟩, ⟨(some 14), 16, .bin .gtr (.t 13) (.c (.i .i64 12)), (some (10, false)), []⟩, ⟨(some 15), 17, .pick (.t 10) (.c (.b true)) (.t 14), none, []⟩, ⟨(some 16), 18, .mv (.t 15), none, []⟩, ⟨(some 17), 19, .faddr 2 1 (.t 1), (some (16, false)), []⟩, ⟨(some 18), 20, .load false 1 (.t 17), (some (16, false)), []⟩, ⟨(some 19), 21, .len false (.t 18), (some (16, false)), []⟩, ⟨(some 20), 22, .bin .gtr (.t 19) (.c (.i .i64 12)), (some (16, false)), []⟩, ⟨(some 21), 23, .pick (.t 16) (.c (.b true)) (.t 20), none, []⟩])
  (.cond (.t 21)
  (.seq (.ops [⟨(some 2), 4, .mv (.c (.b false)), none, []⟩])
  .ret)
  .skip))
  (.seq (.draw [⟨(some 22), 24, .bslice 2 0 [(.s ⟨#[]⟩), (.i .i64 0)] [], none, []⟩, ⟨(some 23), 25, .faddr 0 1 (.t 1), none, [0]⟩, ⟨(some 24), 26, .load false 1 (.t 23), none, [0]⟩, ⟨(some 25), 27, .app 2 24 (.t 22) (.t 24), none, []⟩, ⟨(some 26), 28, .faddr 1 1 (.t 1), none, [0, 3]⟩, ⟨(some 27), 29, .load false 1 (.t 26), none, [0, 3]⟩, ⟨(some 28), 30, .app 2 24 (.t 25) (.t 27), none, []⟩, ⟨(some 29), 31, .faddr 2 1 (.t 1), none, [0, 3, 6]⟩, ⟨(some 30), 32, .load false 1 (.t 29), none, [0, 3, 6]⟩, ⟨(some 31), 33, .app 2 24 (.t 28) (.t 30), none, []⟩, ⟨(some 3), 5, .mv (.t 31), none, []⟩])
  (.seq (.seq (.ops [⟨(some 4), 6, .mv (.c (.i .i64 0)), none, []⟩])
  (.block 0 (.loop (.seq (.seq (.ops [⟨(some 32), 34, .mv (.t 4), none, []⟩, ⟨(some 33), 35, .mv (.t 3), none, []⟩, ⟨(some 34), 36, .len false (.t 33), none, []⟩, ⟨(some 35), 37, .bin .lss (.t 32) (.t 34), none, []⟩])
  (.cond (.t 35)
  .skip
  (.exit 0)))
  (.seq (.block 1 (.seq (.seq (.ops [⟨(some 38), 40, .mv (.t 3), none, []⟩, ⟨(some 39), 41, .mv (.t 4), none, []⟩, ⟨(some 40), 42, .iaddr 2 (.t 38) (.t 39), none, []⟩, ⟨(some 41), 43, .faddr 0 1 (.t 40), none, []⟩, ⟨(some 42), 44, .load false 1 (.t 41), none, []⟩, ⟨(some 43), 45, .call 145 [((.t 42), 0)], none, []⟩, ⟨(some 44), 46, .un .not (.t 43), none, []⟩, ⟨(some 45), 47, .mv (.t 44), none, []⟩, ⟨(some 46), 48, .mv (.t 3), (some (45, false)), []⟩, ⟨(some 47), 49, .mv (.t 4), (some (45, false)), []⟩, ⟨(some 48), 50, .iaddr 2 (.t 46) (.t 47), (some (45, false)), []⟩, ⟨(some 49), 51, .faddr 1 1 (.t 48), (some (45, false)), []⟩, ⟨(some 50), 52, .load false 1 (.t 49), (some (45, false)), []⟩, ⟨(some 51), 53, .call 87 [((.t 50), 0), ((.c (.i .i64 1)), 0), ((.c (.i .i64 4)), 0)], (some (45, false)), []⟩, ⟨(some 52), 54, .un .not (.t 51), (some (45, false)), []⟩, ⟨(some 53), 55, .pick (.t 45) (.c (.b true)) (.t 52), none, []⟩])
  (.cond (.t 53)
  (.seq (.ops [⟨(some 2), 4, .mv (.c (.b false)), none, []⟩])
  .ret)
  .skip))
  (.seq (.ops [⟨(some 5), 7, .mv (.c (.i .i64 0)), none, []⟩])
  (.block 2 (.loop (.seq (.seq (.ops [⟨(some 54), 56, .mv (.t 5), none, []⟩, ⟨(some 55), 57, .mv (.t 4), none, []⟩, ⟨(some 56), 58, .bin .lss (.t 54) (.t 55), none, []⟩])
  (.cond (.t 56)
  .skip
  (.exit 2)))
  (.seq (.block 3 (.seq (.draw [⟨(some 59), 61, .mv (.t 3), none, []⟩, ⟨(some 60), 62, .mv (.t 5), none, []⟩, ⟨(some 61), 63, .iaddr 2 (.t 59) (.t 60), none, []⟩, ⟨(some 62), 64, .faddr 0 1 (.t 61), none, []⟩, ⟨(some 63), 65, .load false 1 (.t 62), none, []⟩, ⟨(some 64), 66, .mv (.t 3), none, []⟩, ⟨(some 65), 67, .mv (.t 4), none, []⟩, ⟨(some 66), 68, .iaddr 2 (.t 64) (.t 65), none, []⟩, ⟨(some 67), 69, .faddr 0 1 (.t 66), none, []⟩, ⟨(some 68), 70, .load false 1 (.t 67), none, []⟩, ⟨(some 69), 71, .bin .eql (.t 63) (.t 68), none, []⟩])
  (.cond (.t 69)
  (.seq (.ops [⟨(some 2), 4, .mv (.c (.b false)), none, []⟩])
  .ret)
  .skip)))
  (.ops [⟨(some 57), 59, .mv (.t 5), none, []⟩, ⟨(some 58), 60, .bin .add (.t 57) (.c (.i .i64 1)), none, []⟩, ⟨(some 5), 7, .mv (.t 58), none, []⟩]))))))))
  (.ops [⟨(some 36), 38, .mv (.t 4), none, []⟩, ⟨(some 37), 39, .bin .add (.t 36) (.c (.i .i64 1)), none, []⟩, ⟨(some 4), 6, .mv (.t 37), none, []⟩]))))))
  (.seq (.ops [⟨(some 2), 4, .mv (.c (.b true)), none, []⟩])
  .ret)))))
theorem k84 : compCode Try.prog Try.f84.ntmps Try.f84.body.get! = some c84 := by kernel_rfl
theorem r84 : resTmps Try.prog Try.f84.results.toList = some [.tmp 2] := by kernel_rfl
/- impl.RegOk -/
def c91 : TCode := (.seq (.ops [⟨(some 1), 3, .box 3 (.t 0), none, []⟩, ⟨(some 2), 4, .mv (.c (.b false)), none, []⟩])
  (.seq (.ops [⟨(some 8), 10, .bslice 1 0 [(.s ⟨#[]⟩)] [], none, []⟩, ⟨(some 3), 5, .mv (.t 8), none, []⟩])
  (.seq (.seq (.ops [⟨(some 9), 11, .faddr 0 1 (.t 1), none, []⟩, ⟨(some 10), 12, .load false 1 (.t 9), none, []⟩, ⟨(some 11), 13, .faddr 1 1 (.t 1), none, []⟩, ⟨(some 12), 14, .load false 1 (.t 11), none, []⟩, ⟨(some 13), 15, .faddr 2 1 (.t 1), none, []⟩, ⟨(some 14), 16, .load false 1 (.t 13), none, []⟩, ⟨(some 15), 17, .bslice 1 3 [(.sl true 2 [])] [(0, (.t 10)), (1, (.t 12)), (2, (.t 14))], none, []⟩, ⟨(some 16), 18, .len false (.t 15), none, []⟩, ⟨(some 17), 19, .mv (.c (.i .i64 0)), none, []⟩])
  (.block 0 (.loop (.seq (.ops [⟨(some 18), 20, .bin .lss (.t 17) (.t 16), none, []⟩])
  (.seq (.cond (.t 18)
  .skip
  (.exit 0))
  (.seq (.block 1 (.seq (.ops [⟨(some 19), 21, .iaddr 1 (.t 15) (.t 17), none, []⟩, ⟨(some 20), 22, .load false 1 (.t 19), none, []⟩, ⟨(some 5), 7, .mv (.t 20), none, []⟩])
  (.seq (.seq (.ops [⟨(some 21), 23, .mv (.t 5), none, []⟩, ⟨(some 22), 24, .len false (.t 21), none, []⟩, ⟨(some 23), 25, .bin .gtr (.t 22) (.c (.i .i64 12)), none, []⟩])
  (.cond (.t 23)
  (.seq (.ops [⟨(some 2), 4, .mv (.c (.b false)), none, []⟩])
  .ret)
  .skip))
  (.seq (.ops [⟨(some 24), 26, .mv (.t 5), none, []⟩, ⟨(some 25), 27, .len false (.t 24), none, []⟩, ⟨(some 26), 28, .mv (.c (.i .i64 0)), none, []⟩])
  (.block 2 (.loop (.seq (.ops [⟨(some 27), 29, .bin .lss (.t 26) (.t 25), none, []⟩])
  (.seq (.cond (.t 27)
  .skip
  (.exit 2))
  (.seq (.block 3 (.seq (.ops [⟨(some 28), 30, .iaddr 2 (.t 24) (.t 26), none, []⟩, ⟨(some 29), 31, .load true 2 (.t 28), none, []⟩, ⟨(some 7), 9, .box 2 (.c (.ag [(.s ⟨#[]⟩), (.i .i64 0)])), none, []⟩, ⟨none, 1009003, .store 2 (.t 7) (.t 29), none, []⟩])
  (.seq (.seq (.ops [⟨(some 30), 32, .faddr 0 1 (.t 7), none, []⟩, ⟨(some 31), 33, .load false 1 (.t 30), none, []⟩, ⟨(some 32), 34, .call 149 [((.t 31), 0)], none, []⟩, ⟨(some 33), 35, .un .not (.t 32), none, []⟩, ⟨(some 34), 36, .mv (.t 33), none, []⟩, ⟨(some 35), 37, .mv (.t 3), (some (34, false)), []⟩, ⟨(some 36), 38, .faddr 0 1 (.t 7), (some (34, false)), []⟩, ⟨(some 37), 39, .load false 1 (.t 36), (some (34, false)), []⟩, ⟨(some 38), 40, .call 150 [((.t 35), 0), ((.t 37), 0)], (some (34, false)), []⟩, ⟨(some 39), 41, .pick (.t 34) (.c (.b true)) (.t 38), none, []⟩, ⟨(some 40), 42, .mv (.t 39), none, []⟩, ⟨(some 41), 43, .faddr 1 1 (.t 7), (some (40, false)), []⟩, ⟨(some 42), 44, .load false 1 (.t 41), (some (40, false)), []⟩, ⟨(some 43), 45, .call 151 [((.t 42), 0)], (some (40, false)), []⟩, ⟨(some 44), 46, .un .not (.t 43), (some (40, false)), []⟩, ⟨(some 45), 47, .pick (.t 40) (.c (.b true)) (.t 44), none, []⟩])
  (.cond (.t 45)
  (.seq (.ops [⟨(some 2), 4, .mv (.c (.b false)), none, []⟩])
  .ret)
  .skip))
  (.ops [⟨(some 46), 48, .mv (.t 3), none, []⟩, ⟨(some 47), 49, .faddr 0 1 (.t 7), none, []⟩, ⟨(some 48), 50, .load false 1 (.t 47), none, []⟩, ⟨(some 49), 51, .bslice 1 1 [(.s ⟨#[]⟩)] [(0, (.t 48))], none, []⟩, ⟨(some 50), 52, .app 1 16 (.t 46) (.t 49), none, []⟩, ⟨(some 3), 5, .mv (.t 50), none, []⟩]))))
  (.ops [⟨(some 51), 53, .bin .add (.t 26) (.c (.i .i64 1)), none, []⟩, ⟨(some 26), 28, .mv (.t 51), none, []⟩]))))))))))
  (.ops [⟨(some 52), 54, .bin .add (.t 17) (.c (.i .i64 1)), none, []⟩, ⟨(some 17), 19, .mv (.t 52), none, []⟩])))))))
  (.seq (.ops [⟨(some 2), 4, .mv (.c (.b true)), none, []⟩])
  .ret))))
theorem k91 : compCode Try.prog Try.f91.ntmps Try.f91.body.get! = some c91 := by kernel_rfl
theorem r91 : resTmps Try.prog Try.f91.results.toList = some [.tmp 2] := by kernel_rfl
/- slices.Index[[]string,string] -/
def c190 : TCode := (.seq (.ops [⟨(some 4), 6, .mv (.c (.i .i64 0)), none, []⟩])
  (.seq (.seq (.ops [⟨(some 6), 8, .mv (.t 0), none, []⟩, ⟨(some 7), 9, .len false (.t 6), none, []⟩, ⟨(some 8), 10, .mv (.c (.i .i64 0)), none, []⟩])
  (.block 0 (.loop (.seq (.ops [⟨(some 9), 11, .bin .lss (.t 8) (.t 7), none, []⟩])
  (.seq (.cond (.t 9)
  .skip
  (.exit 0))
  (.seq (.block 1 (.seq (.ops [⟨(some 10), 12, .mv (.t 8), none, []⟩, ⟨(some 5), 7, .mv (.t 10), none, []⟩])
  (.seq (.ops [⟨(some 11), 13, .mv (.t 1), none, []⟩, ⟨(some 12), 14, .mv (.t 0), none, []⟩, ⟨(some 13), 15, .mv (.t 5), none, []⟩, ⟨(some 14), 16, .iaddr 1 (.t 12) (.t 13), none, []⟩, ⟨(some 15), 17, .load false 1 (.t 14), none, []⟩, ⟨(some 16), 18, .bin .eql (.t 11) (.t 15), none, []⟩])
  (.cond (.t 16)
  (.seq (.ops [⟨(some 17), 19, .mv (.t 5), none, []⟩, ⟨(some 4), 6, .mv (.t 17), none, []⟩])
  .ret)
  .skip))))
  (.ops [⟨(some 18), 20, .bin .add (.t 8) (.c (.i .i64 1)), none, []⟩, ⟨(some 8), 10, .mv (.t 18), none, []⟩])))))))
  (.seq (.ops [⟨(some 4), 6, .mv (.c (.i .i64 (-1))), none, []⟩])
  .ret)))
theorem k190 : compCode Try.prog Try.f190.ntmps Try.f190.body.get! = some c190 := by kernel_rfl
theorem r190 : resTmps Try.prog Try.f190.results.toList = some [.tmp 4] := by kernel_rfl
/- slices.Contains[[]string,string] -/
def c150 : TCode := (.seq (.ops [⟨(some 4), 6, .mv (.c (.b false)), none, []⟩])
  (.seq (.ops [⟨(some 5), 7, .mv (.t 0), none, []⟩, ⟨(some 6), 8, .mv (.t 1), none, []⟩, ⟨(some 7), 9, .call 190 [((.t 5), 0), ((.t 6), 0)], none, []⟩, ⟨(some 8), 10, .bin .geq (.t 7) (.c (.i .i64 0)), none, []⟩, ⟨(some 4), 6, .mv (.t 8), none, []⟩])
  .ret))
theorem k150 : compCode Try.prog Try.f150.ntmps Try.f150.body.get! = some c150 := by kernel_rfl
theorem r150 : resTmps Try.prog Try.f150.results.toList = some [.tmp 4] := by kernel_rfl

/-- The place of the first that is meant, or -1. -/
def idxP {α : Type} (p : α → Bool) (l : List α) : Int := match l.findIdx? p with
  | some i => i
  | none => -1
theorem idxP_at {α : Type} {p : α → Bool} {l : List α} {x : α} {j : Nat} (h : l[j]? = some x) (hp : p x = true) (hn : ∀ y ∈ l.take j, p y = false) : idxP p l = j := by
  have hj := (List.getElem?_eq_some_iff.1 h).1
  have : l.findIdx? p = some j := by
    rw [List.findIdx?_eq_some_iff_getElem]
    refine ⟨hj, by rw [(List.getElem?_eq_some_iff.1 h).2]; exact hp, fun k hk => ?_⟩
    have := hn (l[k]) (by rw [List.mem_take_iff_getElem]; exact ⟨k, by omega, rfl⟩)
    simp [this]
  simp [idxP, this]
theorem idxP_none {α : Type} {p : α → Bool} {l : List α} (h : ∀ y ∈ l, p y = false) : idxP p l = -1 := by
  have : l.findIdx? p = none := by rw [List.findIdx?_eq_none_iff]; exact fun x hx => by simp [h x hx]
  simp [idxP, this]
theorem idxP_ge {α : Type} {p : α → Bool} {l : List α} : 0 ≤ idxP p l ↔ ∃ y ∈ l, p y = true := by
  unfold idxP
  split
  · rename_i i hi
    rw [List.findIdx?_eq_some_iff_getElem] at hi
    obtain ⟨h1, h2, _⟩ := hi
    exact ⟨fun _ => ⟨l[i], List.getElem_mem h1, h2⟩, fun _ => by omega⟩
  · rename_i hi
    rw [List.findIdx?_eq_none_iff] at hi
    exact ⟨fun h => by omega, fun ⟨y, h1, h2⟩ => by have := hi y h1; simp [h2] at this⟩
theorem w190 (l : List ByteArray) (x : ByteArray) (hl : l.length ≤ 2^40) : Contract Try.prog false 190 [.ro, .ro] [.sl false 1 (l.map sT), .s x] [.i .i64 (idxP (fun y => decide (x = y)) l)] [] := by
  refine mk_contract [] Try.func190 (c := Try.f190.body.get!) (by kernel_rfl) k190 r190 (of_decide_eq_true rfl) fun _ => ?_
  unfold c190; simp
  refine twp_for l.length (fun j s => s.t 0 = .sl false 1 (l.map sT) ∧ s.t 1 = .s x ∧ s.t 7 = .i .i64 l.length ∧ s.t 8 = .i .i64 j ∧ (∀ y ∈ l.take j, decide (x = y) = false) ∧ s.H = lk [(1, [])]) [] (by simp) ?_ ?_
  · simp
  · rintro j s hj ⟨q0, q1, q7, q8, hn, qH⟩
    rw [nf_of qH]
    simp [q0, q1, q7, q8]
    refine ⟨fun hlt => ?_, fun hge => ?_⟩
    · have hw : IntKind.i64.wrap (j + 1) = j + 1 := wrap_id (by omega) (by omega)
      obtain ⟨y, hy⟩ := get_some hlt
      simp [hy, hw, q0, q1, q7, q8]
      refine ⟨fun h => (idxP_at hy (by simp [h]) hn).symm, fun h => ⟨hlt, fun z hz => ?_⟩⟩
      rw [take_snoc hy, List.mem_append, List.mem_singleton] at hz
      rcases hz with hz | rfl
      · simpa using hn z hz
      · exact h
    · obtain rfl : j = l.length := by omega
      rw [List.take_of_length_le (Nat.le_refl _)] at hn
      exact (idxP_none hn).symm
theorem w150 (l : List ByteArray) (x : ByteArray) (hl : l.length ≤ 2^40) : Contract Try.prog false 150 [.ro, .ro] [.sl false 1 (l.map sT), .s x] [.b (decide (x ∈ l))] [] := by
  refine mk_contract [] Try.func150 (c := Try.f150.body.get!) (by kernel_rfl) k150 r150 (of_decide_eq_true rfl) fun _ => ?_
  unfold c150; simp
  refine callW_ms [.ro, .ro] ?_
  simp
  refine callX_of (w190 l x hl) (by simp) ?_
  simp [idxP_ge]

def goodD (d : ByteArray × Int) : Prop := nameP d.1 ∧ 1 ≤ d.2 ∧ d.2 ≤ 4
/-- What is right of all declarations. -/
def okPre (l : List (ByteArray × Int)) : Prop := (∀ d ∈ l, goodD d) ∧ (l.map (·.1)).Nodup
noncomputable instance okPreD (l : List (ByteArray × Int)) : Decidable (okPre l) := Classical.propDecidable _
def RegOkP (c r e : List (ByteArray × Int)) : Prop := (c.length ≤ 12 ∧ r.length ≤ 12 ∧ e.length ≤ 12) ∧ okPre (c ++ r ++ e)
noncomputable instance (c r e : List (ByteArray × Int)) : Decidable (RegOkP c r e) := Classical.propDecidable _
theorem okPre_snoc {l : List (ByteArray × Int)} {d : ByteArray × Int} : okPre (l ++ [d]) ↔ okPre l ∧ goodD d ∧ d.1 ∉ l.map (·.1) := by
  unfold okPre
  simp only [List.mem_append, List.mem_singleton, List.map_append, List.map_cons, List.map_nil, List.nodup_append, List.nodup_cons]
  constructor
  · rintro ⟨h1, h2, _, h3⟩
    exact ⟨⟨fun y hy => h1 y (.inl hy), h2⟩, h1 d (.inr rfl), fun hx => h3 _ hx _ (by simp) rfl⟩
  · rintro ⟨⟨h1, h2⟩, h3, h4⟩
    refine ⟨fun y hy => ?_, h2, by simp, fun y hy z hz => ?_⟩
    · rcases hy with hy | rfl
      · exact h1 y hy
      · exact h3
    · subst hz; rintro rfl; exact h4 hy
theorem okPre_take {l : List (ByteArray × Int)} (h : okPre l) (j : Nat) : okPre (l.take j) :=
  ⟨fun x hx => h.1 x (List.mem_of_mem_take hx), by rw [List.map_take]; exact h.2.sublist (List.take_sublist j _)⟩

theorem w84 (c r e : List (ByteArray × Int)) (hc : c.length ≤ 2^40) (hr : r.length ≤ 2^40) (he : e.length ≤ 2^40) : Contract Try.prog false 84 [.ro] [regR c r e] [.b (decide (RegOkP c r e))] [] := by
  refine mk_contract [] Try.func84 (c := Try.f84.body.get!) (by kernel_rfl) k84 r84 (of_decide_eq_true rfl) fun _ => ?_
  unfold c84; unfold regR; simp
  by_cases h1 : (12 : Int) < c.length
  · have : ¬ RegOkP c r e := fun h => by have := h.1.1; omega
    simp [h1, this]
  by_cases h2 : (12 : Int) < r.length
  · have : ¬ RegOkP c r e := fun h => by have := h.1.2.1; omega
    simp [h1, h2, this]
  by_cases h3 : (12 : Int) < e.length
  · have : ¬ RegOkP c r e := fun h => by have := h.1.2.2; omega
    simp [h1, h2, h3, this]
  simp [h1, h2, h3]
  refine ⟨by omega, by omega, by omega, ?_⟩
  obtain ⟨L, hL⟩ : ∃ L, L = c ++ r ++ e := ⟨_, rfl⟩
  have hLl : L.length ≤ 36 := by subst hL; simp; omega
  have hP : RegOkP c r e ↔ okPre L := by subst hL; exact ⟨fun h => h.2, fun h => ⟨by omega, h⟩⟩
  rw [show decide (RegOkP c r e) = decide (okPre L) from decide_eq_decide.2 hP]
  refine twp_for L.length (fun j s => s.t 3 = .rf [(33, 0)] 0 L.length ∧ s.t 4 = .i .i64 j ∧ okPre (L.take j) ∧ s.H = lk [(1, []), (3, [.po true [.sl false 2 (c.map dT), .sl false 2 (r.map dT), .sl false 2 (e.map dT)]]), (33, [.sl true 2 (L.map dT)])]) [24, 27, 30] (by simp) ?_ ?_
  · simp [hL, okPre, Nat.add_assoc]
  · rintro j s hj ⟨q3, q4, hn, qH⟩
    rw [nf_of qH]
    simp [q3, q4]
    refine ⟨fun hlt => ?_, fun hge => ?_⟩
    · have hw : IntKind.i64.wrap (j + 1) = j + 1 := wrap_id (by omega) (by omega)
      obtain ⟨x, hx⟩ := get_some hlt
      simp [hx, hw, q3, q4]
      have hbad : okPre L → goodD x := fun h => h.1 x (List.mem_of_getElem? hx)
      refine ⟨hlt, ?_⟩
      by_cases hn1 : nameP x.1
      · refine callW_ms [.ro] ?_
        simp
        refine callX_of ((w145 x.1).t hn1) (by simp) ?_
        simp [hw, q3, q4, hx]
        refine ⟨hlt, ?_⟩
        by_cases hk : 1 ≤ x.2 ∧ x.2 ≤ 4
        · refine callW_ms [.ro, .ro, .ro] ?_
          simp
          refine callX_of ((w87 x.2 1 4).t hk) (by simp) ?_
          simp [hw, q3, q4, hx]
          refine twp_for j (fun i s2 => s2.t 3 = .rf [(33, 0)] 0 L.length ∧ s2.t 4 = .i .i64 j ∧ s2.t 5 = .i .i64 i ∧ (∀ d ∈ L.take i, d.1 ≠ x.1) ∧ s2.H = lk [(1, []), (3, [.po true [.sl false 2 (c.map dT), .sl false 2 (r.map dT), .sl false 2 (e.map dT)]]), (33, [.sl true 2 (L.map dT)])]) [] (by simp) ?_ ?_
          · simp [q3, q4]
          · rintro i s2 hi ⟨p3, p4, p5, hd, pH⟩
            rw [nf_of pH]
            simp [p3, p4, p5]
            refine ⟨fun hlt2 => ?_, fun hge2 => ?_⟩
            · have hwi : IntKind.i64.wrap (i + 1) = i + 1 := wrap_id (by omega) (by omega)
              obtain ⟨y, hy⟩ := get_some (l := L) (j := i) (by omega)
              simp [hy, hwi, hx, p3, p4, p5]
              refine ⟨by omega, hlt, ?_⟩
              refine ⟨fun h h2 => ?_, fun h => ⟨hlt2, fun a b hab => ?_⟩⟩
              · have h3 := okPre_take h2 (j + 1)
                rw [take_snoc hx, okPre_snoc] at h3
                refine h3.2.2 (List.mem_map.2 ⟨y, ?_, h⟩)
                rw [List.mem_take_iff_getElem]
                exact ⟨i, by omega, (List.getElem?_eq_some_iff.1 hy).2⟩
              · rw [take_snoc hy, List.mem_append, List.mem_singleton] at hab
                rcases hab with hab | hab
                · exact hd _ hab
                · rw [show a = y.1 by rw [← hab]]; exact h
            · obtain rfl : i = j := by omega
              simp [p3, p4, p5, hw]
              refine ⟨hlt, ?_⟩
              rw [take_snoc hx, okPre_snoc]
              refine ⟨hn, ⟨hn1, hk⟩, fun h => ?_⟩
              obtain ⟨d, hd1, hd2⟩ := List.mem_map.1 h
              exact hd d hd1 hd2
        · refine callW_ms [.ro, .ro, .ro] ?_
          simp
          refine callX_of ((w87 x.2 1 4).f hk) (by simp) ?_
          simp [hw, q3, q4, hx]
          intro h; exact hk (hbad h).2
      · refine callW_ms [.ro] ?_
        simp
        refine callX_of ((w145 x.1).f hn1) (by simp) ?_
        simp [hw, q3, q4, hx]
        intro h; exact hn1 (hbad h).1
    · obtain rfl : j = L.length := by omega
      rw [List.take_of_length_le (Nat.le_refl _)] at hn
      exact hn

theorem okPre_flat {c r e : List (ByteArray × Int)} : RegOkP c r e ↔ (∀ l ∈ [c, r, e], l.length ≤ 12) ∧ okPre ([c, r, e].flatten) := by
  unfold RegOkP; simp [List.append_assoc]
theorem flat_take {α : Type} {Ls : List (List α)} {j : Nat} {l : List α} (h : Ls[j]? = some l) : (Ls.take (j + 1)).flatten = (Ls.take j).flatten ++ l := by
  rw [take_snoc h]; simp
theorem okPre_left {a b : List (ByteArray × Int)} (h : okPre (a ++ b)) : okPre a := by
  have := okPre_take h a.length; simpa using this
theorem flat_left {α : Type} (Ls : List (List α)) (j : Nat) : ∃ b, Ls.flatten = (Ls.take j).flatten ++ b := ⟨(Ls.drop j).flatten, by rw [← List.flatten_append, List.take_append_drop]⟩
def namesB (Ls : List (List (ByteArray × Int))) (j : Nat) (l : List (ByteArray × Int)) (i : Nat) : List ByteArray := ((Ls.take j).flatten ++ l.take i).map (·.1)
theorem w91 (c r e : List (ByteArray × Int)) (hc : c.length ≤ 2^40) (hr : r.length ≤ 2^40) (he : e.length ≤ 2^40) (hs : ∀ l ∈ [c, r, e], ∀ d ∈ l, d.1.size ≤ 2^40) : Contract Try.prog false 91 [.ro] [regR c r e] [.b (decide (RegOkP c r e))] [] := by
  refine mk_contract [] Try.func91 (c := Try.f91.body.get!) (by kernel_rfl) k91 r91 (of_decide_eq_true rfl) fun _ => ?_
  unfold c91; unfold regR; simp
  have hP := okPre_flat (c := c) (r := r) (e := e)
  obtain ⟨Ls, hLs⟩ : ∃ Ls, Ls = [c, r, e] := ⟨_, rfl⟩
  have hl3 : Ls.length = 3 := by subst hLs; rfl
  have hlb : ∀ l ∈ Ls, l.length ≤ 2^40 := by subst hLs; simp; omega
  rw [← hLs] at hP hs
  refine twp_forR 3 (fun j s => s.t 3 = .rf [(52, 0)] 0 (namesB Ls j [] 0).length ∧ s.t 15 = .rf [(17, 0)] 0 3 ∧ s.t 16 = .i .i64 3 ∧ s.t 17 = .i .i64 j ∧ (∀ l ∈ Ls.take j, l.length ≤ 12) ∧ okPre (Ls.take j).flatten ∧ (namesB Ls j [] 0).length ≤ 12 * j ∧ s.H = lk [(1, []), (3, [.po true [.sl false 2 (c.map dT), .sl false 2 (r.map dT), .sl false 2 (e.map dT)]]), (52, [.sl true 1 ((namesB Ls j [] 0).map sT)]), (17, [.sl true 1 (Ls.map fun l => [.sl false 2 (l.map dT)])])]) [] [(10, 52)] (by simp) (by simp) ?_ ?_
  · simp [hLs, okPre, namesB]
  · rintro j s hj ⟨q3, q15, q16, q17, hlen, hn, hnl, qH⟩
    rw [nf_of qH]
    simp [q3, q15, q16, q17]
    refine ⟨fun hlt => ?_, fun hge => ?_⟩
    · have hw : IntKind.i64.wrap (j + 1) = j + 1 := wrap_id (by omega) (by omega)
      obtain ⟨l, hl⟩ := get_some (l := Ls) (j := j) (by omega)
      have hlm := List.mem_of_getElem? hl
      have hl40 := hlb l hlm
      simp [hl, hw, q3, q15, q16, q17]
      by_cases h12 : (12 : Int) < l.length
      · have : ¬ RegOkP c r e := fun h => by have := (hP.1 h).1 l hlm; omega
        simp [h12, this]
        omega
      · simp [h12]
        refine ⟨by omega, fun _ => ?_⟩
        refine twp_for l.length (fun i s2 => s2.t 3 = .rf [(52, 0)] 0 (namesB Ls j l i).length ∧ s2.t 15 = .rf [(17, 0)] 0 3 ∧ s2.t 16 = .i .i64 3 ∧ s2.t 17 = .i .i64 j ∧ s2.t 24 = .sl false 2 (l.map dT) ∧ s2.t 25 = .i .i64 l.length ∧ s2.t 26 = .i .i64 i ∧ okPre ((Ls.take j).flatten ++ l.take i) ∧ (namesB Ls j l i).length ≤ 12 * j + i ∧ s2.H = lk [(1, []), (3, [.po true [.sl false 2 (c.map dT), .sl false 2 (r.map dT), .sl false 2 (e.map dT)]]), (52, [.sl true 1 ((namesB Ls j l i).map sT)]), (17, [.sl true 1 (Ls.map fun l => [.sl false 2 (l.map dT)])])]) [9, 51] (by simp) ?_ ?_
        · have e : namesB Ls j l 0 = namesB Ls j [] 0 := by simp [namesB]
          simp [q3, q15, q16, q17, hn, hnl, e]
        · rintro i s2 hi ⟨p3, p15, p16, p17, p24, p25, p26, hni, hnli, pH⟩
          rw [nf_of pH]
          simp [p3, p15, p16, p17, p24, p25, p26]
          refine ⟨fun hlt2 => ?_, fun hge2 => ?_⟩
          · have hwi : IntKind.i64.wrap (i + 1) = i + 1 := wrap_id (by omega) (by omega)
            obtain ⟨d, hd⟩ := get_some hlt2
            have hdm := List.mem_of_getElem? hd
            have hall : RegOkP c r e → okPre ((Ls.take j).flatten ++ l.take i ++ [d]) := fun h => by
              have h2 := (hP.1 h).2
              obtain ⟨b, hb⟩ := flat_left Ls (j + 1)
              rw [hb, flat_take hl] at h2
              have h3 := okPre_left h2
              rw [← List.take_append_drop (i + 1) l, take_snoc hd] at h3
              rw [← List.append_assoc, ← List.append_assoc] at h3
              exact okPre_left h3
            rw [okPre_snoc] at hall
            have hmem : (d.1 ∈ ((Ls.take j).flatten ++ l.take i).map (·.1)) ↔ d.1 ∈ namesB Ls j l i := Iff.rfl
            rw [hmem] at hall
            simp [hd, hwi, p3, p15, p16, p17, p24, p25, p26]
            by_cases hn1 : nameP d.1
            · refine callW_ms [.ro] ?_
              simp
              refine callX_of ((w149 d.1 (hs l hlm d hdm)).t hn1) (by simp) ?_
              simp [hwi, p3, p15, p16, p17, p24, p25, p26]
              by_cases hm : d.1 ∈ namesB Ls j l i
              · refine callW_ms [.ro, .ro] ?_
                simp
                refine callX_of ((w150 (namesB Ls j l i) d.1 (by omega)).t hm) (by simp) ?_
                simp [hwi, p3, p15, p16, p17, p24, p25, p26]
                intro h; exact (hall h).2.2 hm
              · refine callW_ms [.ro, .ro] ?_
                simp
                refine callX_of ((w150 (namesB Ls j l i) d.1 (by omega)).f hm) (by simp) ?_
                simp [hwi, p3, p15, p16, p17, p24, p25, p26]
                by_cases hk : 1 ≤ d.2 ∧ d.2 ≤ 4
                · refine callW_ms [.ro] ?_
                  simp
                  refine callX_of ((w151 d.2).t hk) (by simp) ?_
                  simp [hwi, p3, p15, p16, p17, p24, p25, p26]
                  have e1 : namesB Ls j l (i + 1) = namesB Ls j l i ++ [d.1] := by
                    unfold namesB; rw [take_snoc hd, ← List.append_assoc, List.map_append]; rfl
                  refine ⟨by omega, hlt2, by rw [e1]; simp, ?_, by rw [e1]; simp; omega, by rw [e1]; simp⟩
                  rw [take_snoc hd, ← List.append_assoc, okPre_snoc]
                  exact ⟨hni, ⟨hn1, hk⟩, hm⟩
                · refine callW_ms [.ro] ?_
                  simp
                  refine callX_of ((w151 d.2).f hk) (by simp) ?_
                  simp [hwi, p3, p15, p16, p17, p24, p25, p26]
                  intro h; exact hk (hall h).2.1.2
            · refine callW_ms [.ro] ?_
              simp
              refine callX_of ((w149 d.1 (hs l hlm d hdm)).f hn1) (by simp) ?_
              simp [hwi, p3, p15, p16, p17, p24, p25, p26]
              intro h; exact hn1 (hall h).2.1.1
          · obtain rfl : i = l.length := by omega
            simp [p3, p15, p16, p17, p24, p25, p26, hw]
            have e1 : namesB Ls (j + 1) [] 0 = namesB Ls j l l.length := by
              unfold namesB; rw [flat_take hl]; simp
            rw [List.take_of_length_le (Nat.le_refl _)] at hni
            refine ⟨by omega, by rw [e1], fun l' hl' => ?_, by rw [flat_take hl]; exact hni, by rw [e1]; omega, by rw [e1]⟩
            rw [take_snoc hl, List.mem_append, List.mem_singleton] at hl'
            rcases hl' with hl' | rfl
            · exact hlen l' hl'
            · omega
    · obtain rfl : j = 3 := by omega
      rw [← hl3, List.take_length] at hn hlen
      exact hP.2 ⟨hlen, hn⟩
theorem okD_all {c r e : List (ByteArray × Int)} {k : Nat} (h : okD k c ∧ okD k r ∧ okD k e) : ∀ l ∈ [c, r, e], ∀ d ∈ l, d.1.size ≤ k := by
  intro l hl d hd
  simp only [List.mem_cons, List.not_mem_nil, or_false] at hl
  rcases hl with rfl | rfl | rfl
  · exact h.1.2 d hd
  · exact h.2.1.2 d hd
  · exact h.2.2.2 d hd
theorem okD_mono {k k' : Nat} {l : List (ByteArray × Int)} (h : okD k l) (hk : k ≤ k') : okD k' l := ⟨Nat.le_trans h.1 hk, fun d hd => Nat.le_trans (h.2 d hd) hk⟩
end Go.Proofs.YtmedelmfkciblaaT

/- EffWithin. -/
namespace Go.Proofs.YtmedelmfkciblaaT
set_option linter.unusedVariables false
set_option linter.unusedSimpArgs false
open Go

/- (*impl.Effect).lists -/
def c73 : TCode := (.seq (.ops [⟨(some 2), 4, .mv (.c (.sl true 1 [])), none, []⟩, ⟨(some 3), 5, .mv (.c (.sl true 1 [])), none, []⟩, ⟨(some 4), 6, .mv (.c (.sl true 1 [])), none, []⟩])
  (.seq (.draw [⟨(some 5), 7, .mv (.t 0), none, []⟩, ⟨(some 6), 8, .nilck (.t 5), none, []⟩, ⟨(some 7), 9, .faddr 0 1 (.t 6), none, []⟩, ⟨(some 8), 10, .load false 1 (.t 7), none, []⟩, ⟨(some 9), 11, .mv (.t 0), none, []⟩, ⟨(some 10), 12, .nilck (.t 9), none, []⟩, ⟨(some 11), 13, .faddr 1 1 (.t 10), none, []⟩, ⟨(some 12), 14, .load false 1 (.t 11), none, []⟩, ⟨(some 13), 15, .mv (.t 0), none, []⟩, ⟨(some 14), 16, .nilck (.t 13), none, []⟩, ⟨(some 15), 17, .faddr 2 1 (.t 14), none, []⟩, ⟨(some 16), 18, .load false 1 (.t 15), none, []⟩, ⟨(some 17), 19, .mv (.t 0), none, []⟩, ⟨(some 18), 20, .nilck (.t 17), none, []⟩, ⟨(some 19), 21, .faddr 7 1 (.t 18), none, []⟩, ⟨(some 20), 22, .load false 1 (.t 19), none, []⟩, ⟨(some 21), 23, .bslice 1 4 [(.sl true 1 [])] [(0, (.t 8)), (1, (.t 12)), (2, (.t 16)), (3, (.t 20))], none, []⟩, ⟨(some 22), 24, .mv (.t 0), none, [16]⟩, ⟨(some 23), 25, .nilck (.t 22), none, [16]⟩, ⟨(some 24), 26, .faddr 3 1 (.t 23), none, [16]⟩, ⟨(some 25), 27, .load false 1 (.t 24), none, [16]⟩, ⟨(some 26), 28, .mv (.t 0), none, [16]⟩, ⟨(some 27), 29, .nilck (.t 26), none, [16]⟩, ⟨(some 28), 30, .faddr 4 1 (.t 27), none, [16]⟩, ⟨(some 29), 31, .load false 1 (.t 28), none, [16]⟩, ⟨(some 30), 32, .bslice 1 2 [(.sl true 1 [])] [(0, (.t 25)), (1, (.t 29))], none, [0, 1, 2, 3, 4, 5, 6, 7, 8, 9, 10, 11, 12, 13, 14, 15, 16]⟩, ⟨(some 31), 33, .mv (.t 0), none, [16, 25]⟩, ⟨(some 32), 34, .nilck (.t 31), none, [16, 25]⟩, ⟨(some 33), 35, .faddr 5 1 (.t 32), none, [16, 25]⟩, ⟨(some 34), 36, .load false 1 (.t 33), none, [16, 25]⟩, ⟨(some 35), 37, .mv (.t 0), none, [16, 25]⟩, ⟨(some 36), 38, .nilck (.t 35), none, [16, 25]⟩, ⟨(some 37), 39, .faddr 6 1 (.t 36), none, [16, 25]⟩, ⟨(some 38), 40, .load false 1 (.t 37), none, [16, 25]⟩, ⟨(some 39), 41, .bslice 1 2 [(.sl true 1 [])] [(0, (.t 34)), (1, (.t 38))], none, [0, 1, 2, 3, 4, 5, 6, 7, 8, 9, 10, 11, 12, 13, 14, 15, 16, 17, 18, 19, 20, 21, 22, 23, 24, 25]⟩, ⟨(some 2), 4, .mv (.t 21), none, [25, 34]⟩, ⟨(some 3), 5, .mv (.t 30), none, [34]⟩, ⟨(some 4), 6, .mv (.t 39), none, []⟩])
  .ret))
theorem k73 : compCode Try.prog Try.f73.ntmps Try.f73.body.get! = some c73 := by kernel_rfl
theorem r73 : resTmps Try.prog Try.f73.results.toList = some [.tmp 2, .tmp 3, .tmp 4] := by kernel_rfl
/- slices.Concat[[][]int,[]int] -/
def c74 : TCode := (.seq (.ops [⟨(some 2), 4, .mv (.c (.sl true 1 [])), none, []⟩])
  (.seq (.ops [⟨(some 3), 5, .mv (.c (.i .i64 0)), none, []⟩])
  (.seq (.seq (.ops [⟨(some 9), 11, .mv (.t 0), none, []⟩, ⟨(some 10), 12, .len false (.t 9), none, []⟩, ⟨(some 11), 13, .mv (.c (.i .i64 0)), none, []⟩])
  (.block 0 (.loop (.seq (.ops [⟨(some 12), 14, .bin .lss (.t 11) (.t 10), none, []⟩])
  (.seq (.cond (.t 12)
  .skip
  (.exit 0))
  (.seq (.block 1 (.seq (.ops [⟨(some 13), 15, .iaddr 1 (.t 9) (.t 11), none, []⟩, ⟨(some 14), 16, .load false 1 (.t 13), none, []⟩, ⟨(some 5), 7, .mv (.t 14), none, []⟩])
  (.seq (.ops [⟨(some 15), 17, .mv (.t 3), none, []⟩, ⟨(some 16), 18, .mv (.t 5), none, []⟩, ⟨(some 17), 19, .len false (.t 16), none, []⟩, ⟨(some 18), 20, .bin .add (.t 15) (.t 17), none, []⟩, ⟨(some 3), 5, .mv (.t 18), none, []⟩])
  (.seq (.ops [⟨(some 19), 21, .mv (.t 3), none, []⟩, ⟨(some 20), 22, .bin .lss (.t 19) (.c (.i .i64 0)), none, []⟩])
  (.cond (.t 20)
  (.ops [⟨(some 21), 23, .callv (.c .junk) [], none, []⟩, ⟨none, 1007001, .callv (.c .junk) [], none, []⟩])
  .skip)))))
  (.ops [⟨(some 22), 24, .bin .add (.t 11) (.c (.i .i64 1)), none, []⟩, ⟨(some 11), 13, .mv (.t 22), none, []⟩])))))))
  (.seq (.ops [⟨(some 23), 25, .mv (.t 3), none, []⟩, ⟨(some 24), 26, .call 133 [((.c (.sl true 1 [])), 0), ((.t 23), 0)], none, []⟩, ⟨(some 6), 8, .mv (.t 24), none, []⟩])
  (.seq (.seq (.ops [⟨(some 25), 27, .mv (.t 0), none, []⟩, ⟨(some 26), 28, .len false (.t 25), none, []⟩, ⟨(some 27), 29, .mv (.c (.i .i64 0)), none, []⟩])
  (.block 2 (.loop (.seq (.ops [⟨(some 28), 30, .bin .lss (.t 27) (.t 26), none, []⟩])
  (.seq (.cond (.t 28)
  .skip
  (.exit 2))
  (.seq (.block 3 (.seq (.ops [⟨(some 29), 31, .iaddr 1 (.t 25) (.t 27), none, []⟩, ⟨(some 30), 32, .load false 1 (.t 29), none, []⟩, ⟨(some 8), 10, .mv (.t 30), none, []⟩])
  (.ops [⟨(some 31), 33, .mv (.t 6), none, []⟩, ⟨(some 32), 34, .mv (.t 8), none, []⟩, ⟨(some 33), 35, .app 1 24 (.t 31) (.t 32), none, []⟩, ⟨(some 6), 8, .mv (.t 33), none, []⟩])))
  (.ops [⟨(some 34), 36, .bin .add (.t 27) (.c (.i .i64 1)), none, []⟩, ⟨(some 27), 29, .mv (.t 34), none, []⟩])))))))
  (.seq (.ops [⟨(some 35), 37, .mv (.t 6), none, []⟩, ⟨(some 2), 4, .mv (.t 35), none, []⟩])
  .ret))))))
theorem k74 : compCode Try.prog Try.f74.ntmps Try.f74.body.get! = some c74 := by kernel_rfl
theorem r74 : resTmps Try.prog Try.f74.results.toList = some [.tmp 2] := by kernel_rfl
/- impl.isIn$1 -/
def c134 : TCode := (.seq (.ops [⟨(some 3), 5, .mv (.c (.b false)), none, []⟩])
  (.seq (.ops [⟨(some 4), 6, .load false 1 (.t 1), none, []⟩, ⟨(some 5), 7, .mv (.t 0), none, []⟩, ⟨(some 6), 8, .call 106 [((.t 4), 0), ((.t 5), 0)], none, []⟩, ⟨(some 7), 9, .un .not (.t 6), none, []⟩, ⟨(some 3), 5, .mv (.t 7), none, []⟩])
  .ret))
theorem k134 : compCode Try.prog Try.f134.ntmps Try.f134.body.get! = some c134 := by kernel_rfl
theorem r134 : resTmps Try.prog Try.f134.results.toList = some [.tmp 3] := by kernel_rfl
/- slices.IndexFunc[[]int,int] -/
def c160 : TCode := (.seq (.ops [⟨(some 4), 6, .mv (.c (.i .i64 0)), none, []⟩])
  (.seq (.seq (.ops [⟨(some 6), 8, .mv (.t 0), none, []⟩, ⟨(some 7), 9, .len false (.t 6), none, []⟩, ⟨(some 8), 10, .mv (.c (.i .i64 0)), none, []⟩])
  (.block 0 (.loop (.seq (.ops [⟨(some 9), 11, .bin .lss (.t 8) (.t 7), none, []⟩])
  (.seq (.cond (.t 9)
  .skip
  (.exit 0))
  (.seq (.block 1 (.seq (.ops [⟨(some 10), 12, .mv (.t 8), none, []⟩, ⟨(some 5), 7, .mv (.t 10), none, []⟩])
  (.seq (.ops [⟨(some 11), 13, .mv (.t 1), none, []⟩, ⟨(some 12), 14, .mv (.t 0), none, []⟩, ⟨(some 13), 15, .mv (.t 5), none, []⟩, ⟨(some 14), 16, .iaddr 1 (.t 12) (.t 13), none, []⟩, ⟨(some 15), 17, .load false 1 (.t 14), none, []⟩, ⟨(some 16), 18, .callv (.t 11) [((.t 15), 0)], none, []⟩])
  (.cond (.t 16)
  (.seq (.ops [⟨(some 17), 19, .mv (.t 5), none, []⟩, ⟨(some 4), 6, .mv (.t 17), none, []⟩])
  .ret)
  .skip))))
  (.ops [⟨(some 18), 20, .bin .add (.t 8) (.c (.i .i64 1)), none, []⟩, ⟨(some 8), 10, .mv (.t 18), none, []⟩])))))))
  (.seq (.ops [⟨(some 4), 6, .mv (.c (.i .i64 (-1))), none, []⟩])
  .ret)))
theorem k160 : compCode Try.prog Try.f160.ntmps Try.f160.body.get! = some c160 := by kernel_rfl
theorem r160 : resTmps Try.prog Try.f160.results.toList = some [.tmp 4] := by kernel_rfl
/- slices.ContainsFunc[[]int,int] -/
def c104 : TCode := (.seq (.ops [⟨(some 4), 6, .mv (.c (.b false)), none, []⟩])
  (.seq (.ops [⟨(some 5), 7, .mv (.t 0), none, []⟩, ⟨(some 6), 8, .mv (.t 1), none, []⟩, ⟨(some 7), 9, .call 160 [((.t 5), 0), ((.t 6), 0)], none, []⟩, ⟨(some 8), 10, .bin .geq (.t 7) (.c (.i .i64 0)), none, []⟩, ⟨(some 4), 6, .mv (.t 8), none, []⟩])
  .ret))
theorem k104 : compCode Try.prog Try.f104.ntmps Try.f104.body.get! = some c104 := by kernel_rfl
theorem r104 : resTmps Try.prog Try.f104.results.toList = some [.tmp 4] := by kernel_rfl
/- impl.isIn -/
def c75 : TCode := (.seq (.ops [⟨(some 3), 5, .box 1 (.t 1), none, []⟩, ⟨(some 4), 6, .mv (.c (.b false)), none, []⟩])
  (.seq (.ops [⟨(some 5), 7, .mv (.t 0), none, []⟩, ⟨(some 6), 8, .mkfn 134 [(.t 3)], none, []⟩, ⟨(some 7), 9, .call 104 [((.t 5), 0), ((.t 6), 0)], none, []⟩, ⟨(some 8), 10, .un .not (.t 7), none, []⟩, ⟨(some 4), 6, .mv (.t 8), none, []⟩])
  .ret))
theorem k75 : compCode Try.prog Try.f75.ntmps Try.f75.body.get! = some c75 := by kernel_rfl
theorem r75 : resTmps Try.prog Try.f75.results.toList = some [.tmp 4] := by kernel_rfl
/- impl.EffWithin -/
def c22 : TCode := (.seq (.ops [⟨(some 2), 4, .box 10 (.t 0), none, []⟩, ⟨(some 3), 5, .box 10 (.t 1), none, []⟩, ⟨(some 4), 6, .mv (.c (.b false)), none, []⟩])
  (.seq (.ops [⟨(some 16), 18, .call 73 [((.t 2), 0)], none, []⟩, ⟨(some 15), 17, .mv (.t 16), none, []⟩, ⟨(some 17), 19, .ext 0 (.t 15), none, []⟩, ⟨(some 18), 20, .ext 1 (.t 15), none, []⟩, ⟨(some 19), 21, .ext 2 (.t 15), none, []⟩, ⟨(some 5), 7, .mv (.t 17), none, []⟩, ⟨(some 6), 8, .mv (.t 18), none, []⟩, ⟨(some 7), 9, .mv (.t 19), none, []⟩])
  (.seq (.ops [⟨(some 21), 23, .call 73 [((.t 3), 0)], none, []⟩, ⟨(some 20), 22, .mv (.t 21), none, []⟩, ⟨(some 22), 24, .ext 0 (.t 20), none, []⟩, ⟨(some 23), 25, .ext 1 (.t 20), none, []⟩, ⟨(some 24), 26, .ext 2 (.t 20), none, []⟩, ⟨(some 8), 10, .mv (.t 22), none, []⟩, ⟨(some 9), 11, .mv (.t 23), none, []⟩, ⟨(some 10), 12, .mv (.t 24), none, []⟩])
  (.seq (.ops [⟨(some 25), 27, .mv (.t 5), none, []⟩, ⟨(some 26), 28, .mv (.t 6), none, []⟩, ⟨(some 27), 29, .mv (.t 7), none, []⟩, ⟨(some 28), 30, .bslice 1 3 [(.sl true 1 [])] [(0, (.t 25)), (1, (.t 26)), (2, (.t 27))], none, []⟩, ⟨(some 29), 31, .call 74 [((.t 28), 0)], none, []⟩, ⟨(some 30), 32, .mv (.t 8), none, []⟩, ⟨(some 31), 33, .mv (.t 9), none, []⟩, ⟨(some 32), 34, .mv (.t 10), none, []⟩, ⟨(some 33), 35, .bslice 1 3 [(.sl true 1 [])] [(0, (.t 30)), (1, (.t 31)), (2, (.t 32))], none, []⟩, ⟨(some 34), 36, .call 74 [((.t 33), 0)], none, []⟩, ⟨(some 11), 13, .mv (.t 29), none, []⟩, ⟨(some 12), 14, .mv (.t 34), none, []⟩])
  (.seq (.seq (.ops [⟨(some 35), 37, .mv (.t 11), none, []⟩, ⟨(some 36), 38, .len false (.t 35), none, []⟩, ⟨(some 37), 39, .mv (.c (.i .i64 0)), none, []⟩])
  (.block 0 (.loop (.seq (.ops [⟨(some 38), 40, .bin .lss (.t 37) (.t 36), none, []⟩])
  (.seq (.cond (.t 38)
  .skip
  (.exit 0))
  (.seq (.block 1 (.seq (.ops [⟨(some 39), 41, .mv (.t 37), none, []⟩, ⟨(some 40), 42, .iaddr 1 (.t 35) (.t 37), none, []⟩, ⟨(some 41), 43, .load false 1 (.t 40), none, []⟩, ⟨(some 13), 15, .mv (.t 39), none, []⟩, ⟨(some 14), 16, .mv (.t 41), none, []⟩])
  (.seq (.ops [⟨(some 42), 44, .mv (.t 14), none, []⟩, ⟨(some 43), 45, .mv (.t 12), none, []⟩, ⟨(some 44), 46, .mv (.t 13), none, []⟩, ⟨(some 45), 47, .iaddr 1 (.t 43) (.t 44), none, []⟩, ⟨(some 46), 48, .load false 1 (.t 45), none, []⟩, ⟨(some 47), 49, .call 75 [((.t 42), 0), ((.t 46), 0)], none, []⟩, ⟨(some 48), 50, .un .not (.t 47), none, []⟩])
  (.cond (.t 48)
  (.seq (.ops [⟨(some 4), 6, .mv (.c (.b false)), none, []⟩])
  .ret)
  .skip))))
  (.ops [⟨(some 49), 51, .bin .add (.t 37) (.c (.i .i64 1)), none, []⟩, ⟨(some 37), 39, .mv (.t 49), none, []⟩])))))))
  (.seq (.ops [⟨(some 50), 52, .faddr 8 1 (.t 2), none, []⟩, ⟨(some 51), 53, .load false 1 (.t 50), none, []⟩, ⟨(some 52), 54, .un .not (.t 51), none, []⟩, ⟨(some 53), 55, .mv (.t 52), none, []⟩, ⟨(some 54), 56, .faddr 8 1 (.t 3), (some (53, false)), []⟩, ⟨(some 55), 57, .load false 1 (.t 54), (some (53, false)), []⟩, ⟨(some 56), 58, .pick (.t 53) (.c (.b true)) (.t 55), none, []⟩, ⟨(some 57), 59, .mv (.t 56), none, []⟩, ⟨(some 58), 60, .faddr 9 1 (.t 2), (some (57, true)), []⟩, ⟨(some 59), 61, .load false 1 (.t 58), (some (57, true)), []⟩, ⟨(some 60), 62, .un .not (.t 59), (some (57, true)), []⟩, ⟨(some 61), 63, .mv (.t 60), (some (57, true)), []⟩, ⟨(some 62), 64, .faddr 9 1 (.t 3), (some (61, false)), []⟩, ⟨(some 63), 65, .load false 1 (.t 62), (some (61, false)), []⟩, ⟨(some 64), 66, .pick (.t 61) (.c (.b true)) (.t 63), (some (57, true)), []⟩, ⟨(some 65), 67, .pick (.t 57) (.t 64) (.c (.b false)), none, []⟩, ⟨(some 4), 6, .mv (.t 65), none, []⟩])
  .ret))))))
theorem k22 : compCode Try.prog Try.f22.ntmps Try.f22.body.get! = some c22 := by kernel_rfl
theorem r22 : resTmps Try.prog Try.f22.results.toList = some [.tmp 4] := by kernel_rfl
/- spec.l10In -/
def c76 : TCode := (.seq (.ops [⟨(some 4), 6, .mv (.c (.b false)), none, []⟩])
  (.seq (.ops [⟨(some 9), 11, .mv (.t 0), none, []⟩, ⟨(some 10), 12, .call 77 [((.t 9), 0)], none, []⟩, ⟨(some 11), 13, .mv (.t 1), none, []⟩, ⟨(some 12), 14, .call 77 [((.t 11), 0)], none, []⟩, ⟨(some 5), 7, .mv (.t 10), none, []⟩, ⟨(some 6), 8, .mv (.t 12), none, []⟩])
  (.seq (.ops [⟨(some 7), 9, .mv (.c (.i .i64 0)), none, []⟩])
  (.seq (.seq (.ops [⟨(some 8), 10, .mv (.c (.i .i64 0)), none, []⟩])
  (.block 0 (.loop (.seq (.seq (.ops [⟨(some 13), 15, .mv (.t 8), none, []⟩, ⟨(some 14), 16, .mv (.t 5), none, []⟩, ⟨(some 15), 17, .len false (.t 14), none, []⟩, ⟨(some 16), 18, .bin .lss (.t 13) (.t 15), none, []⟩])
  (.cond (.t 16)
  .skip
  (.exit 0)))
  (.seq (.block 1 (.seq (.block 2 (.loop (.seq (.seq (.draw [⟨(some 19), 21, .mv (.t 7), none, []⟩, ⟨(some 20), 22, .mv (.t 6), none, []⟩, ⟨(some 21), 23, .len false (.t 20), none, []⟩, ⟨(some 22), 24, .bin .lss (.t 19) (.t 21), none, []⟩, ⟨(some 23), 25, .mv (.t 22), none, []⟩, ⟨(some 24), 26, .mv (.t 6), (some (23, true)), []⟩, ⟨(some 25), 27, .mv (.t 7), (some (23, true)), []⟩, ⟨(some 26), 28, .iaddr 1 (.t 24) (.t 25), (some (23, true)), []⟩, ⟨(some 27), 29, .load false 1 (.t 26), (some (23, true)), []⟩, ⟨(some 28), 30, .mv (.t 5), (some (23, true)), []⟩, ⟨(some 29), 31, .mv (.t 8), (some (23, true)), []⟩, ⟨(some 30), 32, .iaddr 1 (.t 28) (.t 29), (some (23, true)), []⟩, ⟨(some 31), 33, .load false 1 (.t 30), (some (23, true)), []⟩, ⟨(some 32), 34, .bin .lss (.t 27) (.t 31), (some (23, true)), []⟩, ⟨(some 33), 35, .pick (.t 23) (.t 32) (.c (.b false)), none, []⟩])
  (.cond (.t 33)
  .skip
  (.exit 2)))
  (.block 3 (.ops [⟨(some 34), 36, .mv (.t 7), none, []⟩, ⟨(some 35), 37, .bin .add (.t 34) (.c (.i .i64 1)), none, []⟩, ⟨(some 7), 9, .mv (.t 35), none, []⟩])))))
  (.seq (.draw [⟨(some 36), 38, .mv (.t 7), none, []⟩, ⟨(some 37), 39, .mv (.t 6), none, []⟩, ⟨(some 38), 40, .len false (.t 37), none, []⟩, ⟨(some 39), 41, .bin .geq (.t 36) (.t 38), none, []⟩, ⟨(some 40), 42, .mv (.t 39), none, []⟩, ⟨(some 41), 43, .mv (.t 6), (some (40, false)), []⟩, ⟨(some 42), 44, .mv (.t 7), (some (40, false)), []⟩, ⟨(some 43), 45, .iaddr 1 (.t 41) (.t 42), (some (40, false)), []⟩, ⟨(some 44), 46, .load false 1 (.t 43), (some (40, false)), []⟩, ⟨(some 45), 47, .mv (.t 5), (some (40, false)), []⟩, ⟨(some 46), 48, .mv (.t 8), (some (40, false)), []⟩, ⟨(some 47), 49, .iaddr 1 (.t 45) (.t 46), (some (40, false)), []⟩, ⟨(some 48), 50, .load false 1 (.t 47), (some (40, false)), []⟩, ⟨(some 49), 51, .bin .neq (.t 44) (.t 48), (some (40, false)), []⟩, ⟨(some 50), 52, .pick (.t 40) (.c (.b true)) (.t 49), none, []⟩])
  (.cond (.t 50)
  (.seq (.ops [⟨(some 4), 6, .mv (.c (.b false)), none, []⟩])
  .ret)
  .skip))))
  (.ops [⟨(some 17), 19, .mv (.t 8), none, []⟩, ⟨(some 18), 20, .bin .add (.t 17) (.c (.i .i64 1)), none, []⟩, ⟨(some 8), 10, .mv (.t 18), none, []⟩]))))))
  (.seq (.ops [⟨(some 4), 6, .mv (.c (.b true)), none, []⟩])
  .ret)))))
theorem k76 : compCode Try.prog Try.f76.ntmps Try.f76.body.get! = some c76 := by kernel_rfl
theorem r76 : resTmps Try.prog Try.f76.results.toList = some [.tmp 4] := by kernel_rfl
/- spec.EffWithin -/
def c23 : TCode := (.seq (.ops [⟨(some 2), 4, .box 10 (.t 0), none, []⟩, ⟨(some 3), 5, .box 10 (.t 1), none, []⟩, ⟨(some 4), 6, .mv (.c (.b false)), none, []⟩])
  (.seq (.ops [⟨(some 5), 7, .faddr 0 1 (.t 2), none, []⟩, ⟨(some 6), 8, .load false 1 (.t 5), none, []⟩, ⟨(some 7), 9, .faddr 0 1 (.t 3), none, []⟩, ⟨(some 8), 10, .load false 1 (.t 7), none, []⟩, ⟨(some 9), 11, .call 76 [((.t 6), 0), ((.t 8), 0)], none, []⟩, ⟨(some 10), 12, .mv (.t 9), none, []⟩, ⟨(some 11), 13, .faddr 1 1 (.t 2), (some (10, true)), []⟩, ⟨(some 12), 14, .load false 1 (.t 11), (some (10, true)), []⟩, ⟨(some 13), 15, .faddr 1 1 (.t 3), (some (10, true)), []⟩, ⟨(some 14), 16, .load false 1 (.t 13), (some (10, true)), []⟩, ⟨(some 15), 17, .call 76 [((.t 12), 0), ((.t 14), 0)], (some (10, true)), []⟩, ⟨(some 16), 18, .pick (.t 10) (.t 15) (.c (.b false)), none, []⟩, ⟨(some 17), 19, .mv (.t 16), none, []⟩, ⟨(some 18), 20, .faddr 2 1 (.t 2), (some (17, true)), []⟩, ⟨(some 19), 21, .load false 1 (.t 18), (some (17, true)), []⟩, ⟨(some 20), 22, .faddr 2 1 (.t 3), (some (17, true)), []⟩, ⟨(some 21), 23, .load false 1 (.t 20), (some (17, true)), []⟩, ⟨(some 22), 24, .call 76 [((.t 19), 0), ((.t 21), 0)], (some (17, true)), []⟩, ⟨(some 23), 25, .pick (.t 17) (.t 22) (.c (.b false)), none, []⟩, ⟨(some 24), 26, .mv (.t 23), none, []⟩, ⟨(some 25), 27, .faddr 3 1 (.t 2), (some (24, true)), []⟩, ⟨(some 26), 28, .load false 1 (.t 25), (some (24, true)), []⟩, ⟨(some 27), 29, .faddr 3 1 (.t 3), (some (24, true)), []⟩, ⟨(some 28), 30, .load false 1 (.t 27), (some (24, true)), []⟩, ⟨(some 29), 31, .call 76 [((.t 26), 0), ((.t 28), 0)], (some (24, true)), []⟩, ⟨(some 30), 32, .pick (.t 24) (.t 29) (.c (.b false)), none, []⟩, ⟨(some 31), 33, .mv (.t 30), none, []⟩, ⟨(some 32), 34, .faddr 4 1 (.t 2), (some (31, true)), []⟩, ⟨(some 33), 35, .load false 1 (.t 32), (some (31, true)), []⟩, ⟨(some 34), 36, .faddr 4 1 (.t 3), (some (31, true)), []⟩, ⟨(some 35), 37, .load false 1 (.t 34), (some (31, true)), []⟩, ⟨(some 36), 38, .call 76 [((.t 33), 0), ((.t 35), 0)], (some (31, true)), []⟩, ⟨(some 37), 39, .pick (.t 31) (.t 36) (.c (.b false)), none, []⟩, ⟨(some 38), 40, .mv (.t 37), none, []⟩, ⟨(some 39), 41, .faddr 5 1 (.t 2), (some (38, true)), []⟩, ⟨(some 40), 42, .load false 1 (.t 39), (some (38, true)), []⟩, ⟨(some 41), 43, .faddr 5 1 (.t 3), (some (38, true)), []⟩, ⟨(some 42), 44, .load false 1 (.t 41), (some (38, true)), []⟩, ⟨(some 43), 45, .call 76 [((.t 40), 0), ((.t 42), 0)], (some (38, true)), []⟩, ⟨(some 44), 46, .pick (.t 38) (.t 43) (.c (.b false)), none, []⟩, ⟨(some 45), 47, .mv (.t 44), none, []⟩, ⟨(some 46), 48, .faddr 6 1 (.t 2), (some (45, true)), []⟩, ⟨(some 47), 49, .load false 1 (.t 46), (some (45, true)), []⟩, ⟨(some 48), 50, .faddr 6 1 (.t 3), (some (45, true)), []⟩, ⟨(some 49), 51, .load false 1 (.t 48), (some (45, true)), []⟩, ⟨(some 50), 52, .call 76 [((.t 47), 0), ((.t 49), 0)], (some (45, true)), []⟩, ⟨(some 51), 53, .pick (.t 45) (.t 50) (.c (.b false)), none, []⟩, ⟨(some 52), 54, .mv (.t 51), none, []⟩, ⟨(some 53), 55, .faddr 7 1 (.t 2), (some (52, true)), []⟩, ⟨(some 54), 56, .load false 1 (.t 53), (some (52, true)), []⟩, ⟨(some 55), 57, .faddr 7 1 (.t 3), (some (52, true)), []⟩, ⟨(some 56), 58, .load false 1 (.t 55), (some (52, true)), []⟩, ⟨(some 57), 59, .call 76 [((.t 54), 0), ((.t 56), 0)], (some (52, true)), []⟩, ⟨(some 58), 60, .pick (.t 52) (.t 57) (.c (.b false)), none, []⟩, ⟨(some 59), 61, .mv (.t 58), none, []⟩, ⟨(some 60), 62, .faddr 8 1 (.t 3), (some (59, true)), []⟩, ⟨(some 61), 63, .load false 1 (.t 60), (some (59, true)), []⟩, ⟨(some 62), 64, .mv (.t 61), (some (59, true)), []⟩, ⟨(some 63), 65, .faddr 8 1 (.t 2), (some (62, false)), []⟩, ⟨(some 64), 66, .load false 1 (.t 63), (some (62, false)), []⟩, ⟨(some 65), 67, .un .not (.t 64), (some (62, false)), []⟩, ⟨(some 66), 68, .pick (.t 62) (.c (.b true)) (.t 65), (some (59, true)), []⟩, ⟨(some 67), 69, .pick (.t 59) (.t 66) (.c (.b false)), none, []⟩, ⟨(some 68), 70, .mv (.t 67), none, []⟩, ⟨(some 69), 71, .faddr 9 1 (.t 3), (some (68, true)), []⟩, ⟨(some 70), 72, .load false 1 (.t 69), (some (68, true)), []⟩, ⟨(some 71), 73, .mv (.t 70), (some (68, true)), []⟩, ⟨(some 72), 74, .faddr 9 1 (.t 2), (some (71, false)), []⟩, ⟨(some 73), 75, .load false 1 (.t 72), (some (71, false)), []⟩, ⟨(some 74), 76, .un .not (.t 73), (some (71, false)), []⟩, ⟨(some 75), 77, .pick (.t 71) (.c (.b true)) (.t 74), (some (68, true)), []⟩, ⟨(some 76), 78, .pick (.t 68) (.t 75) (.c (.b false)), none, []⟩, ⟨(some 4), 6, .mv (.t 76), none, []⟩])
  .ret))
theorem k23 : compCode Try.prog Try.f23.ntmps Try.f23.body.get! = some c23 := by kernel_rfl
theorem r23 : resTmps Try.prog Try.f23.results.toList = some [.tmp 4] := by kernel_rfl

@[simp] def rT (l : List Int) : List TV := [.sl false 1 (l.map iT)]
@[simp] theorem fzL_rT (l : List Int) : fzL (rT l) = rT l := by simp [fzL, fz]
@[simp] theorem fzLL_rT (l : List (List Int)) : fzLL (l.map rT) = l.map rT := fzLL_map fzL_rT l
@[simp] theorem noref_rT (l : List (List Int)) : (l.map rT).all (·.all noref) = true := noref_map (fun _ => rfl) l
@[simp] theorem srcT_rT (H : Hp) (z : Nat) (l : List (List Int)) : srcT H (.sl false z (l.map rT)) = some (z, l.map rT, H, []) := by simp only [srcT, noref_rT, if_true]
def effLo (e : EffP) : List (List Int) := [e.1, e.2.1, e.2.2.1, e.2.2.2.2.2.2.2.1, e.2.2.2.1, e.2.2.2.2.1, e.2.2.2.2.2.1, e.2.2.2.2.2.2.1]
def lsA (e : EffP) : List (List Int) := [e.1, e.2.1, e.2.2.1, e.2.2.2.2.2.2.2.1]
def lsB (e : EffP) : List (List Int) := [e.2.2.2.1, e.2.2.2.2.1]
def lsC (e : EffP) : List (List Int) := [e.2.2.2.2.2.1, e.2.2.2.2.2.2.1]
set_option maxRecDepth 100000 in
theorem w73 (e : EffP) : Contract Try.prog true 73 [.own] [.po true [.sl false 1 (e.1.map iT), .sl false 1 (e.2.1.map iT), .sl false 1 (e.2.2.1.map iT), .sl false 1 (e.2.2.2.1.map iT), .sl false 1 (e.2.2.2.2.1.map iT), .sl false 1 (e.2.2.2.2.2.1.map iT), .sl false 1 (e.2.2.2.2.2.2.1.map iT), .sl false 1 (e.2.2.2.2.2.2.2.1.map iT), .b e.2.2.2.2.2.2.2.2.1, .b e.2.2.2.2.2.2.2.2.2]] [.sl true 1 ((lsA e).map rT), .sl true 1 ((lsB e).map rT), .sl true 1 ((lsC e).map rT)] [some (.po true [.sl false 1 (e.1.map iT), .sl false 1 (e.2.1.map iT), .sl false 1 (e.2.2.1.map iT), .sl false 1 (e.2.2.2.1.map iT), .sl false 1 (e.2.2.2.2.1.map iT), .sl false 1 (e.2.2.2.2.2.1.map iT), .sl false 1 (e.2.2.2.2.2.2.1.map iT), .sl false 1 (e.2.2.2.2.2.2.2.1.map iT), .b e.2.2.2.2.2.2.2.2.1, .b e.2.2.2.2.2.2.2.2.2])] := by
  refine mk_contract [some [(1, 0)]] Try.func73 (c := Try.f73.body.get!) (by kernel_rfl) k73 r73 (of_decide_eq_true rfl) fun _ => ?_
  unfold c73; simp [lsA, lsB, lsC]
theorem w133 : ContractA Try.prog [true, false] false 133 [.ro, .ro] [.sl false 1 [], .i .i64 8] [.sl true 1 []] [] := contract_grow8 W1338
def cs3 (A B C : List (List Int)) (j : Nat) : Nat := match j with
  | 0 => 0
  | 1 => A.length
  | 2 => A.length + B.length
  | _ => A.length + B.length + C.length
def fl3 (A B C : List (List Int)) (j : Nat) : List (List Int) := match j with
  | 0 => []
  | 1 => A
  | 2 => A ++ B
  | _ => A ++ B ++ C
set_option maxRecDepth 100000 in
theorem w74 (A B C L : List (List Int)) (hL : A ++ B ++ C = L) (h8 : A.length + B.length + C.length = 8) : Contract Try.prog true 74 [.own] [.sl true 1 [[.sl true 1 (A.map rT)], [.sl true 1 (B.map rT)], [.sl true 1 (C.map rT)]]] [.sl true 1 (L.map rT)] [none] := by
  refine mk_contract [none] Try.func74 (c := Try.f74.body.get!) (by kernel_rfl) k74 r74 (of_decide_eq_true rfl) fun _ => ?_
  unfold c74; simp
  have w1 : IntKind.i64.wrap (A.length : Int) = A.length := wrap_id (by omega) (by omega)
  have w2 : IntKind.i64.wrap ((A.length : Int) + B.length) = A.length + B.length := wrap_id (by omega) (by omega)
  have w3 : IntKind.i64.wrap ((A.length : Int) + B.length + C.length) = A.length + B.length + C.length := wrap_id (by omega) (by omega)
  have w4 : (A.length : Int) + B.length + C.length = 8 := by omega
  have v1 : IntKind.i64.wrap 1 = 1 := by decide
  have v2 : IntKind.i64.wrap 2 = 2 := by decide
  have v3 : IntKind.i64.wrap 3 = 3 := by decide
  have v8 : IntKind.i64.wrap 8 = 8 := by decide
  have n1 : ¬ ((A.length : Int) < 0) := by omega
  have n2 : ¬ ((A.length : Int) + B.length < 0) := by omega
  refine twp_for 3 (fun j s => s.t 0 = .rf [(1, 0)] 0 3 ∧ s.t 9 = .rf [(1, 0)] 0 3 ∧ s.t 10 = .i .i64 3 ∧ s.t 11 = .i .i64 j ∧ s.t 3 = .i .i64 (cs3 A B C j) ∧ s.H = lk [(1, [.sl true 1 [[.sl true 1 (A.map rT)], [.sl true 1 (B.map rT)], [.sl true 1 (C.map rT)]]])]) [] (by simp) ?_ ?_
  · simp [cs3]
  · rintro j s hj ⟨q0, q9, q10, q11, q3, qH⟩
    rw [nf_of qH]
    rcases j with _ | _ | _ | _ | j
    · simp [q0, q3, q9, q10, q11, cs3, w1, v1, n1]
    · simp [q0, q3, q9, q10, q11, cs3, w2, v2, n2]
    · simp [q0, q3, q9, q10, q11, cs3, w3, w4, v3, v8]
    · simp [q0, q3, q9, q10, q11, cs3, w4]
      refine callW_ms [.ro, .ro] ?_
      simp
      refine callX_nil w133 (by simp) ?_
      simp [q0, q3, q9, q10, q11]
      refine twp_forR 3 (fun j s => s.t 25 = .rf [(1, 0)] 0 3 ∧ s.t 26 = .i .i64 3 ∧ s.t 27 = .i .i64 j ∧ s.t 6 = .rf [(35, 0)] 0 (fl3 A B C j).length ∧ s.H = lk [(1, [.sl true 1 [[.sl true 1 (A.map rT)], [.sl true 1 (B.map rT)], [.sl true 1 (C.map rT)]]]), (35, [.sl true 1 ((fl3 A B C j).map rT)])]) [] [(26, 35)] (by simp) (by simp) ?_ ?_
      · simp [fl3, q0]
      · rintro j s hj ⟨q25, q26, q27, q6, qH⟩
        rw [nf_of qH]
        rcases j with _ | _ | _ | _ | j
        · simp [q6, q25, q26, q27, fl3, v1]
          omega
        · simp [q6, q25, q26, q27, fl3, v2]
          omega
        · simp [q6, q25, q26, q27, fl3, v3]
          omega
        · simp [q6, q25, q26, q27, fl3, ← hL]
          try simp
        · omega
    · omega
theorem w134 (c : Int) (b : List Int) (hb : b.length ≤ 2^40) : Contract Try.prog false 134 [.ro, .ro] [.i .i64 c, .po false [.sl false 1 (b.map iT)]] [.b (!decide (c ∈ b))] [] := by
  refine mk_contract [] Try.func134 (c := Try.f134.body.get!) (by kernel_rfl) k134 r134 (of_decide_eq_true rfl) fun _ => ?_
  unfold c134; simp
  refine callW_ms [.ro, .ro] ?_
  simp
  refine callX_of (w106 b c hb) (by simp) ?_
  simp
theorem w160 (L b : List Int) (hb : b.length ≤ 2^40) (hL : L.length ≤ 2^40) : Contract Try.prog false 160 [.ro, .ro] [.sl false 1 (L.map iT), .fn 134 [.po false [.sl false 1 (b.map iT)]]] [.i .i64 (idxP (fun c => !decide (c ∈ b)) L)] [] := by
  refine mk_contract [] Try.func160 (c := Try.f160.body.get!) (by kernel_rfl) k160 r160 (of_decide_eq_true rfl) fun _ => ?_
  unfold c160; simp
  refine twp_for L.length (fun j s => s.t 0 = .sl false 1 (L.map iT) ∧ s.t 1 = .fn 134 [.po false [.sl false 1 (b.map iT)]] ∧ s.t 7 = .i .i64 L.length ∧ s.t 8 = .i .i64 j ∧ (∀ y ∈ L.take j, (!decide (y ∈ b)) = false) ∧ s.H = lk [(1, [])]) [] (by simp) ?_ ?_
  · simp
  · rintro j s hj ⟨q0, q1, q7, q8, hn, qH⟩
    rw [nf_of qH]
    simp [q0, q1, q7, q8]
    refine ⟨fun hlt => ?_, fun hge => ?_⟩
    · have hw : IntKind.i64.wrap (j + 1) = j + 1 := wrap_id (by omega) (by omega)
      obtain ⟨y, hy⟩ := get_some hlt
      simp [hy, hw, q0, q1, q7, q8]
      refine ⟨by kernel_rfl, ?_⟩
      have hC := w134 y b hb
      cases hd : (!decide (y ∈ b)) with
      | true =>
        rw [hd] at hC
        refine callW_ms [.ro, .ro] ?_
        simp
        refine callX_of hC (by simp) ?_
        simp [hw, q0, q1, q7, q8]
        exact (idxP_at (p := fun c => !decide (c ∈ b)) hy hd hn).symm
      | false =>
        rw [hd] at hC
        refine callW_ms [.ro, .ro] ?_
        simp
        refine callX_of hC (by simp) ?_
        simp [hw, q0, q1, q7, q8]
        refine ⟨hlt, fun a hab => ?_⟩
        rw [take_snoc hy, List.mem_append, List.mem_singleton] at hab
        rcases hab with hab | rfl
        · simpa using hn _ hab
        · simpa using hd
    · obtain rfl : j = L.length := by omega
      rw [List.take_of_length_le (Nat.le_refl _)] at hn
      exact (idxP_none (p := fun c => !decide (c ∈ b)) hn).symm
theorem w104 (L b : List Int) (hb : b.length ≤ 2^40) (hL : L.length ≤ 2^40) : Contract Try.prog false 104 [.ro, .ro] [.sl false 1 (L.map iT), .fn 134 [.po false [.sl false 1 (b.map iT)]]] [.b (decide (∃ y ∈ L, y ∉ b))] [] := by
  refine mk_contract [] Try.func104 (c := Try.f104.body.get!) (by kernel_rfl) k104 r104 (of_decide_eq_true rfl) fun _ => ?_
  have hE : 0 ≤ idxP (fun c => !decide (c ∈ b)) L ↔ ∃ y ∈ L, y ∉ b := by rw [idxP_ge]; simp
  unfold c104; simp
  refine callW_ms [.ro, .ro] ?_
  simp
  refine callX_of (w160 L b hb hL) (by simp) ?_
  simp [hE]
def allIn (a b : List Int) : Prop := ∀ x ∈ a, x ∈ b
instance (a b : List Int) : Decidable (allIn a b) := by unfold allIn; infer_instance
theorem w75 (a b : List Int) (ha : a.length ≤ 2^40) (hb : b.length ≤ 2^40) : Contract Try.prog false 75 [.ro, .ro] [.sl false 1 (a.map iT), .sl false 1 (b.map iT)] [.b (decide (allIn a b))] [] := by
  refine mk_contract [] Try.func75 (c := Try.f75.body.get!) (by kernel_rfl) k75 r75 (of_decide_eq_true rfl) fun _ => ?_
  unfold c75; simp
  by_cases h : ∃ y ∈ a, y ∉ b
  · have h2 : ¬ allIn a b := fun h2 => by obtain ⟨y, h3, h4⟩ := h; exact h4 (h2 y h3)
    refine callW_ms [.ro, .ro] ?_
    simp
    refine callX_of ((w104 a b hb ha).t h) (by simp) ?_
    simp
    exact h2
  · have h2 : allIn a b := fun x hx => Decidable.byContradiction fun h3 => h ⟨x, hx, h3⟩
    refine callW_ms [.ro, .ro] ?_
    simp
    refine callX_of ((w104 a b hb ha).f h) (by simp) ?_
    simp
    exact h2
theorem allIn_asc (a b : List Int) : allIn (asc a) (asc b) ↔ allIn a b :=
  ⟨fun h x hx => (asc_mem b x).1 (h x ((asc_mem a x).2 hx)), fun h x hx => (asc_mem b x).2 (h x ((asc_mem a x).1 hx))⟩
theorem w76 (a b : List Int) (ha : a.length ≤ 2^40) (hb : b.length ≤ 2^40) : Contract Try.prog false 76 [.ro, .ro] [.sl false 1 (a.map iT), .sl false 1 (b.map iT)] [.b (decide (allIn a b))] [] := by
  refine mk_contract [] Try.func76 (c := Try.f76.body.get!) (by kernel_rfl) k76 r76 (of_decide_eq_true rfl) fun _ => ?_
  unfold c76; simp
  refine callW_ms [.ro] ?_
  simp
  refine callX_of (w77 a ha) (by simp) ?_
  simp
  refine callW_ms [.ro] ?_
  simp
  refine callX_of (w77 b hb) (by simp) ?_
  simp
  have ra := asc_ris a
  have rb := asc_ris b
  have la := asc_len a
  have lb := asc_len b
  rw [show decide (allIn a b) = decide (allIn (asc a) (asc b)) from decide_eq_decide.2 (allIn_asc a b).symm]
  generalize asc a = x at *
  generalize asc b = y at *
  refine twp_for x.length (fun j s => ∃ k : Nat, k ≤ y.length ∧ s.t 5 = .rf [(12, 0)] 0 x.length ∧ s.t 6 = .rf [(14, 0)] 0 y.length ∧ s.t 7 = .i .i64 k ∧ s.t 8 = .i .i64 j ∧ (∀ z ∈ x.take j, z ∈ y) ∧ (∀ z ∈ y.take k, ∀ u ∈ x.drop j, z < u) ∧ s.H = lk [(1, []), (12, [.sl true 1 (x.map iT)]), (14, [.sl true 1 (y.map iT)])]) [] (by simp) ?_ ?_
  · exact ⟨0, by simp⟩
  · rintro j s hj ⟨k, hk, q5, q6, q7, q8, hA, hB, qH⟩
    rw [nf_of qH]
    simp [q5, q6, q7, q8]
    refine ⟨fun hlt => ?_, fun hge => ?_⟩
    · have hw : IntKind.i64.wrap (j + 1) = j + 1 := wrap_id (by omega) (by omega)
      obtain ⟨u, hu⟩ := get_some hlt
      have hud : x.drop j = u :: x.drop (j + 1) := drop_cons hu
      refine twp_post (fun s => ∃ k : Nat, k ≤ y.length ∧ s.t 5 = .rf [(12, 0)] 0 x.length ∧ s.t 6 = .rf [(14, 0)] 0 y.length ∧ s.t 7 = .i .i64 k ∧ s.t 8 = .i .i64 j ∧ (∀ z ∈ y.take k, ∀ u ∈ x.drop j, z < u) ∧ (∀ v, y[k]? = some v → u ≤ v) ∧ s.H = lk [(1, []), (12, [.sl true 1 (x.map iT)]), (14, [.sl true 1 (y.map iT)])]) ?_ ?_
      · refine twp_loop (fun n s => ∃ k : Nat, k ≤ y.length ∧ n = y.length - k ∧ s.t 5 = .rf [(12, 0)] 0 x.length ∧ s.t 6 = .rf [(14, 0)] 0 y.length ∧ s.t 7 = .i .i64 k ∧ s.t 8 = .i .i64 j ∧ (∀ z ∈ y.take k, ∀ u ∈ x.drop j, z < u) ∧ s.H = lk [(1, []), (12, [.sl true 1 (x.map iT)]), (14, [.sl true 1 (y.map iT)])]) [] (by simp) (y.length - k) ?_ ?_
        · exact ⟨k, hk, rfl, by simp [q5, q6, q7, q8], by simp [q5, q6, q7, q8], by simp [q5, q6, q7, q8], by simp [q5, q6, q7, q8], hB, by simp⟩
        · rintro n s2 ⟨k2, hk2, rfl, p5, p6, p7, p8, hB2, pH⟩
          rw [nf_of pH]
          simp [p5, p6, p7, p8]
          have hwk : IntKind.i64.wrap ((k2 : Int) + 1) = k2 + 1 := wrap_id (by omega) (by omega)
          cases hbk : decide (k2 < y.length)
          · have hky : ¬ k2 < y.length := of_decide_eq_false hbk
            simp [p5, p6, p7, p8]
            exact ⟨k2, hk2, rfl, hB2, fun v hv => by rw [List.getElem?_eq_none (by omega)] at hv; cases hv⟩
          · have hky : k2 < y.length := of_decide_eq_true hbk
            obtain ⟨v, hv⟩ := get_some hky
            simp [p5, p6, p7, p8, hu, hv]
            refine ⟨hky, hlt, fun hvu => ?_, fun hvu => ?_⟩
            · refine ⟨y.length - (k2 + 1), by omega, k2 + 1, by omega, rfl, by rw [hwk]; omega, fun z hz u' hu' => ?_⟩
              rw [take_snoc hv, List.mem_append, List.mem_singleton] at hz
              rcases hz with hz | rfl
              · exact hB2 z hz u' hu'
              · have := ris_head ra hu u' hu'
                omega
            · exact ⟨k2, by omega, rfl, hB2, fun v' hv' => by rw [hv] at hv'; cases hv'; exact hvu⟩
      · rintro sz ⟨k3, hk3, z5, z6, z7, z8, hB3, hge3, zH⟩
        rw [nf_of zH]
        cases hbg : decide (y.length ≤ k3)
        · have hky : k3 < y.length := by have := of_decide_eq_false hbg; omega
          obtain ⟨v, hv⟩ := get_some hky
          have huv := hge3 v hv
          simp [z5, z6, z7, z8, hbg, hu, hv]
          refine ⟨hky, hlt, fun hvu => ⟨hlt, k3, hk3, rfl, hw, fun z hz => ?_, fun z hz u' hu' => hB3 z hz u' (by rw [hud]; exact List.mem_cons_of_mem _ hu')⟩, fun hvu h => ?_⟩
          · rw [take_snoc hu, List.mem_append, List.mem_singleton] at hz
            rcases hz with hz | rfl
            · exact hA z hz
            · subst hvu; exact List.mem_of_getElem? hv
          · have h1 := h u (List.mem_of_getElem? hu)
            rw [← List.take_append_drop k3 y, List.mem_append] at h1
            rcases h1 with h1 | h1
            · have := hB3 u h1 u (by rw [hud]; simp)
              omega
            · have := ris_head rb hv u h1
              omega
        · have hky : y.length ≤ k3 := of_decide_eq_true hbg
          rw [List.take_of_length_le hky] at hB3
          have hno : ¬ allIn x y := fun h => by
            have h1 := hB3 u (h u (List.mem_of_getElem? hu)) u (by rw [hud]; simp)
            omega
          simp [z5, z6, z7, z8, hbg, hno]
    · obtain rfl : j = x.length := by omega
      rw [List.take_of_length_le (Nat.le_refl _)] at hA
      exact hA
def effIn (a b : EffP) : Prop := (allIn a.1 b.1 ∧ allIn a.2.1 b.2.1 ∧ allIn a.2.2.1 b.2.2.1 ∧ allIn a.2.2.2.1 b.2.2.2.1 ∧ allIn a.2.2.2.2.1 b.2.2.2.2.1 ∧ allIn a.2.2.2.2.2.1 b.2.2.2.2.2.1 ∧ allIn a.2.2.2.2.2.2.1 b.2.2.2.2.2.2.1 ∧ allIn a.2.2.2.2.2.2.2.1 b.2.2.2.2.2.2.2.1) ∧ (a.2.2.2.2.2.2.2.2.1 = true → b.2.2.2.2.2.2.2.2.1 = true) ∧ (a.2.2.2.2.2.2.2.2.2 = true → b.2.2.2.2.2.2.2.2.2 = true)
instance (a b : EffP) : Decidable (effIn a b) := by unfold effIn; infer_instance
set_option maxRecDepth 100000 in
theorem w23 (a b : EffP) (ha : effB (2^40) a) (hb : effB (2^40) b) : Contract Try.prog false 23 [.ro, .ro] [effR a, effR b] [.b (decide (effIn a b))] [] := by
  refine mk_contract [] Try.func23 (c := Try.f23.body.get!) (by kernel_rfl) k23 r23 (of_decide_eq_true rfl) fun _ => ?_
  obtain ⟨a1, a2, a3, a4, a5, a6, a7, a8⟩ := ha
  obtain ⟨b1, b2, b3, b4, b5, b6, b7, b8⟩ := hb
  unfold c23; unfold effR; simp
  by_cases h0 : allIn a.1 b.1
  rotate_left
  · refine callW_ms [.ro, .ro] ?_
    simp
    refine callX_of ((w76 a.1 b.1 a1 b1).f h0) (by simp) ?_
    simp
    simp [effIn, h0]
  refine callW_ms [.ro, .ro] ?_
  simp
  refine callX_of ((w76 a.1 b.1 a1 b1).t h0) (by simp) ?_
  simp
  by_cases h1 : allIn a.2.1 b.2.1
  rotate_left
  · refine callW_ms [.ro, .ro] ?_
    simp
    refine callX_of ((w76 a.2.1 b.2.1 a2 b2).f h1) (by simp) ?_
    simp
    simp [effIn, h1]
  refine callW_ms [.ro, .ro] ?_
  simp
  refine callX_of ((w76 a.2.1 b.2.1 a2 b2).t h1) (by simp) ?_
  simp
  by_cases h2 : allIn a.2.2.1 b.2.2.1
  rotate_left
  · refine callW_ms [.ro, .ro] ?_
    simp
    refine callX_of ((w76 a.2.2.1 b.2.2.1 a3 b3).f h2) (by simp) ?_
    simp
    simp [effIn, h2]
  refine callW_ms [.ro, .ro] ?_
  simp
  refine callX_of ((w76 a.2.2.1 b.2.2.1 a3 b3).t h2) (by simp) ?_
  simp
  by_cases h3 : allIn a.2.2.2.1 b.2.2.2.1
  rotate_left
  · refine callW_ms [.ro, .ro] ?_
    simp
    refine callX_of ((w76 a.2.2.2.1 b.2.2.2.1 a4 b4).f h3) (by simp) ?_
    simp
    simp [effIn, h3]
  refine callW_ms [.ro, .ro] ?_
  simp
  refine callX_of ((w76 a.2.2.2.1 b.2.2.2.1 a4 b4).t h3) (by simp) ?_
  simp
  by_cases h4 : allIn a.2.2.2.2.1 b.2.2.2.2.1
  rotate_left
  · refine callW_ms [.ro, .ro] ?_
    simp
    refine callX_of ((w76 a.2.2.2.2.1 b.2.2.2.2.1 a5 b5).f h4) (by simp) ?_
    simp
    simp [effIn, h4]
  refine callW_ms [.ro, .ro] ?_
  simp
  refine callX_of ((w76 a.2.2.2.2.1 b.2.2.2.2.1 a5 b5).t h4) (by simp) ?_
  simp
  by_cases h5 : allIn a.2.2.2.2.2.1 b.2.2.2.2.2.1
  rotate_left
  · refine callW_ms [.ro, .ro] ?_
    simp
    refine callX_of ((w76 a.2.2.2.2.2.1 b.2.2.2.2.2.1 a6 b6).f h5) (by simp) ?_
    simp
    simp [effIn, h5]
  refine callW_ms [.ro, .ro] ?_
  simp
  refine callX_of ((w76 a.2.2.2.2.2.1 b.2.2.2.2.2.1 a6 b6).t h5) (by simp) ?_
  simp
  by_cases h6 : allIn a.2.2.2.2.2.2.1 b.2.2.2.2.2.2.1
  rotate_left
  · refine callW_ms [.ro, .ro] ?_
    simp
    refine callX_of ((w76 a.2.2.2.2.2.2.1 b.2.2.2.2.2.2.1 a7 b7).f h6) (by simp) ?_
    simp
    simp [effIn, h6]
  refine callW_ms [.ro, .ro] ?_
  simp
  refine callX_of ((w76 a.2.2.2.2.2.2.1 b.2.2.2.2.2.2.1 a7 b7).t h6) (by simp) ?_
  simp
  by_cases h7 : allIn a.2.2.2.2.2.2.2.1 b.2.2.2.2.2.2.2.1
  rotate_left
  · refine callW_ms [.ro, .ro] ?_
    simp
    refine callX_of ((w76 a.2.2.2.2.2.2.2.1 b.2.2.2.2.2.2.2.1 a8 b8).f h7) (by simp) ?_
    simp
    simp [effIn, h7]
  refine callW_ms [.ro, .ro] ?_
  simp
  refine callX_of ((w76 a.2.2.2.2.2.2.2.1 b.2.2.2.2.2.2.2.1 a8 b8).t h7) (by simp) ?_
  simp
  simp only [effIn, h0, h1, h2, h3, h4, h5, h6, h7]
  cases g1 : a.2.2.2.2.2.2.2.2.1 <;> cases g2 : b.2.2.2.2.2.2.2.2.1 <;> cases g3 : a.2.2.2.2.2.2.2.2.2 <;> cases g4 : b.2.2.2.2.2.2.2.2.2 <;> simp [g1, g2, g3, g4]

theorem effLo_eq (e : EffP) : lsA e ++ lsB e ++ lsC e = effLo e := rfl
def inUp (a b : List (List Int)) (j : Nat) : Prop := ∀ (i : Nat) (x y : List Int), i < j → a[i]? = some x → b[i]? = some y → allIn x y
theorem effLo_in (a b : EffP) : inUp (effLo a) (effLo b) 8 ↔ (allIn a.1 b.1 ∧ allIn a.2.1 b.2.1 ∧ allIn a.2.2.1 b.2.2.1 ∧ allIn a.2.2.2.1 b.2.2.2.1 ∧ allIn a.2.2.2.2.1 b.2.2.2.2.1 ∧ allIn a.2.2.2.2.2.1 b.2.2.2.2.2.1 ∧ allIn a.2.2.2.2.2.2.1 b.2.2.2.2.2.2.1 ∧ allIn a.2.2.2.2.2.2.2.1 b.2.2.2.2.2.2.2.1) := by
  constructor
  · intro h
    exact ⟨h 0 _ _ (by omega) rfl rfl, h 1 _ _ (by omega) rfl rfl, h 2 _ _ (by omega) rfl rfl, h 4 _ _ (by omega) rfl rfl, h 5 _ _ (by omega) rfl rfl, h 6 _ _ (by omega) rfl rfl, h 7 _ _ (by omega) rfl rfl, h 3 _ _ (by omega) rfl rfl⟩
  · rintro ⟨h1, h2, h3, h4, h5, h6, h7, h8⟩ i x y hi hx hy
    match i, hi with
    | 0, _ => cases hx; cases hy; exact h1
    | 1, _ => cases hx; cases hy; exact h2
    | 2, _ => cases hx; cases hy; exact h3
    | 3, _ => cases hx; cases hy; exact h8
    | 4, _ => cases hx; cases hy; exact h4
    | 5, _ => cases hx; cases hy; exact h5
    | 6, _ => cases hx; cases hy; exact h6
    | 7, _ => cases hx; cases hy; exact h7
theorem effLo_len (e : EffP) : (effLo e).length = 8 := rfl
theorem effLo_B {e : EffP} {k : Nat} (h : effB k e) : ∀ (i : Nat) (x : List Int), (effLo e)[i]? = some x → x.length ≤ k := by
  obtain ⟨h1, h2, h3, h4, h5, h6, h7, h8⟩ := h
  intro i x hx
  match i, hx with
  | 0, hx => cases hx; exact h1
  | 1, hx => cases hx; exact h2
  | 2, hx => cases hx; exact h3
  | 3, hx => cases hx; exact h8
  | 4, hx => cases hx; exact h4
  | 5, hx => cases hx; exact h5
  | 6, hx => cases hx; exact h6
  | 7, hx => cases hx; exact h7
set_option maxRecDepth 100000 in
theorem w22 (a b : EffP) (ha : effB (2^40) a) (hb : effB (2^40) b) : Contract Try.prog false 22 [.ro, .ro] [effR a, effR b] [.b (decide (effIn a b))] [] := by
  refine mk_contract [] Try.func22 (c := Try.f22.body.get!) (by kernel_rfl) k22 r22 (of_decide_eq_true rfl) fun _ => ?_
  unfold c22; unfold effR; simp
  refine callW_ms [.own] ?_
  simp
  refine callX_of (w73 a) (by simp) ?_
  simp
  refine callW_ms [.own] ?_
  simp
  refine callX_of (w73 b) (by simp) ?_
  simp
  refine callW_ms [.own] ?_
  simp
  refine callX_of (w74 (lsA a) (lsB a) (lsC a) (effLo a) rfl rfl) (by simp) ?_
  simp
  refine callW_ms [.own] ?_
  simp
  refine callX_of (w74 (lsA b) (lsB b) (lsC b) (effLo b) rfl rfl) (by simp) ?_
  simp
  have hin := effLo_in a b
  have hba := effLo_B ha
  have hbb := effLo_B hb
  have hla := effLo_len a
  have hlb := effLo_len b
  generalize effLo a = La at *
  generalize effLo b = Lb at *
  refine twp_for 8 (fun j s => s.t 2 = .pt [(4, 0)] 0 0 ∧ s.t 3 = .pt [(5, 0)] 0 0 ∧ s.t 12 = .rf [(36, 0)] 0 8 ∧ s.t 35 = .rf [(31, 0)] 0 8 ∧ s.t 36 = .i .i64 8 ∧ s.t 37 = .i .i64 j ∧ inUp La Lb j ∧ s.H = lk [(1, []), (4, [.po true [.sl false 1 (a.1.map iT), .sl false 1 (a.2.1.map iT), .sl false 1 (a.2.2.1.map iT), .sl false 1 (a.2.2.2.1.map iT), .sl false 1 (a.2.2.2.2.1.map iT), .sl false 1 (a.2.2.2.2.2.1.map iT), .sl false 1 (a.2.2.2.2.2.2.1.map iT), .sl false 1 (a.2.2.2.2.2.2.2.1.map iT), .b a.2.2.2.2.2.2.2.2.1, .b a.2.2.2.2.2.2.2.2.2]]), (5, [.po true [.sl false 1 (b.1.map iT), .sl false 1 (b.2.1.map iT), .sl false 1 (b.2.2.1.map iT), .sl false 1 (b.2.2.2.1.map iT), .sl false 1 (b.2.2.2.2.1.map iT), .sl false 1 (b.2.2.2.2.2.1.map iT), .sl false 1 (b.2.2.2.2.2.2.1.map iT), .sl false 1 (b.2.2.2.2.2.2.2.1.map iT), .b b.2.2.2.2.2.2.2.2.1, .b b.2.2.2.2.2.2.2.2.2]]), (31, [.sl true 1 (La.map rT)]), (36, [.sl true 1 (Lb.map rT)])]) [18, 23, 30, 35] (by simp) ?_ ?_
  · simp [hla, hlb, inUp]
  · rintro j s hj ⟨q2, q3, q12, q35, q36, q37, hi, qH⟩
    rw [nf_of qH]
    simp [q2, q3, q12, q35, q36, q37, hla, hlb]
    refine ⟨fun hlt => ?_, fun hge => ?_⟩
    · have hw : IntKind.i64.wrap (j + 1) = j + 1 := wrap_id (by omega) (by omega)
      have hlt2 : j < 8 := by omega
      obtain ⟨x, hx⟩ := get_some (show j < La.length by omega)
      obtain ⟨y, hy⟩ := get_some (show j < Lb.length by omega)
      refine ⟨hlt, ?_⟩
      simp [hx, hy, hla, hlb, q2, q3, q12, q35, q36, q37]
      try refine ⟨hlt, ?_⟩
      have hup : inUp La Lb (j + 1) ↔ inUp La Lb j ∧ allIn x y := by
        constructor
        · intro h
          exact ⟨fun i x' y' hi2 => h i x' y' (by omega), h j x y (by omega) hx hy⟩
        · rintro ⟨h1, h2⟩ i x' y' hi2 hx' hy'
          by_cases hij : i = j
          · subst hij; rw [hx] at hx'; rw [hy] at hy'; cases hx'; cases hy'; exact h2
          · exact h1 i x' y' (by omega) hx' hy'
      by_cases hxy : allIn x y
      · refine callW_ms [.ro, .ro] ?_
        simp
        refine callX_of ((w75 x y (hba j x hx) (hbb j y hy)).t hxy) (by simp) ?_
        simp [hw, hla, hlb, q2, q3, q12, q35, q36, q37]
        exact ⟨by omega, hup.2 ⟨hi, hxy⟩⟩
      · refine callW_ms [.ro, .ro] ?_
        simp
        refine callX_of ((w75 x y (hba j x hx) (hbb j y hy)).f hxy) (by simp) ?_
        simp [hw, q2, q3, q12, q35, q36, q37]
        intro h
        have h8 := hin.2 h.1
        exact hxy (h8 j x y hlt2 hx hy)
    · obtain rfl : j = 8 := by omega
      have hE := hin.1 hi
      simp [q2, q3, q12, q35, q36, q37]
      simp only [effIn, hE, true_and]
      cases g1 : a.2.2.2.2.2.2.2.2.1 <;> cases g2 : b.2.2.2.2.2.2.2.2.1 <;> cases g3 : a.2.2.2.2.2.2.2.2.2 <;> cases g4 : b.2.2.2.2.2.2.2.2.2 <;> simp [g1, g2, g3, g4, q2, q3, q12, q35, q36, q37]
end Go.Proofs.YtmedelmfkciblaaT

/- Draws of effects; effects joined. -/
namespace Go.Proofs.YtmedelmfkciblaaT
set_option linter.unusedVariables false
set_option linter.unusedSimpArgs false
open Go

/- laws.sameInts -/
def c24 : TCode := (.seq (.ops [⟨(some 4), 6, .mv (.c (.b false)), none, []⟩])
  (.seq (.seq (.ops [⟨(some 6), 8, .mv (.t 0), none, []⟩, ⟨(some 7), 9, .len false (.t 6), none, []⟩, ⟨(some 8), 10, .mv (.t 1), none, []⟩, ⟨(some 9), 11, .len false (.t 8), none, []⟩, ⟨(some 10), 12, .bin .neq (.t 7) (.t 9), none, []⟩])
  (.cond (.t 10)
  (.seq (.ops [⟨(some 4), 6, .mv (.c (.b false)), none, []⟩])
  .ret)
  .skip))
  (.seq (.seq (.ops [⟨(some 5), 7, .mv (.c (.i .i64 0)), none, []⟩])
  (.block 0 (.loop (.seq (.seq (.ops [⟨(some 11), 13, .mv (.t 5), none, []⟩, ⟨(some 12), 14, .mv (.t 0), none, []⟩, ⟨(some 13), 15, .len false (.t 12), none, []⟩, ⟨(some 14), 16, .bin .lss (.t 11) (.t 13), none, []⟩])
  (.cond (.t 14)
  .skip
  (.exit 0)))
  (.seq (.block 1 (.seq (.draw [⟨(some 17), 19, .mv (.t 0), none, []⟩, ⟨(some 18), 20, .mv (.t 5), none, []⟩, ⟨(some 19), 21, .iaddr 1 (.t 17) (.t 18), none, []⟩, ⟨(some 20), 22, .load false 1 (.t 19), none, []⟩, ⟨(some 21), 23, .mv (.t 1), none, []⟩, ⟨(some 22), 24, .mv (.t 5), none, []⟩, ⟨(some 23), 25, .iaddr 1 (.t 21) (.t 22), none, []⟩, ⟨(some 24), 26, .load false 1 (.t 23), none, []⟩, ⟨(some 25), 27, .bin .neq (.t 20) (.t 24), none, []⟩])
  (.cond (.t 25)
  (.seq (.ops [⟨(some 4), 6, .mv (.c (.b false)), none, []⟩])
  .ret)
  .skip)))
  (.ops [⟨(some 15), 17, .mv (.t 5), none, []⟩, ⟨(some 16), 18, .bin .add (.t 15) (.c (.i .i64 1)), none, []⟩, ⟨(some 5), 7, .mv (.t 16), none, []⟩]))))))
  (.seq (.ops [⟨(some 4), 6, .mv (.c (.b true)), none, []⟩])
  .ret))))
theorem k24 : compCode Try.prog Try.f24.ntmps Try.f24.body.get! = some c24 := by kernel_rfl
theorem r24 : resTmps Try.prog Try.f24.results.toList = some [.tmp 4] := by kernel_rfl
/- spec.l10List -/
def c131 : TCode := (.seq (.ops [⟨(some 4), 6, .mv (.c (.sl true 1 [])), none, []⟩])
  (.seq (.ops [⟨(some 7), 9, .bslice 1 0 [(.i .i64 0)] [], none, []⟩, ⟨(some 5), 7, .mv (.t 7), none, []⟩])
  (.seq (.seq (.ops [⟨(some 6), 8, .mv (.c (.i .i64 0)), none, []⟩])
  (.block 0 (.loop (.seq (.seq (.ops [⟨(some 8), 10, .mv (.t 6), none, []⟩, ⟨(some 9), 11, .mv (.t 1), none, []⟩, ⟨(some 10), 12, .bin .lss (.t 8) (.t 9), none, []⟩])
  (.cond (.t 10)
  .skip
  (.exit 0)))
  (.seq (.block 1 (.seq (.ops [⟨(some 13), 15, .mv (.t 0), none, []⟩, ⟨(some 14), 16, .call 132 [((.t 13), 3), ((.c (.i .i64 3)), 0)], none, []⟩])
  (.cond (.t 14)
  (.ops [⟨(some 15), 17, .mv (.t 5), none, []⟩, ⟨(some 16), 18, .mv (.t 6), none, []⟩, ⟨(some 17), 19, .bslice 1 1 [(.i .i64 0)] [(0, (.t 16))], none, []⟩, ⟨(some 18), 20, .app 1 8 (.t 15) (.t 17), none, []⟩, ⟨(some 5), 7, .mv (.t 18), none, []⟩])
  .skip)))
  (.ops [⟨(some 11), 13, .mv (.t 6), none, []⟩, ⟨(some 12), 14, .bin .add (.t 11) (.c (.i .i64 1)), none, []⟩, ⟨(some 6), 8, .mv (.t 12), none, []⟩]))))))
  (.seq (.seq (.ops [⟨(some 19), 21, .mv (.t 0), none, []⟩, ⟨(some 20), 22, .call 132 [((.t 19), 3), ((.c (.i .i64 20)), 0)], none, []⟩])
  (.cond (.t 20)
  (.ops [⟨(some 21), 23, .mv (.t 5), none, []⟩, ⟨(some 22), 24, .mv (.t 0), none, []⟩, ⟨(some 23), 25, .call 142 [((.t 22), 3), ((.c (.i .i64 9)), 0)], none, []⟩, ⟨(some 24), 26, .bin .sub (.t 23) (.c (.i .i64 2)), none, []⟩, ⟨(some 25), 27, .bslice 1 1 [(.i .i64 0)] [(0, (.t 24))], none, []⟩, ⟨(some 26), 28, .app 1 8 (.t 21) (.t 25), none, []⟩, ⟨(some 5), 7, .mv (.t 26), none, []⟩])
  .skip))
  (.seq (.ops [⟨(some 27), 29, .mv (.t 5), none, []⟩, ⟨(some 4), 6, .mv (.t 27), none, []⟩])
  .ret)))))
theorem k131 : compCode Try.prog Try.f131.ntmps Try.f131.body.get! = some c131 := by kernel_rfl
theorem r131 : resTmps Try.prog Try.f131.results.toList = some [.tmp 4] := by kernel_rfl
/- spec.l10Effect -/
def c72 : TCode := (.seq (.ops [⟨(some 2), 4, .box 10 (.c (.ag [(.sl true 1 []), (.sl true 1 []), (.sl true 1 []), (.sl true 1 []), (.sl true 1 []), (.sl true 1 []), (.sl true 1 []), (.sl true 1 []), (.b false), (.b false)])), none, []⟩])
  (.seq (.ops [⟨(some 3), 5, .mv (.t 0), none, []⟩, ⟨(some 4), 6, .call 131 [((.t 3), 3), ((.c (.i .i64 5)), 0)], none, []⟩, ⟨(some 5), 7, .mv (.t 0), none, []⟩, ⟨(some 6), 8, .call 131 [((.t 5), 3), ((.c (.i .i64 5)), 0)], none, []⟩, ⟨(some 7), 9, .mv (.t 0), none, []⟩, ⟨(some 8), 10, .call 131 [((.t 7), 3), ((.c (.i .i64 5)), 0)], none, []⟩, ⟨(some 9), 11, .mv (.t 0), none, []⟩, ⟨(some 10), 12, .call 131 [((.t 9), 3), ((.c (.i .i64 4)), 0)], none, []⟩, ⟨(some 11), 13, .mv (.t 0), none, []⟩, ⟨(some 12), 14, .call 131 [((.t 11), 3), ((.c (.i .i64 4)), 0)], none, []⟩, ⟨(some 13), 15, .mv (.t 0), none, []⟩, ⟨(some 14), 16, .call 131 [((.t 13), 3), ((.c (.i .i64 2)), 0)], none, []⟩, ⟨(some 15), 17, .mv (.t 0), none, []⟩, ⟨(some 16), 18, .call 131 [((.t 15), 3), ((.c (.i .i64 2)), 0)], none, []⟩, ⟨(some 17), 19, .mv (.t 0), none, []⟩, ⟨(some 18), 20, .call 131 [((.t 17), 3), ((.c (.i .i64 5)), 0)], none, []⟩, ⟨(some 19), 21, .mv (.t 0), none, []⟩, ⟨(some 20), 22, .call 132 [((.t 19), 3), ((.c (.i .i64 3)), 0)], none, []⟩, ⟨(some 21), 23, .mv (.t 0), none, []⟩, ⟨(some 22), 24, .call 132 [((.t 21), 3), ((.c (.i .i64 4)), 0)], none, []⟩, ⟨(some 23), 25, .build [(.sl true 1 []), (.sl true 1 []), (.sl true 1 []), (.sl true 1 []), (.sl true 1 []), (.sl true 1 []), (.sl true 1 []), (.sl true 1 []), (.b false), (.b false)] [(0, 1, (.t 4)), (1, 1, (.t 6)), (2, 1, (.t 8)), (3, 1, (.t 10)), (4, 1, (.t 12)), (5, 1, (.t 14)), (6, 1, (.t 16)), (7, 1, (.t 18)), (8, 1, (.t 20)), (9, 1, (.t 22))], none, []⟩, ⟨none, 1001021, .store 10 (.t 2) (.t 23), none, []⟩])
  .ret))
theorem k72 : compCode Try.prog Try.f72.ntmps Try.f72.body.get! = some c72 := by kernel_rfl
theorem r72 : resTmps Try.prog Try.f72.results.toList = some [.cell 2 true 10] := by kernel_rfl
/- spec.DrawEffJoin -/
def c21 : TCode := (.seq (.ops [⟨(some 2), 4, .box 10 (.c (.ag [(.sl true 1 []), (.sl true 1 []), (.sl true 1 []), (.sl true 1 []), (.sl true 1 []), (.sl true 1 []), (.sl true 1 []), (.sl true 1 []), (.b false), (.b false)])), none, []⟩, ⟨(some 3), 5, .box 10 (.c (.ag [(.sl true 1 []), (.sl true 1 []), (.sl true 1 []), (.sl true 1 []), (.sl true 1 []), (.sl true 1 []), (.sl true 1 []), (.sl true 1 []), (.b false), (.b false)])), none, []⟩])
  (.seq (.ops [⟨(some 6), 8, .mv (.t 0), none, []⟩, ⟨(some 7), 9, .call 71 [((.t 6), 0)], none, []⟩, ⟨(some 4), 6, .mv (.t 7), none, []⟩])
  (.seq (.ops [⟨(some 8), 10, .mv (.t 4), none, []⟩, ⟨(some 9), 11, .call 72 [((.t 8), 3)], none, []⟩, ⟨(some 5), 7, .box 10 (.c (.ag [(.sl true 1 []), (.sl true 1 []), (.sl true 1 []), (.sl true 1 []), (.sl true 1 []), (.sl true 1 []), (.sl true 1 []), (.sl true 1 []), (.b false), (.b false)])), none, []⟩, ⟨none, 1002003, .store 10 (.t 5) (.t 9), none, []⟩])
  (.seq (.draw [⟨(some 10), 12, .load true 10 (.t 5), none, []⟩, ⟨(some 11), 13, .mv (.t 4), none, []⟩, ⟨(some 12), 14, .call 72 [((.t 11), 3)], none, [0]⟩, ⟨none, 1003003, .store 10 (.t 2) (.t 10), none, []⟩, ⟨none, 1003004, .store 10 (.t 3) (.t 12), none, []⟩])
  .ret))))
theorem k21 : compCode Try.prog Try.f21.ntmps Try.f21.body.get! = some c21 := by kernel_rfl
theorem r21 : resTmps Try.prog Try.f21.results.toList = some [.cell 2 true 10, .cell 3 true 10] := by kernel_rfl
/- laws.FnJoin -/
def c4 : TCode := (.seq (.ops [⟨(some 2), 4, .mv (.c (.b false)), none, []⟩])
  (.seq (.seq (.ops [⟨(some 10), 12, .mv (.t 0), none, []⟩, ⟨(some 11), 13, .call 20 [((.t 10), 0)], none, []⟩])
  (.cond (.t 11)
  (.seq (.ops [⟨(some 2), 4, .mv (.c (.b true)), none, []⟩])
  .ret)
  .skip))
  (.seq (.ops [⟨(some 13), 15, .mv (.t 0), none, []⟩, ⟨(some 14), 16, .call 21 [((.t 13), 0)], none, []⟩, ⟨(some 12), 14, .mv (.t 14), none, []⟩, ⟨(some 15), 17, .ext 0 (.t 12), none, []⟩, ⟨(some 16), 18, .ext 1 (.t 12), none, []⟩, ⟨(some 3), 5, .box 10 (.c (.ag [(.sl true 1 []), (.sl true 1 []), (.sl true 1 []), (.sl true 1 []), (.sl true 1 []), (.sl true 1 []), (.sl true 1 []), (.sl true 1 []), (.b false), (.b false)])), none, []⟩, ⟨(some 4), 6, .box 10 (.c (.ag [(.sl true 1 []), (.sl true 1 []), (.sl true 1 []), (.sl true 1 []), (.sl true 1 []), (.sl true 1 []), (.sl true 1 []), (.sl true 1 []), (.b false), (.b false)])), none, []⟩, ⟨none, 1003007, .store 10 (.t 3) (.t 15), none, []⟩, ⟨none, 1003008, .store 10 (.t 4) (.t 16), none, []⟩])
  (.seq (.ops [⟨(some 17), 19, .load true 10 (.t 3), none, []⟩, ⟨(some 18), 20, .load true 10 (.t 4), none, []⟩, ⟨(some 19), 21, .call 16 [((.t 17), 0), ((.t 18), 0)], none, []⟩, ⟨(some 5), 7, .box 10 (.c (.ag [(.sl true 1 []), (.sl true 1 []), (.sl true 1 []), (.sl true 1 []), (.sl true 1 []), (.sl true 1 []), (.sl true 1 []), (.sl true 1 []), (.b false), (.b false)])), none, []⟩, ⟨none, 1004004, .store 10 (.t 5) (.t 19), none, []⟩])
  (.seq (.ops [⟨(some 20), 22, .load true 10 (.t 4), none, []⟩, ⟨(some 21), 23, .load true 10 (.t 3), none, []⟩, ⟨(some 22), 24, .call 16 [((.t 20), 0), ((.t 21), 0)], none, []⟩, ⟨(some 6), 8, .box 10 (.c (.ag [(.sl true 1 []), (.sl true 1 []), (.sl true 1 []), (.sl true 1 []), (.sl true 1 []), (.sl true 1 []), (.sl true 1 []), (.sl true 1 []), (.b false), (.b false)])), none, []⟩, ⟨none, 1005004, .store 10 (.t 6) (.t 22), none, []⟩])
  (.seq (.ops [⟨(some 23), 25, .load true 10 (.t 5), none, []⟩, ⟨(some 24), 26, .load true 10 (.t 4), none, []⟩, ⟨(some 25), 27, .call 16 [((.t 23), 0), ((.t 24), 0)], none, []⟩, ⟨(some 7), 9, .box 10 (.c (.ag [(.sl true 1 []), (.sl true 1 []), (.sl true 1 []), (.sl true 1 []), (.sl true 1 []), (.sl true 1 []), (.sl true 1 []), (.sl true 1 []), (.b false), (.b false)])), none, []⟩, ⟨none, 1006004, .store 10 (.t 7) (.t 25), none, []⟩])
  (.seq (.ops [⟨(some 26), 28, .load true 10 (.t 3), none, []⟩, ⟨(some 27), 29, .load true 10 (.t 4), none, []⟩, ⟨(some 28), 30, .call 14 [((.t 26), 0), ((.t 27), 0)], none, []⟩, ⟨(some 8), 10, .box 10 (.c (.ag [(.sl true 1 []), (.sl true 1 []), (.sl true 1 []), (.sl true 1 []), (.sl true 1 []), (.sl true 1 []), (.sl true 1 []), (.sl true 1 []), (.b false), (.b false)])), none, []⟩, ⟨none, 1007004, .store 10 (.t 8) (.t 28), none, []⟩])
  (.seq (.ops [⟨(some 29), 31, .load true 10 (.t 3), none, []⟩, ⟨(some 30), 32, .load true 10 (.t 5), none, []⟩, ⟨(some 31), 33, .call 22 [((.t 29), 0), ((.t 30), 0)], none, []⟩, ⟨(some 32), 34, .mv (.t 31), none, []⟩, ⟨(some 33), 35, .load true 10 (.t 4), (some (32, true)), []⟩, ⟨(some 34), 36, .load true 10 (.t 5), (some (32, true)), []⟩, ⟨(some 35), 37, .call 22 [((.t 33), 0), ((.t 34), 0)], (some (32, true)), []⟩, ⟨(some 36), 38, .pick (.t 32) (.t 35) (.c (.b false)), none, []⟩, ⟨(some 37), 39, .mv (.t 36), none, []⟩, ⟨(some 38), 40, .load true 10 (.t 5), (some (37, true)), []⟩, ⟨(some 39), 41, .load true 10 (.t 8), (some (37, true)), []⟩, ⟨(some 40), 42, .call 22 [((.t 38), 0), ((.t 39), 0)], (some (37, true)), []⟩, ⟨(some 41), 43, .pick (.t 37) (.t 40) (.c (.b false)), none, []⟩, ⟨(some 42), 44, .mv (.t 41), none, []⟩, ⟨(some 43), 45, .load true 10 (.t 8), (some (42, true)), []⟩, ⟨(some 44), 46, .load true 10 (.t 5), (some (42, true)), []⟩, ⟨(some 45), 47, .call 23 [((.t 43), 0), ((.t 44), 0)], (some (42, true)), []⟩, ⟨(some 46), 48, .pick (.t 42) (.t 45) (.c (.b false)), none, []⟩, ⟨(some 9), 11, .mv (.t 46), none, []⟩])
  (.seq (.draw [⟨(some 47), 49, .mv (.t 9), none, []⟩, ⟨(some 48), 50, .mv (.t 47), none, []⟩, ⟨(some 49), 51, .faddr 0 1 (.t 5), (some (48, true)), []⟩, ⟨(some 50), 52, .load false 1 (.t 49), (some (48, true)), []⟩, ⟨(some 51), 53, .faddr 0 1 (.t 6), (some (48, true)), []⟩, ⟨(some 52), 54, .load false 1 (.t 51), (some (48, true)), []⟩, ⟨(some 53), 55, .call 24 [((.t 50), 0), ((.t 52), 0)], (some (48, true)), []⟩, ⟨(some 54), 56, .pick (.t 48) (.t 53) (.c (.b false)), none, []⟩, ⟨(some 55), 57, .mv (.t 54), none, []⟩, ⟨(some 56), 58, .faddr 7 1 (.t 5), (some (55, true)), []⟩, ⟨(some 57), 59, .load false 1 (.t 56), (some (55, true)), []⟩, ⟨(some 58), 60, .faddr 7 1 (.t 6), (some (55, true)), []⟩, ⟨(some 59), 61, .load false 1 (.t 58), (some (55, true)), []⟩, ⟨(some 60), 62, .call 24 [((.t 57), 0), ((.t 59), 0)], (some (55, true)), []⟩, ⟨(some 61), 63, .pick (.t 55) (.t 60) (.c (.b false)), none, []⟩, ⟨(some 62), 64, .mv (.t 61), none, []⟩, ⟨(some 63), 65, .faddr 5 1 (.t 7), (some (62, true)), []⟩, ⟨(some 64), 66, .load false 1 (.t 63), (some (62, true)), []⟩, ⟨(some 65), 67, .faddr 5 1 (.t 5), (some (62, true)), []⟩, ⟨(some 66), 68, .load false 1 (.t 65), (some (62, true)), []⟩, ⟨(some 67), 69, .call 24 [((.t 64), 0), ((.t 66), 0)], (some (62, true)), []⟩, ⟨(some 68), 70, .pick (.t 62) (.t 67) (.c (.b false)), none, []⟩, ⟨(some 69), 71, .mv (.t 68), none, []⟩, ⟨(some 70), 72, .load true 10 (.t 7), (some (69, true)), []⟩, ⟨(some 71), 73, .load true 10 (.t 5), (some (69, true)), []⟩, ⟨(some 72), 74, .call 22 [((.t 70), 0), ((.t 71), 0)], (some (69, true)), []⟩, ⟨(some 73), 75, .pick (.t 69) (.t 72) (.c (.b false)), none, []⟩, ⟨(some 74), 76, .mv (.t 73), none, []⟩, ⟨(some 75), 77, .load true 10 (.t 5), (some (74, true)), []⟩, ⟨(some 76), 78, .call 25 [((.t 75), 0)], (some (74, true)), []⟩, ⟨(some 77), 79, .load true 10 (.t 3), (some (74, true)), [29]⟩, ⟨(some 78), 80, .call 26 [((.t 77), 0)], (some (74, true)), []⟩, ⟨(some 79), 81, .mv (.t 78), (some (74, true)), []⟩, ⟨(some 80), 82, .load true 10 (.t 4), (some (79, false)), []⟩, ⟨(some 81), 83, .call 26 [((.t 80), 0)], (some (79, false)), []⟩, ⟨(some 82), 84, .pick (.t 79) (.c (.b true)) (.t 81), (some (74, true)), []⟩, ⟨(some 83), 85, .eqs false false [.b] (.t 76) (.t 82), (some (74, true)), []⟩, ⟨(some 84), 86, .pick (.t 74) (.t 83) (.c (.b false)), none, []⟩, ⟨(some 2), 4, .mv (.t 84), none, []⟩])
  .ret)))))))))
theorem k4 : compCode Try.prog Try.f4.ntmps Try.f4.body.get! = some c4 := by kernel_rfl
theorem r4 : resTmps Try.prog Try.f4.results.toList = some [.tmp 2] := by kernel_rfl

set_option maxRecDepth 100000 in
theorem w131 (bs : List Int) (i0 : Nat) (h0 : Int) (n : Nat) (hb : bs.length ≤ 2^40) (hi0 : i0 ≤ bs.length) (hn : n ≤ 10) : ∃ x : Nat × Int × List Int, (x.1 ≤ bs.length ∧ x.2.2.length ≤ 20) ∧ Contract Try.prog true 131 [.own, .ro] [curT bs i0 h0, .i .i64 n] [.sl true 1 (x.2.2.map iT)] [some (curT bs x.1 x.2.1)] := by
  refine mk_contractE [some [(1, 0)]] Try.func131 (c := Try.f131.body.get!) (by kernel_rfl) k131 r131 (of_decide_eq_true rfl) ?_
  unfold c131; unfold curT; simp
  refine twp_forR n (fun j s => ∃ (i : Nat) (h : Int) (L : List Int), i ≤ bs.length ∧ L.length ≤ j ∧ s.t 0 = .pt [(1, 0)] 0 0 ∧ s.t 1 = .i .i64 n ∧ s.t 5 = .rf [(20, 0)] 0 L.length ∧ s.t 6 = .i .i64 j ∧ s.H = lk [(1, [.po true [.sl false 1 (bs.map uT), .i .i64 i, .i .i64 h]]), (20, [.sl true 1 (L.map iT)])]) [19] [(9, 20)] (by simp) (by simp) ?_ ?_
  · refine ⟨i0, h0, [], hi0, ?_⟩
    simp
  · rintro j s hj ⟨i, h, L, hi, hL, q0, q1, q5, q6, qH⟩
    rw [nf_of qH]
    simp [q0, q1, q5, q6]
    have hw : IntKind.i64.wrap ((j : Int) + 1) = j + 1 := wrap_id (by omega) (by omega)
    refine ⟨fun hlt => ?_, fun hge => ?_⟩
    · obtain ⟨⟨i1, h1, b⟩, a1, hC⟩ := w132 bs i h 3 hb hi
      simp only at a1 hC
      unfold curT at hC
      refine callW_ms [.own, .ro] ?_
      simp
      refine callX_of hC (by simp) ?_
      cases b with
      | true =>
        simp [q0, q1, q5, q6, hw]
        exact ⟨by omega, hlt, i1, a1, h1, L ++ [(j : Int)], by simp; omega, by simp, by simp⟩
      | false =>
        simp [q0, q1, q5, q6, hw]
        exact ⟨hlt, i1, a1, h1, L, by omega, rfl, rfl⟩
    · obtain ⟨⟨i1, h1, b⟩, a1, hC⟩ := w132 bs i h 20 hb hi
      simp only at a1 hC
      unfold curT at hC
      refine callW_ms [.own, .ro] ?_
      simp
      refine callX_of hC (by simp) ?_
      cases b with
      | true =>
        simp [q0, q1, q5, q6, hw]
        obtain ⟨⟨i2, h2, y⟩, ⟨a2, b2, c2⟩, hC2⟩ := w142 bs i1 h1 9 hb a1
        simp only at a2 b2 c2 hC2
        unfold curT at hC2
        refine callW_ms [.own, .ro] ?_
        simp
        refine callX_of hC2 (by simp) ?_
        have hy := c2 (by omega)
        have hwy : IntKind.i64.wrap (y - 2) = y - 2 := wrap_id (by omega) (by omega)
        simp [hwy]
        refine ⟨by omega, exK_of (i2, h2, L ++ [y - 2]) ⟨a2, by simp; omega⟩ ?_⟩
        simp
      | false =>
        simp [q0, q1, q5, q6, hw]
        refine exK_of (i1, h1, L) ⟨a1, by simp only; omega⟩ ?_
        simp
/- rest -/
set_option maxRecDepth 100000 in
theorem w72 (bs : List Int) (i0 : Nat) (h0 : Int) (hb : bs.length ≤ 2^40) (hi0 : i0 ≤ bs.length) : ∃ x : Nat × Int × EffP, (x.1 ≤ bs.length ∧ effB 20 x.2.2) ∧ Contract Try.prog true 72 [.own] [curT bs i0 h0] [effO x.2.2] [some (curT bs x.1 x.2.1)] := by
  refine mk_contractE [some [(1, 0)]] Try.func72 (c := Try.f72.body.get!) (by kernel_rfl) k72 r72 (of_decide_eq_true rfl) ?_
  unfold c72; unfold curT; simp
  obtain ⟨⟨i1, h1, L1⟩, ⟨a1, b1⟩, hC1⟩ := w131 bs i0 h0 5 hb hi0 (by omega)
  simp only at a1 b1 hC1
  unfold curT at hC1
  refine callW_ms [.own, .ro] ?_
  simp
  refine callX_of hC1 (by simp) ?_
  simp
  obtain ⟨⟨i2, h2, L2⟩, ⟨a2, b2⟩, hC2⟩ := w131 bs i1 h1 5 hb a1 (by omega)
  simp only at a2 b2 hC2
  unfold curT at hC2
  refine callW_ms [.own, .ro] ?_
  simp
  refine callX_of hC2 (by simp) ?_
  simp
  obtain ⟨⟨i3, h3, L3⟩, ⟨a3, b3⟩, hC3⟩ := w131 bs i2 h2 5 hb a2 (by omega)
  simp only at a3 b3 hC3
  unfold curT at hC3
  refine callW_ms [.own, .ro] ?_
  simp
  refine callX_of hC3 (by simp) ?_
  simp
  obtain ⟨⟨i4, h4, L4⟩, ⟨a4, b4⟩, hC4⟩ := w131 bs i3 h3 4 hb a3 (by omega)
  simp only at a4 b4 hC4
  unfold curT at hC4
  refine callW_ms [.own, .ro] ?_
  simp
  refine callX_of hC4 (by simp) ?_
  simp
  obtain ⟨⟨i5, h5, L5⟩, ⟨a5, b5⟩, hC5⟩ := w131 bs i4 h4 4 hb a4 (by omega)
  simp only at a5 b5 hC5
  unfold curT at hC5
  refine callW_ms [.own, .ro] ?_
  simp
  refine callX_of hC5 (by simp) ?_
  simp
  obtain ⟨⟨i6, h6, L6⟩, ⟨a6, b6⟩, hC6⟩ := w131 bs i5 h5 2 hb a5 (by omega)
  simp only at a6 b6 hC6
  unfold curT at hC6
  refine callW_ms [.own, .ro] ?_
  simp
  refine callX_of hC6 (by simp) ?_
  simp
  obtain ⟨⟨i7, h7, L7⟩, ⟨a7, b7⟩, hC7⟩ := w131 bs i6 h6 2 hb a6 (by omega)
  simp only at a7 b7 hC7
  unfold curT at hC7
  refine callW_ms [.own, .ro] ?_
  simp
  refine callX_of hC7 (by simp) ?_
  simp
  obtain ⟨⟨i8, h8, L8⟩, ⟨a8, b8⟩, hC8⟩ := w131 bs i7 h7 5 hb a7 (by omega)
  simp only at a8 b8 hC8
  unfold curT at hC8
  refine callW_ms [.own, .ro] ?_
  simp
  refine callX_of hC8 (by simp) ?_
  simp
  obtain ⟨⟨i9, h9, f9⟩, a9, hC9⟩ := w132 bs i8 h8 3 hb a8
  simp only at a9 hC9
  unfold curT at hC9
  refine callW_ms [.own, .ro] ?_
  simp
  refine callX_of hC9 (by simp) ?_
  simp
  obtain ⟨⟨i10, h10, f10⟩, a10, hC10⟩ := w132 bs i9 h9 4 hb a9
  simp only at a10 hC10
  unfold curT at hC10
  refine callW_ms [.own, .ro] ?_
  simp
  refine callX_of hC10 (by simp) ?_
  simp
  refine exK_of (i10, h10, (L1, L2, L3, L4, L5, L6, L7, L8, f9, f10)) ⟨a10, b1, b2, b3, b4, b5, b6, b7, b8⟩ ?_
  simp [effO]
set_option maxRecDepth 100000 in
theorem w21 (bs : List Int) (hb : bs.length ≤ 2^40) : ∃ x : EffP × EffP, (effB 20 x.1 ∧ effB 20 x.2) ∧ Contract Try.prog false 21 [.ro] [.sl false 1 (bs.map uT)] [effO x.1, effO x.2] [] := by
  refine mk_contractE [] Try.func21 (c := Try.f21.body.get!) (by kernel_rfl) k21 r21 (of_decide_eq_true rfl) ?_
  unfold c21; unfold effO; simp
  obtain ⟨h0, -, hC0⟩ := w71 bs hb
  unfold curT at hC0
  refine callW_ms [.ro] ?_
  simp
  refine callX_of hC0 (by simp) ?_
  simp
  obtain ⟨⟨i1, h1, e1⟩, ⟨a1, b1⟩, hC1⟩ := w72 bs 0 h0 hb (by omega)
  simp only at a1 b1 hC1
  unfold curT effO at hC1
  refine callW_ms [.own] ?_
  simp
  refine callX_of hC1 (by simp) ?_
  simp
  obtain ⟨⟨i2, h2, e2⟩, ⟨a2, b2⟩, hC2⟩ := w72 bs i1 h1 hb a1
  simp only at a2 b2 hC2
  unfold curT effO at hC2
  refine callW_ms [.own] ?_
  simp
  refine callX_of hC2 (by simp) ?_
  simp
  refine exK_of (e1, e2) ⟨b1, b2⟩ ?_
  simp
theorem w24 (a : List Int) (ha : a.length ≤ 2^40) : Contract Try.prog false 24 [.ro, .ro] [.sl false 1 (a.map iT), .sl false 1 (a.map iT)] [.b true] [] := by
  refine mk_contract [] Try.func24 (c := Try.f24.body.get!) (by kernel_rfl) k24 r24 (of_decide_eq_true rfl) fun _ => ?_
  unfold c24; simp
  refine twp_for a.length (fun j s => s.t 0 = .sl false 1 (a.map iT) ∧ s.t 1 = .sl false 1 (a.map iT) ∧ s.t 5 = .i .i64 j ∧ s.H = lk [(1, [])]) [] (by simp) ?_ ?_
  · simp
  · rintro j s hj ⟨q0, q1, q5, qH⟩
    rw [nf_of qH]
    simp [q0, q1, q5]
    intro hlt
    have hw : IntKind.i64.wrap (j + 1) = j + 1 := wrap_id (by omega) (by omega)
    obtain ⟨x, hx⟩ := get_some hlt
    simp [hx, hw, q0, q1, q5]
    exact hlt
theorem asc_comm (a b : List Int) : asc (a ++ b) = asc (b ++ a) := asc_eq (asc_ris _) fun x => by rw [asc_mem]; simp [or_comm]
theorem asc_idem (a b : List Int) : asc (asc (a ++ b) ++ b) = asc (a ++ b) := (asc_eq (asc_ris _) fun x => by
  simp only [List.mem_append, asc_mem]
  constructor
  · exact .inl
  · rintro (h | h)
    · exact h
    · exact .inr h).symm
theorem allIn_l (a b : List Int) : allIn a (asc (a ++ b)) := fun x hx => (asc_mem _ _).2 (by simp [hx])
theorem allIn_r (a b : List Int) : allIn b (asc (a ++ b)) := fun x hx => (asc_mem _ _).2 (by simp [hx])
theorem allIn_self (a : List Int) : allIn a a := fun x hx => hx
theorem asc_pos (l : List Int) : 0 < (asc l).length ↔ 0 < l.length := by
  constructor
  · intro h
    obtain ⟨x, hx⟩ := List.exists_mem_of_length_pos h
    exact List.length_pos_of_mem ((asc_mem l x).1 hx)
  · intro h
    obtain ⟨x, hx⟩ := List.exists_mem_of_length_pos h
    exact List.length_pos_of_mem ((asc_mem l x).2 hx)
theorem effIn_l (a b : EffP) : effIn a (effJ a b) := by
  refine ⟨⟨allIn_l _ _, allIn_l _ _, allIn_l _ _, allIn_l _ _, allIn_l _ _, allIn_l _ _, allIn_l _ _, allIn_l _ _⟩, fun h => ?_, fun h => ?_⟩ <;> simp [effJ, h]
theorem effIn_r (a b : EffP) : effIn b (effJ a b) := by
  refine ⟨⟨allIn_r _ _, allIn_r _ _, allIn_r _ _, allIn_r _ _, allIn_r _ _, allIn_r _ _, allIn_r _ _, allIn_r _ _⟩, fun h => ?_, fun h => ?_⟩ <;> simp [effJ, h]
theorem effIn_self (a : EffP) : effIn a a := ⟨⟨allIn_self _, allIn_self _, allIn_self _, allIn_self _, allIn_self _, allIn_self _, allIn_self _, allIn_self _⟩, id, id⟩
theorem effJ_idem (a b : EffP) : effJ (effJ a b) b = effJ a b := by
  simp only [effJ, asc_idem, Bool.or_assoc, Bool.or_self]
theorem effJ_rd (a b : EffP) : (effJ b a).1 = (effJ a b).1 := asc_comm _ _
theorem effJ_ad (a b : EffP) : (effJ b a).2.2.2.2.2.2.2.1 = (effJ a b).2.2.2.2.2.2.2.1 := asc_comm _ _
theorem cmds_J (a b : EffP) : cmdsF (effJ a b) = (cmdsF a || cmdsF b) := by
  have h := asc_pos (a.2.2.2.2.2.2.2.1 ++ b.2.2.2.2.2.2.2.1)
  have e1 : (effJ a b).2.2.2.2.2.2.2.2.1 = (a.2.2.2.2.2.2.2.2.1 || b.2.2.2.2.2.2.2.2.1) := rfl
  have e2 : (effJ a b).2.2.2.2.2.2.2.2.2 = (a.2.2.2.2.2.2.2.2.2 || b.2.2.2.2.2.2.2.2.2) := rfl
  have e : decide (0 < (effJ a b).2.2.2.2.2.2.2.1.length) = (decide (0 < a.2.2.2.2.2.2.2.1.length) || decide (0 < b.2.2.2.2.2.2.2.1.length)) := by
    rw [← Bool.decide_or]
    exact decide_eq_decide.2 (h.trans (by rw [List.length_append]; omega))
  unfold cmdsF
  rw [e, e1, e2]
  generalize decide (0 < a.2.2.2.2.2.2.2.1.length) = p
  generalize decide (0 < b.2.2.2.2.2.2.2.1.length) = q
  generalize a.2.2.2.2.2.2.2.2.1 = p1
  generalize b.2.2.2.2.2.2.2.2.1 = p2
  generalize a.2.2.2.2.2.2.2.2.2 = p3
  generalize b.2.2.2.2.2.2.2.2.2 = p4
  cases p <;> cases q <;> cases p1 <;> cases p2 <;> cases p3 <;> cases p4 <;> rfl
theorem effB_mono {e : EffP} {k m : Nat} (h : effB k e) (hk : k ≤ m) : effB m e := by unfold effB at h ⊢; omega
set_option maxHeartbeats 2000000 in
set_option maxRecDepth 100000 in
theorem w4 (bs : List Int) : Contract Try.prog false 4 [.ro] [.sl false 1 (bs.map uT)] [.b true] [] := by
  refine mk_contract [] Try.func4 (c := Try.f4.body.get!) (by kernel_rfl) k4 r4 (of_decide_eq_true rfl) fun _ => ?_
  unfold c4; simp
  by_cases hbig : 1048576 < bs.length
  · refine callW_ms [.ro] ?_
    simp
    refine callX_of (w20 bs) (by simp) ?_
    simp [hbig]
  refine callW_ms [.ro] ?_
  simp
  refine callX_of (w20 bs) (by simp) ?_
  simp [hbig]
  obtain ⟨⟨a, b⟩, ⟨ha, hb⟩, hC⟩ := w21 bs (by omega)
  simp only at ha hb hC
  unfold effO at hC
  have hxb := effJ_b ha hb
  have hyb := effJ_b hb ha
  have hJ1 := w16 a b (effB_mono ha (by omega)) (effB_mono hb (by omega))
  have hJ2 := w16 b a (effB_mono hb (by omega)) (effB_mono ha (by omega))
  have hJ3 := w16 (effJ a b) b (effB_mono hxb (by omega)) (effB_mono hb (by omega))
  have hJ4 := w14 a b (effB_mono ha (by omega)) (effB_mono hb (by omega))
  have hW1 := (w22 a (effJ a b) (effB_mono ha (by omega)) (effB_mono hxb (by omega))).t (effIn_l a b)
  have hW2 := (w22 b (effJ a b) (effB_mono hb (by omega)) (effB_mono hxb (by omega))).t (effIn_r a b)
  have hW3 := (w22 (effJ a b) (effJ a b) (effB_mono hxb (by omega)) (effB_mono hxb (by omega))).t (effIn_self _)
  have hW4 := (w23 (effJ a b) (effJ a b) (effB_mono hxb (by omega)) (effB_mono hxb (by omega))).t (effIn_self _)
  have hM1 := w25 (effJ a b)
  have hM2 := w26 a
  have hM3 := w26 b
  have hcm := cmds_J a b
  have hrd := effJ_rd a b
  have had := effJ_ad a b
  rw [effJ_idem] at hJ3
  generalize effJ a b = x at *
  generalize effJ b a = y at *
  have hxl : x.1.length ≤ 2^40 ∧ x.2.2.2.2.2.2.2.1.length ≤ 2^40 ∧ x.2.2.2.2.2.1.length ≤ 2^40 := by unfold effB at hxb; omega
  refine callW_ms [.ro] ?_
  simp
  refine callX_of hC (by simp) ?_
  simp
  refine callW_ms [.ro, .ro] ?_
  simp
  refine callX_of hJ1 (by simp) ?_
  simp [effO]
  refine callW_ms [.ro, .ro] ?_
  simp
  refine callX_of hJ2 (by simp) ?_
  simp [effO, hrd, had]
  refine callW_ms [.ro, .ro] ?_
  simp
  refine callX_of hJ3 (by simp) ?_
  simp [effO]
  refine callW_ms [.ro, .ro] ?_
  simp
  refine callX_of hJ4 (by simp) ?_
  simp [effO]
  refine callW_ms [.ro, .ro] ?_
  simp
  refine callX_of hW1 (by simp) ?_
  simp
  refine callW_ms [.ro, .ro] ?_
  simp
  refine callX_of hW2 (by simp) ?_
  simp
  refine callW_ms [.ro, .ro] ?_
  simp
  refine callX_of hW3 (by simp) ?_
  simp
  refine callW_ms [.ro, .ro] ?_
  simp
  refine callX_of hW4 (by simp) ?_
  simp
  refine callW_ms [.ro, .ro] ?_
  simp
  refine callX_of (w24 x.1 hxl.1) (by simp) ?_
  simp
  refine callW_ms [.ro, .ro] ?_
  simp
  refine callX_of (w24 x.2.2.2.2.2.2.2.1 hxl.2.1) (by simp) ?_
  simp
  refine callW_ms [.ro, .ro] ?_
  simp
  refine callX_of (w24 x.2.2.2.2.2.1 hxl.2.2) (by simp) ?_
  simp
  refine callW_ms [.ro, .ro] ?_
  simp
  refine callX_of hW3 (by simp) ?_
  simp
  refine callW_ms [.ro] ?_
  simp
  refine callX_of hM1 (by simp) ?_
  simp
  rw [hcm]
  generalize cmdsF a = p at *
  generalize cmdsF b = q at *
  refine callW_ms [.ro] ?_
  simp
  refine callX_of hM2 (by simp) ?_
  cases p with
  | true => simp
  | false =>
    simp
    refine callW_ms [.ro] ?_
    simp
    refine callX_of hM3 (by simp) ?_
    simp
end Go.Proofs.YtmedelmfkciblaaT
