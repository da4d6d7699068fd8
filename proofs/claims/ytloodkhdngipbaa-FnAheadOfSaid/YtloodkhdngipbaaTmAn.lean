/- TM, part An: promises of functions that turn a row of integers in place, out of what they do to worlds. -/
import Derived.Test.YtloodkhdngipbaaTmAm
import Derived.Sort.Grow
namespace Go.Proofs.YtloodkhdngipbaaT
set_option linter.unusedVariables false
set_option linter.unusedSimpArgs false
open Go Go.Sort

section
variable {P : Program} {w : World} {κ : Path → Value} {γ : Nat → Nat → Option Path} {A : Nat → Nat → Prop}
abbrev eI : Int → Value := Value.int .i64

theorem own_ints {p : Path} {zs : List Int} {v : Value} (h : TR w κ γ A p (.sl true 1 (zs.map iT)) v) :
    κ p = v ∧ ((zs = [] ∧ v = .slice none 0 0) ∨ ∃ B o c arr T, v = .slice (some ⟨B, o, none⟩) zs.length c ∧ zs.length ≤ c ∧ w.heap[B]? = some (.cells arr T (0, 0)) ∧ o + c ≤ arr.size ∧ (∀ k, k < c → γ B (o + k) = some p) ∧ Holds eI w B o zs.toArray) := by
  generalize hu : TV.sl true 1 (zs.map iT) = u at h
  cases h with
  | pure _ _ _ h => subst hu; cases h
  | sl0 _ z hk =>
    injection hu with _ _ h3
    exact ⟨hk, .inl ⟨by simpa using h3, rfl⟩⟩
  | po => cases hu
  | sl _ z n c B o es arr T hk hl hn hz hb hs hg hc =>
    injection hu with _ h2 h3
    subst h2; subst h3
    rw [List.length_map] at hl
    subst hl
    refine ⟨hk, .inr ⟨B, o, c, arr, T, rfl, hn, hb, by omega, fun k hk => hg k (by omega), fun j hj => ?_⟩⟩
    rw [List.size_toArray] at hj
    have hge : (zs.map iT)[j]? = some (iT zs[j]) := by rw [List.getElem?_map, List.getElem?_eq_getElem hj]; rfl
    have h1 := hc j 0 _ _ hge rfl
    have h2 : arr[o + j * 1 + 0]? = some (.int .i64 zs[j]) := by
      have hlt : o + j * 1 + 0 < arr.size := by omega
      rw [Array.getElem?_eq_getElem hlt] at h1 ⊢
      simp only [Option.getD_some] at h1
      generalize arr[o + j * 1 + 0] = x at h1
      cases h1 with
      | pure _ _ _ h => cases h; rfl
    have h3 : zs.toArray[j]! = zs[j] := by rw [getElem!_pos _ j (by simpa using hj)]; simp
    simp only [Nat.mul_one, Nat.add_zero] at h2
    refine ⟨?_, ?_⟩
    · simp only [World.cell?, hb, h3]
      simpa using h2
    · simp only [World.frozen?, hb]
      simp
/-- A block behind the row's turn. -/
theorem heap_put {B o n : Nat} {arr : Array Value} {T : TypeId} {fz : Nat × Nat} {d : Array Int} {os : Array Obj} (hb : w.heap[B]? = some (.cells arr T fz)) :
    (grow (putRow eI (Sort.ahead w n) B o d) os).heap[B]? = some (.cells (putCells eI o d arr) T fz) := by
  have hlt : B < w.heap.size := by
    rcases Nat.lt_or_ge B w.heap.size with h | h
    · exact h
    · rw [Array.getElem?_eq_none h] at hb; cases hb
  rw [heap_grow_old _ _ (by simpa using hlt)]
  simp only [putRow, mapBlock, heap_ahead, Array.getElem?_modify, if_true, hb]
  rfl
theorem heap_put_ne {B o n b : Nat} {d : Array Int} {os : Array Obj} (hlt : b < w.heap.size) (hne : b ≠ B) : (grow (putRow eI (Sort.ahead w n) B o d) os).heap[b]? = w.heap[b]? := by
  rw [heap_grow_old _ _ (by simpa using hlt)]
  simp only [putRow, mapBlock, heap_ahead, Array.getElem?_modify]
  rw [if_neg (fun h => hne h.symm)]
theorem lt_heap {b : Nat} {x : Obj} (h : w.heap[b]? = some x) : b < w.heap.size := by
  rcases Nat.lt_or_ge b w.heap.size with h' | h'
  · exact h'
  · rw [Array.getElem?_eq_none h'] at h; cases h
theorem chg_put {B o c n : Nat} {arr : Array Value} {T : TypeId} {p : Path} {d : Array Int} {os : Array Obj} (hb : w.heap[B]? = some (.cells arr T (0, 0))) (hd : d.size ≤ c) (hg : ∀ k, k < c → γ B (o + k) = some p) :
    Chg (fun b o => ∃ q, γ b o = some q) w (grow (putRow eI (Sort.ahead w n) B o d) os) := by
  refine ⟨rfl, rfl, rfl, ?_, ?_, ?_⟩
  · simp
  · intro b arr' T' fz' hb'
    by_cases hB : b = B
    · subst hB
      rw [hb] at hb'; cases hb'
      refine ⟨_, heap_put hb, by simp [putCells], fun k hk => ?_⟩
      simp only [putCells, Array.getElem?_mapIdx]
      cases arr[k]? with
      | none => rfl
      | some x =>
        simp only [Option.map_some]
        rw [if_neg]
        rintro ⟨h1, h2⟩
        exact hk ⟨p, by have := hg (k - o) (by omega); rwa [show o + (k - o) = k by omega] at this⟩
    · exact ⟨arr', by rw [heap_put_ne (lt_heap hb') hB]; exact hb', rfl, fun _ _ => rfl⟩
  · intro b x hb' hx
    have hB : b ≠ B := by
      rintro rfl
      rw [hb] at hb'; cases hb'; exact hx _ _ _ rfl
    rw [heap_put_ne (lt_heap hb') hB]; exact hb'
theorem row_put {B o c n k : Nat} {arr : Array Value} {T : TypeId} {q : Path} {zs' : List Int} {os : Array Obj} {κ' : Path → Value} {γ' : Nat → Nat → Option Path} (hb : w.heap[B]? = some (.cells arr T (0, 0))) (hs : o + c ≤ arr.size)
    (hk : κ' q = .slice (some ⟨B, o, none⟩) k c) (hz : zs'.length ≤ c) (hkl : k ≤ zs'.length) (hg : ∀ k, k < c → γ' B (o + k) = some q) :
    TR (grow (putRow eI (Sort.ahead w n) B o zs'.toArray) os) κ' γ' A q (.sl true 1 ((zs'.take k).map iT)) (.slice (some ⟨B, o, none⟩) k c) := by
  refine .sl q 1 k c B o _ (putCells eI o zs'.toArray arr) T hk (by simp; omega) (by omega) ?_ (heap_put hb) (by simp [putCells]; omega) (fun k hk => hg k (by omega)) ?_
  · intro e he
    obtain ⟨x, _, rfl⟩ := List.mem_map.1 he
    rfl
  · intro i f e u he hu
    rw [List.getElem?_map] at he
    cases hx : (zs'.take k)[i]? with
    | none => rw [hx] at he; cases he
    | some x =>
      rw [hx] at he; cases he
      have hi := (List.getElem?_eq_some_iff.1 hx).1
      rw [List.length_take] at hi
      have hx2 : zs'[i]? = some x := by rw [List.getElem?_take_of_lt (by omega)] at hx; exact hx
      obtain rfl : f = 0 := by
        have := (List.getElem?_eq_some_iff.1 hu).1
        simp at this; omega
      cases hu
      refine .pure _ _ _ ?_
      have hlt : o + i * 1 + 0 < arr.size := by omega
      have hcell : (putCells eI o zs'.toArray arr)[o + i * 1 + 0]? = some (.int .i64 x) := by
        simp only [putCells, Array.getElem?_mapIdx, Array.getElem?_eq_getElem hlt, Option.map_some]
        rw [if_pos ⟨by omega, by simp; omega⟩]
        have hj : o + i * 1 + 0 - o = i := by omega
        rw [hj, getElem!_pos _ i (by simp; omega)]
        simp only [List.getElem_toArray]
        rw [(List.getElem?_eq_some_iff.1 hx2).2]
      rw [hcell]
      exact .i _ _
theorem one_arg {ms : Mode} {u : TV} {vs : List Value} (hA : ArgsR w κ γ A [ms] [u] vs) : ∃ v, vs = [v] := by
  have := hA.len
  match vs, this with
  | [v], _ => exact ⟨v, rfl⟩
theorem one_own {z : Nat} {es : List (List TV)} {v : Value} (hA : ArgsR w κ γ A [.own] [.sl true z es] [v]) : TR w κ γ A [(1, 0)] (.sl true z es) v := by
  have hv : cellsV v = [v] := by
    have := (hA.ag 0 _ v (by simp) rfl rfl).1
    cases v <;> simp_all [isAg, isAgV, cellsV]
  have h1 := hA.own 0 _ rfl
  have h2 := hA.val 0 v (by simp [ownVals, hv])
  rwa [h2] at h1

/-- A function that turns a row of integers in place and hands back nothing. -/
theorem contract_turn {g : FuncId} {zs zs' : List Int} (hl : zs'.length = zs.length)
    (h1 : ∀ (blk off cap : Nat) (w : World), Holds eI w blk off zs.toArray → blk < w.heap.size → zs.length ≤ cap → Calls P g #[.slice (some ⟨blk, off, none⟩) zs.length cap] w fun e w' => e = .returned (.tuple #[]) ∧ ∃ n os, w' = grow (putRow eI (Sort.ahead w n) blk off zs'.toArray) os)
    (h0 : zs = [] → ∀ (w : World), Calls P g #[.slice none 0 0] w fun e w' => e = .returned (.tuple #[]) ∧ w' = w) :
    Contract P false g [.own] [.sl true 1 (zs.map iT)] [] [some (.sl true 1 (zs'.map iT))] := by
  intro w vs κ γ A hA hγ hAA
  obtain ⟨v, rfl⟩ := one_arg hA
  have hT := one_own hA
  obtain ⟨hκ, ⟨rfl, rfl⟩ | ⟨B, o, c, arr, T, rfl, hn, hb, hs, hg, hH⟩⟩ := own_ints hT
  · refine (h0 rfl w).mono ?_
    rintro e w' ⟨rfl, rfl⟩
    obtain rfl : zs' = [] := List.length_eq_zero_iff.1 hl
    refine ⟨[], κ, γ, rfl, ⟨rfl, fun j u v h => by simp at h, fun m c h => by simp at h, fun m v h => by simp at h⟩, fun m u h => ?_, fun b o q h => ⟨hγ b o q h, .inl ⟨q, h⟩⟩, Chg.refl _ _⟩
    match m, h with
    | 0, h => simp at h; subst h; rw [hκ]; exact .sl0 _ _ hκ
  · refine (h1 B o c w hH (lt_heap hb) hn).mono ?_
    rintro e w' ⟨rfl, n, os, rfl⟩
    refine ⟨[], κ, γ, rfl, ⟨rfl, fun j u v h => by simp at h, fun m c h => by simp at h, fun m v h => by simp at h⟩, fun m u h => ?_, fun b o q h => ⟨?_, .inl ⟨q, h⟩⟩, chg_put (c := c) (p := [(1, 0)]) hb (by simp; omega) hg⟩
    · match m, h with
      | 0, h =>
        simp at h; subst h
        rw [hκ]
        have := row_put (A := fun b o => false = true ∧ A b o) (κ' := κ) (γ' := γ) (q := [(1, 0)]) (n := n) (os := os) (zs' := zs') (k := zs'.length) hb hs (by rw [hκ, hl]) (by omega) (Nat.le_refl _) hg
        rw [List.take_length, hl] at this
        exact this
    · have := hγ b o q h
      simp; omega
/-- A function that turns a row of integers in place and hands back what stands ahead in it. -/
theorem contract_cut {g : FuncId} {zs zs' : List Int} (r : List Int) (hl : zs'.length = zs.length) (hr : ∃ k, k ≤ zs'.length ∧ r = zs'.take k)
    (h1 : ∀ (blk off cap : Nat) (w : World), Holds eI w blk off zs.toArray → blk < w.heap.size → zs.length ≤ cap → Calls P g #[.slice (some ⟨blk, off, none⟩) zs.length cap] w fun e w' => e = .returned (.slice (some ⟨blk, off, none⟩) r.length cap) ∧ ∃ n os, w' = grow (putRow eI (Sort.ahead w n) blk off zs'.toArray) os)
    (h0 : zs = [] → ∀ (w : World), Calls P g #[.slice none 0 0] w fun e w' => e = .returned (.slice none 0 0) ∧ w' = w) :
    Contract P false g [.own] [.sl true 1 (zs.map iT)] [.sl true 1 (r.map iT)] [none] := by
  intro w vs κ γ A hA hγ hAA
  obtain ⟨v, rfl⟩ := one_arg hA
  have hT := one_own hA
  obtain ⟨k, hk, rfl⟩ := hr
  have hkl : (zs'.take k).length = k := by simp; omega
  have hout : ∀ (w' : World) (κ' : Path → Value) (γ' : Nat → Nat → Option Path) (m : Nat) (u : TV), ([none] : List (Option TV))[m]? = some (some u) → TR w' κ' γ' (fun b o => false = true ∧ A b o) [(1, m)] u (κ [(1, m)]) := fun w' κ' γ' m u h => by
    match m, h with
    | 0, h => simp at h
  obtain ⟨hκ, ⟨rfl, rfl⟩ | ⟨B, o, c, arr, T, rfl, hn, hb, hs, hg, hH⟩⟩ := own_ints hT
  · obtain rfl : zs' = [] := List.length_eq_zero_iff.1 hl
    refine (h0 rfl w).mono ?_
    rintro e w' ⟨rfl, rfl⟩
    refine ⟨[.slice none 0 0], fun q => if q = [(0, 0)] then .slice none 0 0 else κ q, γ, rfl, ⟨rfl, ?_, ?_, ?_⟩, fun m u h => hout _ _ _ m u h, fun b o q h => ⟨hγ b o q h, .inl ⟨q, h⟩⟩, Chg.refl _ _⟩
    · intro j u v hu hv
      match j, hu with
      | 0, hu => simp at hu hv; subst hu; subst hv; exact ⟨rfl, rfl⟩
    · intro m x hx
      match m, hx with
      | 0, hx =>
        simp [cellsT] at hx; subst hx
        simp only [if_true]
        exact .sl0 _ _ (by simp)
    · intro m v hv
      match m, hv with
      | 0, hv => simp [cellsV] at hv; subst hv; simp
  · refine (h1 B o c w hH (lt_heap hb) hn).mono ?_
    rintro e w' ⟨rfl, n, os, rfl⟩
    rw [hkl]
    refine ⟨[.slice (some ⟨B, o, none⟩) k c], fun q => if q = [(0, 0)] then .slice (some ⟨B, o, none⟩) k c else κ q, fun b i => if γ b i = some [(1, 0)] then some [(0, 0)] else γ b i, rfl, ⟨rfl, ?_, ?_, ?_⟩, fun m u h => hout _ _ _ m u h, fun b i q h => ⟨?_, ?_⟩, chg_put (c := c) (p := [(1, 0)]) hb (by simp; omega) hg⟩
    · intro j u v hu hv
      match j, hu with
      | 0, hu => simp at hu hv; subst hu; subst hv; exact ⟨rfl, rfl⟩
    · intro m x hx
      match m, hx with
      | 0, hx =>
        simp [cellsT, -List.map_take] at hx; subst hx
        simp only [if_true]
        exact row_put (zs' := zs') (q := [(0, 0)]) hb hs (by simp) (by omega) hk (fun k hk => by simp only [hg k hk, if_true])
    · intro m v hv
      match m, hv with
      | 0, hv => simp [cellsV] at hv; subst hv; simp
    · by_cases h' : γ b i = some [(1, 0)]
      · have := hγ b i _ h'
        simp; omega
      · simp only [if_neg h'] at h
        have := hγ b i _ h
        simp; omega
    · by_cases h' : γ b i = some [(1, 0)]
      · exact .inl ⟨_, h'⟩
      · simp only [if_neg h'] at h
        exact .inl ⟨_, h⟩
end
end Go.Proofs.YtloodkhdngipbaaT
