/- Texts of this session's own, one behind the other: Kp1, Kp2, Kt6, Kp3, Kp4, Kp5, Kp6. -/
import Derived.Test.YtehmdblkkpdmoaaGreatPk12
import Derived.Deep.RegionLaw
import Derived.Lib.SliceRun
import Derived.Laws.IdiomCopy
import Derived.Laws.Slices
namespace Go.Proofs.YtehmdblkkpdmoaaGreatT
set_option linter.unusedVariables false
set_option linter.unusedSimpArgs false
open Go Go.Lib Go.RowKit
theorem run_clear_one {P : Program} (w : World) (t e ty : TypeId) (z : Value) (ht : P.underlying t = some (.slice e)) (hv : (zeroValue e).run P w = .ok z w) (h1 : ∀ u ∈ z.cells.toList, u.oneCell' = true) (b o c : Nat)
    (hc : ∀ j, j < z.cells.size → (w.cell? ⟨b, o + j, none⟩).isSome = true) (hf : ∀ j, j < z.cells.size → w.frozen? ⟨b, o + j, none⟩ = false) :
    (Builtin.clear_ #[t] ty #[.slice (some ⟨b, o, none⟩) 1 c]).run P w = .ok (.tuple #[]) (w.setCells b o z.cells.toList) := by
  have hzc : Builtin.zeroCells z.cells 1 = z.cells := by
    unfold Builtin.zeroCells
    apply Array.ext
    · simp
    · intro i h1 h2
      simp [Nat.mod_eq_of_lt h2, h2]
  have hst := run_storeCells_cells (P := P) b o z.cells.toList 0 w (by simpa using hc) (by simpa using hf) h1
  simp only [Nat.add_zero] at hst
  simp [Builtin.clear_, run_underlying ht, hv, hzc, hst, Result.andThen]
theorem run_slice3 {P : Program} (w : World) (t e : TypeId) (i : TypeInfo) (ht : P.underlying t = some (.slice e)) (hif : P.info? e = some i) (b off n c l h m : Nat) (lo hi mx : Option Value) (hb : (Instr.sliceBounds true n c lo hi mx).run P w = .ok (l, h, m) w) :
    (Instr.sliceAt t (.slice (some ⟨b, off, none⟩) n c) lo hi mx).run P w = .ok (.slice (if m = l then some ⟨b, off, none⟩ else some ⟨b, off + l * i.size, none⟩) (h - l) (m - l)) w := by
  by_cases hm : m = l <;> simp [Instr.sliceAt, Instr.slice, run_underlying ht, hb, sizeOf, typeInfo, hif, Result.andThen, hm, Addr.add_lit]
theorem bnd_i {P : Program} (w : World) (k m : Nat) (h : k ≤ m) (c : BoundsCode) : (Instr.sliceBound (.int .i64 k) m c).run P w = .ok k w := by
  have := run_sliceBound (P := P) w .i64 (k : Int) m c (by omega) (by omega)
  simpa using this
set_option maxHeartbeats 4000000 in
set_option maxRecDepth 1000000 in
theorem W105c (w : World) (blk off cap n ix j : Nat) (hj1 : j = ix + 1) (arr : Array Value) (T : TypeId) (hb : w.heap[blk]? = some (.cells arr T (0, 0))) (hs : off + cap * 5 ≤ arr.size) (hn : n ≤ cap) (hn2 : n < 2^62) (hix : ix < n) (h1c : ∀ k, k < n * 5 → ((arr[off + k]?).getD undef).oneCell' = true) :
    Calls Tryz.prog 105 #[.slice (some ⟨blk, off, none⟩) n cap, .int .i64 ix, .int .i64 j] w fun e w' => e = .returned (.slice (some ⟨blk, off, none⟩) (n - 1) cap) ∧
      ∃ news zs, news.length = (n - (ix + 1)) * 5 ∧ (∀ k, k < (n - (ix + 1)) * 5 → news[k]? = arr[off + (ix + 1) * 5 + k]?) ∧ zs.length = 5 ∧ w' = (w.drew.setCells blk (off + ix * 5) news).setCells blk (off + (n - 1) * 5) zs := by
  obtain ⟨news, hnews⟩ : ∃ news : List Value, news = (List.range ((n - (j)) * 5)).map fun k => (arr[off + (j) * 5 + k]?).getD undef := ⟨_, rfl⟩
  have hlen : news.length = (n - (j)) * 5 := by rw [hnews]; simp
  have hk5 : n * 5 ≤ cap * 5 := Nat.mul_le_mul_right 5 hn
  have hget : ∀ k, k < (n - (j)) * 5 → news[k]? = arr[off + (j) * 5 + k]? := by
    intro k hk
    rw [hnews, List.getElem?_map, List.getElem?_range hk]
    have : off + (j) * 5 + k < arr.size := by omega
    simp [this]
  have hcell : ∀ k, w.drew.cell? ⟨blk, k, none⟩ = arr[k]? := fun k => cell_of (w := w.drew) hb
  have hfr : ∀ k, w.drew.frozen? ⟨blk, k, none⟩ = false := fun k => by
    have hb2 : w.drew.heap[blk]? = some (.cells arr T (0, 0)) := hb
    simp only [World.frozen?, hb2]
    simp
  obtain ⟨A, hA, hsrc⟩ : ∃ A : Addr, (if cap = j then some (⟨blk, off, none⟩ : Addr) else some ⟨blk, off + (j) * 5, none⟩) = some A ∧ Hid (∀ t u, news[t]? = some u → w.drew.cell? (A.add t) = some u) := by
    by_cases h : cap = j
    · refine ⟨⟨blk, off, none⟩, by simp [h], fun t u hu => ?_⟩
      have h0 : news.length = 0 := by rw [hlen]; omega
      rw [List.length_eq_zero_iff.1 h0] at hu
      simp at hu
    · refine ⟨⟨blk, off + (j) * 5, none⟩, by simp [h], fun t u hu => ?_⟩
      have ht : t < (n - (j)) * 5 := by
        have := (List.getElem?_eq_some_iff.1 hu).1
        rwa [hlen] at this
      rw [hget t ht] at hu
      rw [Addr.add_lit, hcell]
      exact hu
  have s2 : Hid (∀ u ∈ news, u.oneCell' = true) := by
    intro u hu
    rw [hnews] at hu
    obtain ⟨x, hx, rfl⟩ := List.mem_map.1 hu
    have hx := List.mem_range.1 hx
    have := h1c ((j) * 5 + x) (by omega)
    rwa [← Nat.add_assoc] at this
  have s3 : Hid (∀ t, t < news.length → (w.drew.cell? ⟨blk, off + ix * 5 + t, none⟩).isSome = true ∧ w.drew.frozen? ⟨blk, off + ix * 5 + t, none⟩ = false) := by
    intro t ht
    rw [hlen] at ht
    refine ⟨?_, hfr _⟩
    rw [hcell]
    have : off + ix * 5 + t < arr.size := by omega
    simp [this]
  obtain ⟨i0, hi0⟩ : ∃ i0, i0 = (Tryz.prog.info? 87).get! := ⟨_, rfl⟩
  have e1 : Tryz.prog.info? 87 = some i0 := by rw [hi0]; kernel_rfl
  have e2 : i0.size = 5 := by rw [hi0]; kernel_rfl
  have e5 : i0.zero = some (.agg #[.int .i64 0, .int .i64 0, .int .i64 0, .float .f64 0, .float .f64 0]) := by rw [hi0]; kernel_rfl
  clear hi0
  have e3 : Tryz.prog.underlying 140 = some (.slice 87) := by kernel_rfl
  have e4 : ∀ W, (zeroValue 87).run Tryz.prog W = .ok (.agg #[.int .i64 0, .int .i64 0, .int .i64 0, .float .f64 0, .float .f64 0]) W := by
    intro W
    simp [zeroValue, typeInfo, e1, e5, Result.andThen]
  have hlt : ix < j := by omega
  have hij : ix ≤ j := by omega
  have hjn : j ≤ n := by omega
  have hic : ix ≤ cap := by omega
  have hjc : j ≤ cap := by omega
  obtain ⟨W1, hW1⟩ : ∃ W1, W1 = w.drew.setCells blk (off + ix * 5) news := ⟨_, rfl⟩
  obtain ⟨k1, arr1, k2, k3, k4⟩ := Keep.setCells news (off + ix * 5) w.drew arr hb (by rw [hlen]; omega)
  rw [← hW1] at k2
  have hcl : ∀ ty c, (Builtin.clear_ #[140] ty #[.slice (some ⟨blk, off + (n - 1) * 5, none⟩) 1 c]).run Tryz.prog W1 = .ok (.tuple #[]) (W1.setCells blk (off + (n - 1) * 5) [.int .i64 0, .int .i64 0, .int .i64 0, .float .f64 0, .float .f64 0]) := by
    intro ty c
    refine run_clear_one W1 140 87 ty (.agg #[.int .i64 0, .int .i64 0, .int .i64 0, .float .f64 0, .float .f64 0]) e3 (e4 W1) ?_ blk (off + (n - 1) * 5) c ?_ ?_
    · intro u hu
      simp [Value.cells] at hu
      rcases hu with rfl | rfl <;> rfl
    · intro j hj
      simp [Value.cells] at hj
      rw [cell_of k2]
      have : off + (n - 1) * 5 + j < arr1.size := by omega
      simp [this]
    · intro j hj
      simp [World.frozen?, k2]
  have hj2 : Hid (j = ix + 1) := hj1
  have q1 : ∀ W, (Instr.sliceAt 140 (.slice (some ⟨blk, off, none⟩) n cap) (some (.int .i64 ix)) (some (.int .i64 j)) (some (.int .i64 n))).run Tryz.prog W = .ok (.slice (some ⟨blk, off + ix * 5, none⟩) (j - ix) (n - ix)) W := fun W => by
    have := run_slice3 W 140 87 i0 e3 e1 blk off n cap ix j n (some (.int .i64 ix)) (some (.int .i64 j)) (some (.int .i64 n)) (by simp [Instr.sliceBounds, bnd_i W n cap hn, bnd_i W j n hjn, bnd_i W ix j hij, Result.andThen])
    rwa [if_neg (by omega), e2] at this
  have q2 : ∀ W, (Instr.sliceAt 140 (.slice (some ⟨blk, off, none⟩) n cap) none (some (.int .i64 ix)) none).run Tryz.prog W = .ok (.slice (some ⟨blk, off, none⟩) ix cap) W := fun W => by
    have := run_slice3 W 140 87 i0 e3 e1 blk off n cap 0 ix cap none (some (.int .i64 ix)) none (by simp [Instr.sliceBounds, bnd_i W ix cap hic, Result.andThen])
    simpa using this
  have q3 : ∀ W, (Instr.sliceAt 140 (.slice (some ⟨blk, off, none⟩) n cap) (some (.int .i64 j)) none none).run Tryz.prog W = .ok (.slice (some A) (n - j) (cap - j)) W := fun W => by
    rw [← hA, ← e2]
    exact run_slice3 W 140 87 i0 e3 e1 blk off n cap j n cap _ _ _ (by simp [Instr.sliceBounds, bnd_i W j n hjn, Result.andThen])
  have ek : ((ix : Int) + ((n - j : Nat) : Int)).toNat = n - 1 := by omega
  have hcl2 : ∀ ty, (Builtin.clear_ #[140] ty #[.slice (some ⟨blk, off + ((ix : Int) + ((n - j : Nat) : Int)).toNat * 5, none⟩) (n - ((ix : Int) + ((n - j : Nat) : Int)).toNat) (cap - ((ix : Int) + ((n - j : Nat) : Int)).toNat)]).run Tryz.prog W1 = .ok (.tuple #[]) (W1.setCells blk (off + (n - 1) * 5) [.int .i64 0, .int .i64 0, .int .i64 0, .float .f64 0, .float .f64 0]) := by
    intro ty
    rw [ek, show n - (n - 1) = 1 by omega]
    exact hcl ty _
  have hne : ((ix : Int) == (j : Int)) = false := by simp; omega
  have hW : Hid (W1 = w.drew.setCells blk (off + ix * 5) news) := hW1
  have hG : Hid ((news.length = (n - (j)) * 5) ∧ ∀ k, k < (n - (j)) * 5 → news[k]? = arr[off + (j) * 5 + k]?) := ⟨hlen, hget⟩
  have s1 : Hid (news.length = (n - (j)) * 5) := hlen
  clear hcl ek hj1 hix k1 k2 k3 k4 hW1 hcell hfr hget hnews hlen h1c hk5
  go_enter Tryz.func105, Tryz.ntmps105
  go_wp2_with fail
  go_region_law (refine step_append_room rfl (.tmp 22) (.tmp 25) 140 rfl 87 i0 5 e3 e1 e2 blk off ix cap (by simp [Act.eval, Act.put]) A (n - j) (cap - j) news (by simp [Act.eval, Act.put]) s1.out hsrc.out s2.out (by omega) s3.out ?_; rw [← hW.out])
  go_wp2
  go_ret
  have hj := hj2.out
  subst hj
  refine ⟨by rw [show ix + (n - (ix + 1)) = n - 1 by omega]; rfl, news, [.int .i64 0, .int .i64 0, .int .i64 0, .float .f64 0, .float .f64 0], hG.out.1, hG.out.2, rfl, ?_⟩
  rw [← hW.out]
end Go.Proofs.YtehmdblkkpdmoaaGreatT


namespace Go.Proofs.YtehmdblkkpdmoaaGreatT
set_option linter.unusedVariables false
set_option linter.unusedSimpArgs false
open Go
theorem tr_leaf {w : World} {κ : Path → Value} {γ : Nat → Nat → Option Path} {A : Nat → Nat → Prop} {p : Path} {u : TV} {v : Value} (hu : (∃ k n, u = .i k n) ∨ ∃ b, u = .f b) (h : TR w κ γ A p u v) : (∀ w' A', RR w' A' u v) ∧ v.oneCell' = true := by
  rcases hu with ⟨k, n, rfl⟩ | ⟨b, rfl⟩
  · cases h with
    | pure _ _ _ h => cases h; exact ⟨fun _ _ => .i _ _, rfl⟩
  · cases h with
    | pure _ _ _ h => cases h; exact ⟨fun _ _ => .f _, rfl⟩
theorem clT_leaf {x : CellP} {f : Nat} {u : TV} (h : (clT x)[f]? = some u) : (∃ k n, u = .i k n) ∨ ∃ b, u = .f b := by
  unfold clT at h
  match f, h with
  | 0, h => cases h; exact .inl ⟨_, _, rfl⟩
  | 1, h => cases h; exact .inl ⟨_, _, rfl⟩
  | 2, h => cases h; exact .inl ⟨_, _, rfl⟩
  | 3, h => cases h; exact .inr ⟨_, rfl⟩
  | 4, h => cases h; exact .inr ⟨_, rfl⟩
  | f + 5, h => simp at h
theorem contract_delete {P : Program} {g : FuncId} (M : List CellP) (ix : Nat) (hix : ix < M.length) (hM : M.length < 2^62)
    (hc : ∀ (w : World) (blk off cap n : Nat) (arr : Array Value) (T : TypeId), w.heap[blk]? = some (.cells arr T (0, 0)) → off + cap * 5 ≤ arr.size → n ≤ cap → n < 2^62 → ix < n → (∀ k, k < n * 5 → ((arr[off + k]?).getD undef).oneCell' = true) →
      Calls P g #[.slice (some ⟨blk, off, none⟩) n cap, .int .i64 ix, .int .i64 ((ix + 1 : Nat) : Int)] w fun e w' => e = .returned (.slice (some ⟨blk, off, none⟩) (n - 1) cap) ∧
      ∃ news zs, news.length = (n - (ix + 1)) * 5 ∧ (∀ k, k < (n - (ix + 1)) * 5 → news[k]? = arr[off + (ix + 1) * 5 + k]?) ∧ zs.length = 5 ∧ w' = (w.drew.setCells blk (off + ix * 5) news).setCells blk (off + (n - 1) * 5) zs) :
    Contract P false g [.own, .ro, .ro] [.sl true 5 (M.map clT), .i .i64 ix, .i .i64 ((ix + 1 : Nat) : Int)] [.sl true 5 ((M.eraseIdx ix).map clT)] [none] := by
  intro w vs κ γ A hA hγ hAA
  obtain ⟨v1, v2, v3, rfl⟩ : ∃ v1 v2 v3, vs = [v1, v2, v3] := by
    have := hA.len
    match vs, this with
    | [v1, v2, v3], _ => exact ⟨v1, v2, v3, rfl⟩
  obtain rfl := rv_i (hA.ro 1 _ v2 rfl rfl rfl)
  obtain rfl := rv_i (hA.ro 2 _ v3 rfl rfl rfl)
  have hT := hA.own 0 (.sl true 5 (M.map clT)) rfl
  have hl1 := hA.ag 0 _ v1 (by simp) rfl rfl
  have hv : κ [(1, 0)] = v1 := by
    refine hA.val 0 v1 ?_
    cases v1 <;> first | rfl | simp [isAg, isAgV] at hl1
  rw [hv] at hT
  clear hl1 hA
  obtain ⟨ES, hES⟩ : ∃ ES, ES = M.map clT := ⟨_, rfl⟩
  rw [← hES] at hT
  cases hT with
  | pure _ _ _ h => cases h
  | sl0 _ _ _ =>
    have : M = [] := by simpa using hES.symm
    subst this
    simp at hix
  | sl p z n c B o es arr T hk hl hn hz hb hs hg hcc =>
    have hnM : M.length = n := by rw [hES] at hl; simpa using hl
    have hn5 : n * 5 ≤ c * 5 := Nat.mul_le_mul_right 5 hn
    have hleaf : ∀ i x f u, M[i]? = some x → (clT x)[f]? = some u → (∀ w' A', RR w' A' u ((arr[o + i * 5 + f]?).getD undef)) ∧ ((arr[o + i * 5 + f]?).getD undef).oneCell' = true := by
      intro i x f u hx hu
      exact tr_leaf (clT_leaf hu) (hcc i f (clT x) u (by rw [hES]; simp [hx]) hu)
    have h1c : ∀ k, k < n * 5 → ((arr[o + k]?).getD undef).oneCell' = true := by
      intro k hk5
      obtain ⟨x, hx⟩ : ∃ x, M[k / 5]? = some x := get_some (by omega)
      obtain ⟨u, hu⟩ : ∃ u, (clT x)[k % 5]? = some u := get_some (by simp [clT]; omega)
      have := (hleaf _ _ _ _ hx hu).2
      rwa [Nat.add_assoc, show k / 5 * 5 + k % 5 = k by omega] at this
    refine (hc w B o c n arr T hb hs hn (by omega) (by omega) h1c).mono ?_
    rintro e w' ⟨rfl, news, zs, hnl, hng, hzl, rfl⟩
    have hbB : B < w.heap.size := by
      rcases Nat.lt_or_ge B w.heap.size with h | h
      · exact h
      · rw [Array.getElem?_eq_none h] at hb; cases hb
    obtain ⟨k1, arr1, k2, k3, k4⟩ := Keep.setCells news (o + ix * 5) w.drew arr hb (by omega)
    obtain ⟨k1', arr1', k2', k3', k4'⟩ : Keep (fun b q => b ≠ B ∨ q < o + ix * 5 ∨ o + ix * 5 + news.length ≤ q) w.drew (w.drew.setCells B (o + ix * 5) news) ∧ ∃ arr', (w.drew.setCells B (o + ix * 5) news).heap[B]? = some (.cells arr' T (0, 0)) ∧ arr'.size = arr.size ∧ ∀ q, (q < o + ix * 5 ∨ o + ix * 5 + news.length ≤ q) → arr'[q]? = arr[q]? := by
      obtain ⟨a', j1, j2, j3⟩ := k1.cells B arr T (0, 0) hb
      exact ⟨k1, a', j1, j2, fun q hq => j3 q (.inr hq)⟩
    obtain rfl : arr1' = arr1 := by rw [k2] at k2'; cases k2'; rfl
    obtain ⟨m1, arr2, m2, m3, m4⟩ := Keep.setCells zs (o + (n - 1) * 5) (w.drew.setCells B (o + ix * 5) news) arr1' k2 (by omega)
    have m5 : ∀ q, q < o + (n - 1) * 5 → arr2[q]? = arr1'[q]? := by
      obtain ⟨a', j1, j2, j3⟩ := m1.cells B arr1' T (0, 0) k2
      rw [m2] at j1; cases j1
      exact fun q hq => j3 q (.inr (.inl hq))
    have hsz := Nat.le_trans k1.size m1.size
    refine ⟨[.slice (some ⟨B, o, none⟩) (n - 1) c], fun q => if q = [(0, 0)] then .slice (some ⟨B, o, none⟩) (n - 1) c else κ q, fun b i => if b = B ∧ o ≤ i ∧ i < o + c * 5 then some [(0, 0)] else none, rfl, ⟨rfl, ?_, ?_, ?_⟩, fun m u h => ?_, fun b i q h => ?_, ?_⟩
    · intro j u v hu hv
      match j, hu with
      | 0, hu => simp at hu hv; subst hu; subst hv; exact ⟨rfl, rfl⟩
    · intro m x hx
      match m, hx with
      | 0, hx =>
        simp [cellsT] at hx; subst hx
        simp only [if_true]
        refine .sl _ 5 (n - 1) c B o _ arr2 T (by simp) ?_ (by omega) ?_ m2 (by omega) (fun k hk5 => by simp; omega) ?_
        · simp [List.length_eraseIdx, hnM, show ix < n by omega]
        · intro e he
          obtain ⟨y, _, rfl⟩ := List.mem_map.1 he; rfl
        · intro i f e u he hu
          simp only [List.getElem?_map, Option.map_eq_some_iff] at he
          obtain ⟨x, hx, rfl⟩ := he
          have hf5 : f < 5 := by
            have := (List.getElem?_eq_some_iff.1 hu).1
            simpa [clT] using this
          have hil : i < n - 1 := by
            have := (List.getElem?_eq_some_iff.1 hx).1
            simpa [List.length_eraseIdx, hnM, show ix < n by omega] using this
          have e2 : arr2[o + i * 5 + f]? = arr1'[o + i * 5 + f]? := m5 _ (by omega)
          rw [List.getElem?_eraseIdx] at hx
          by_cases hii : i < ix
          · rw [if_pos hii] at hx
            rw [e2, k4' _ (.inl (by omega))]
            exact .pure _ _ _ ((hleaf i x f u hx hu).1 _ _)
          · rw [if_neg hii] at hx
            have e3 : arr1'[o + i * 5 + f]? = arr[o + (i + 1) * 5 + f]? := by
              have h1 := hng ((i - ix) * 5 + f) (by omega)
              have h2 : o + (ix + 1) * 5 + ((i - ix) * 5 + f) = o + (i + 1) * 5 + f := by omega
              rw [h2] at h1
              have hlt : o + (i + 1) * 5 + f < arr.size := by omega
              rw [Array.getElem?_eq_getElem hlt] at h1 ⊢
              have := k4 _ _ h1
              rw [← this]
              congr 1
              omega
            rw [e2, e3]
            exact .pure _ _ _ ((hleaf (i + 1) x f u hx hu).1 _ _)
    · intro m v hv
      match m, hv with
      | 0, hv => simp [cellsV] at hv; subst hv; simp
    · match m, h with
      | 0, h => simp at h
    · by_cases hh : b = B ∧ o ≤ i ∧ i < o + c * 5
      · obtain ⟨rfl, h1, h2⟩ := hh
        refine ⟨Nat.lt_of_lt_of_le hbB hsz, .inl ⟨[(1, 0)], ?_⟩⟩
        have := hg (i - o) (by omega)
        rwa [show o + (i - o) = i by omega] at this
      · simp only [if_neg hh] at h; cases h
    · have hr1 := setCells_rest news w.drew B (o + ix * 5)
      have hr2 := setCells_rest zs (w.drew.setCells B (o + ix * 5) news) B (o + (n - 1) * 5)
      refine ⟨hr2.1.trans hr1.1, hr2.2.1.trans hr1.2.1, hr2.2.2.trans hr1.2.2, ?_⟩
      have hK := k1.trans m1
      have hK2 : Keep (fun b q => ¬ ∃ p, γ b q = some p) w.drew ((w.drew.setCells B (o + ix * 5) news).setCells B (o + (n - 1) * 5) zs) := hK.mono fun b q hq => by
        by_cases hbb : b = B
        · subst hbb
          refine ⟨.inr ?_, .inr ?_⟩
          · by_cases h1 : q < o + ix * 5
            · exact .inl h1
            · by_cases h2 : o + ix * 5 + news.length ≤ q
              · exact .inr h2
              · exfalso
                have := hg (q - o) (by omega)
                rw [show o + (q - o) = q by omega] at this
                exact hq ⟨_, this⟩
          · by_cases h1 : q < o + (n - 1) * 5
            · exact .inl h1
            · by_cases h2 : o + (n - 1) * 5 + zs.length ≤ q
              · exact .inr h2
              · exfalso
                have := hg (q - o) (by omega)
                rw [show o + (q - o) = q by omega] at this
                exact hq ⟨_, this⟩
        · exact ⟨.inl hbb, .inl hbb⟩
      exact ⟨hK2.size, hK2.cells, hK2.rest⟩
theorem w105 (M : List CellP) (ix : Nat) (hix : ix < M.length) (hM : M.length < 2^62) : Contract Tryz.prog false 105 [.own, .ro, .ro] [.sl true 5 (M.map clT), .i .i64 ix, .i .i64 ((ix + 1 : Nat) : Int)] [.sl true 5 ((M.eraseIdx ix).map clT)] [none] :=
  contract_delete M ix hix hM fun w blk off cap n arr T hb hs hn hn2 hx h1 => W105c w blk off cap n ix (ix + 1) rfl arr T hb hs hn hn2 hx h1
end Go.Proofs.YtehmdblkkpdmoaaGreatT


namespace Go.Proofs.YtehmdblkkpdmoaaGreatT
set_option linter.unusedVariables false
set_option linter.unusedSimpArgs false
open Go
def okTn (N : Nat) (t : TableP) : Prop := t.1.length ≤ N ∧ t.2.1.length ≤ N ∧ t.2.2.length ≤ N ∧ ∀ v ∈ t.2.2, v.length ≤ N
theorem okTn.okT {N : Nat} {t : TableP} (h : okTn N t) (hN : N ≤ 2^36) : okT t := ⟨Nat.le_trans h.1 hN, Nat.le_trans h.2.1 hN, Nat.le_trans h.2.2.1 hN, fun v hv => Nat.le_trans (h.2.2.2 v hv) hN⟩
theorem okTn.mono {N M : Nat} {t : TableP} (h : okTn N t) (hN : N ≤ M) : okTn M t := ⟨Nat.le_trans h.1 hN, Nat.le_trans h.2.1 hN, Nat.le_trans h.2.2.1 hN, fun v hv => Nat.le_trans (h.2.2.2 v hv) hN⟩
theorem okTn.leave {N k : Nat} {t : TableP} (h : okTn N t) : okTn N (leaveT t k) := by
  refine ⟨h.1, Nat.le_trans (leaveL_le _ _) h.2.1, by simpa [leaveT] using h.2.2.1, fun v hv => ?_⟩
  obtain ⟨x, hx, rfl⟩ := List.mem_map.1 hv
  exact Nat.le_trans (leaveL_le _ _) (h.2.2.2 x hx)
theorem okTn.join {N : Nat} {t : TableP} {e : Int × Int} {L : List CellP} (h : okTn N t) : okTn (N + 1) (joinT t e L) := by
  refine ⟨by have := h.1; simp only [joinT]; omega, by have := h.2.1; simp [joinT]; omega, by have := h.2.2.1; simp [joinT]; omega, fun v hv => ?_⟩
  obtain ⟨i, hi⟩ := List.mem_iff_getElem?.1 hv
  simp only [joinT, List.getElem?_zipWith] at hi
  cases h1 : t.2.2[i]? with
  | none => simp [h1] at hi
  | some vs =>
    cases h2 : L[i]? with
    | none => simp [h1, h2] at hi
    | some x =>
      simp [h1, h2] at hi
      subst hi
      have := h.2.2.2 vs (List.mem_of_getElem? h1)
      simp; omega
theorem mem_modify {α : Type} {l : List α} {i : Nat} {f : α → α} {x : α} (h : x ∈ l.modify i f) : x ∈ l ∨ ∃ y ∈ l, x = f y := by
  obtain ⟨j, hj⟩ := List.mem_iff_getElem?.1 h
  rw [List.getElem?_modify] at hj
  cases hl : l[j]? with
  | none => simp [hl] at hj
  | some y =>
    have hy := List.mem_of_getElem? hl
    by_cases hij : i = j
    · simp [hl, hij] at hj; exact .inr ⟨y, hy, hj.symm⟩
    · simp [hl, hij] at hj; subst hj; exact .inl hy
theorem sumN_modify {α : Type} {c : α → Nat} {f : α → α} {d : Nat} (h : ∀ x, c (f x) ≤ c x + d) : ∀ (l : List α) (i : Nat), sumN c (l.modify i f) ≤ sumN c l + d
  | [], i => by simp [sumN]
  | a :: l, 0 => by simp only [List.modify_zero_cons, sumN]; have := h a; omega
  | a :: l, i + 1 => by simp only [List.modify_succ_cons, sumN]; have := sumN_modify h l i; omega
theorem zip_n : ∀ (C : List (List ValP)) (L : List CellP), sumN nV (List.zipWith (fun vs x => vs ++ [x.2]) C L) ≤ sumN nV C + 4 * L.length
  | [], L => by simp [sumN]
  | C, [] => by simp [sumN]
  | v :: C, x :: L => by
    have := zip_n C L
    simp only [List.zipWith_cons_cons, sumN, List.length_cons]
    have h : nV (v ++ [x.2]) = nV v + 4 := by simp [nV]; omega
    omega
theorem joinT_n (t : TableP) (e : Int × Int) (L : List CellP) : nTb (joinT t e L) ≤ nTb t + (2 + 4 * L.length) := by
  unfold nTb joinT
  have := zip_n t.2.2 L
  simp only [List.length_append, List.length_singleton]
  omega
theorem newT_n (cols : List Int) : nTb (newT cols) = cols.length := by
  unfold nTb newT
  have : ∀ n, sumN nV (List.replicate n ([] : List ValP)) = 0 := fun n => by induction n with
    | zero => rfl
    | succ n ih => simp [List.replicate_succ, sumN, ih, nV]
  simp [this]
theorem moveTs_n (ts : List TableP) (i k : Nat) (e : Int × Int) (L : List CellP) : sumN nTb (moveTs ts i k e L) ≤ sumN nTb ts + (2 + 5 * L.length) := by
  have h1 := sumN_modify (c := nTb) (f := fun t => leaveT t k) (d := 0) (fun t => by have := leaveT_n t k; omega) ((tabW ts (colsOf L)).1.modify (tabW ts (colsOf L)).2 fun t => joinT t e L) i
  have h2 := sumN_modify (c := nTb) (f := fun t => joinT t e L) (d := 2 + 4 * L.length) (fun t => joinT_n t e L) (tabW ts (colsOf L)).1 (tabW ts (colsOf L)).2
  have h3 : sumN nTb (tabW ts (colsOf L)).1 ≤ sumN nTb ts + L.length := by
    unfold tabW
    split
    · simp
    · simp only [sumN_app, sumN, newT_n]
      simp [colsOf]
  unfold moveTs leaveAt
  omega
theorem moveTs_ok {N : Nat} {ts : List TableP} {i k : Nat} {e : Int × Int} {L : List CellP} (h : ∀ t ∈ ts, okTn N t) (hL : L.length ≤ N) : (moveTs ts i k e L).length ≤ ts.length + 1 ∧ ∀ t ∈ moveTs ts i k e L, okTn (N + 1) t := by
  have h0 : (tabW ts (colsOf L)).1.length ≤ ts.length + 1 ∧ ∀ t ∈ (tabW ts (colsOf L)).1, okTn N t := by
    unfold tabW
    split
    · exact ⟨by simp, h⟩
    · refine ⟨by simp, fun t ht => ?_⟩
      rcases List.mem_append.1 ht with ht | ht
      · exact h t ht
      · rw [List.mem_singleton.1 ht]
        refine ⟨by simpa [newT, colsOf] using hL, by simp [newT], by simpa [newT, colsOf] using hL, fun v hv => ?_⟩
        simp [newT] at hv
        rw [hv.2]; simp
  unfold moveTs leaveAt
  refine ⟨by simpa using h0.1, fun t ht => ?_⟩
  have step : ∀ t ∈ ((tabW ts (colsOf L)).1.modify (tabW ts (colsOf L)).2 fun t => joinT t e L), okTn (N + 1) t := by
    intro t ht
    rcases mem_modify ht with ht | ⟨y, hy, rfl⟩
    · exact (h0.2 t ht).mono (by omega)
    · exact (h0.2 y hy).join
  rcases mem_modify ht with ht | ⟨y, hy, rfl⟩
  · exact step t ht
  · exact (step y hy).leave
theorem okN {w : WorldP} {N : Nat} (h : cW w ≤ N) : w.1.length ≤ N ∧ w.2.1.length ≤ N ∧ w.2.2.1.length ≤ N ∧ (∀ t ∈ w.2.2.1, okTn N t) ∧ w.2.2.2.length ≤ N := by
  unfold cW at h
  refine ⟨by omega, by omega, by omega, fun t ht => ?_, by omega⟩
  have h1 := sumN_mem (c := cT) ht
  have h2 : cT t ≤ N := by omega
  refine ⟨?_, ?_, ?_, fun v hv => ?_⟩
  · unfold cT at h2; omega
  · unfold cT at h2; omega
  · unfold cT at h2; omega
  · have h3 : v.length ≤ sumN (fun v : List ValP => v.length) t.2.2 := sumN_mem (c := fun v : List ValP => v.length) hv
    unfold cT at h2; omega
theorem live_atP {c r d : DeclsP} {w : WorldP} {e : Int × Int} (hk : okW w) (hw : WorldOkP c r d w) (hl : liveP w.1 w.2.1 e.1 e.2) : ∃ (i k : Nat) (t : TableP), AtP w.2.2.1 i k t e ∧ EvenP w.2.2.1 ∧ colsP t.1 c.length ∧ c.length ≤ 12 ∧ w.2.2.1.length ≤ 40 := by
  obtain ⟨A, B, t, k, e1, e2, e3, lA, lB, kt, tp, hv, hkl⟩ := live_at hk hw hl
  refine ⟨A.length, k, t, ⟨?_, e2, e3⟩, ⟨?_, fun t ht => ?_, fun t ht => ?_, fun t ht => ?_, fun t ht => ?_⟩, tp.1, hw.1.1.1.1, hw.1.2.2.1⟩
  · rw [e1]; simp
  · have := hw.1.2.2.1; omega
  · have h1 := colsP_len (hw.2.2.1 t ht).1
    have h2 := hw.1.1.1.1
    omega
  · exact (hk.2.2.1.2 t ht).2.1
  · exact (hw.2.2.1 t ht).2.1
  · exact tab_vals (hw.2.2.1 t ht)
end Go.Proofs.YtehmdblkkpdmoaaGreatT


namespace Go.Proofs.YtehmdblkkpdmoaaGreatT
set_option linter.unusedVariables false
set_option linter.unusedSimpArgs false
open Go
def c53 : TCode := (.seq (.ops [⟨(some 3), 5, .box 4 (.t 0), none, []⟩, ⟨(some 4), 6, .box 2 (.t 1), none, []⟩, ⟨(some 6), 8, .box 4 (.c (.ag [(.sl true 1 []), (.sl true 1 []), (.sl true 3 []), (.sl true 4 [])])), none, []⟩, ⟨(some 7), 9, .mv (.c (.i .i64 0)), none, []⟩])
  (.seq (.seq (.ops [⟨(some 13), 15, .faddr 0 2 (.t 3), none, []⟩, ⟨(some 14), 16, .load true 2 (.t 13), none, []⟩, ⟨(some 15), 17, .load true 2 (.t 4), none, []⟩, ⟨(some 16), 18, .call 67 [((.t 14), 0), ((.t 15), 0)], none, []⟩, ⟨(some 17), 19, .un .not (.t 16), none, []⟩])
  (.cond (.t 17)
  (.seq (.ops [⟨(some 18), 20, .load true 4 (.t 3), none, []⟩, ⟨none, 1002001, .store 4 (.t 6) (.t 18), none, []⟩, ⟨(some 7), 9, .mv (.c (.i .i64 2)), none, []⟩])
  .ret)
  .skip))
  (.seq (.ops [⟨(some 20), 22, .load true 4 (.t 3), none, []⟩, ⟨(some 21), 23, .load true 2 (.t 4), none, []⟩, ⟨(some 22), 24, .call 68 [((.t 20), 0), ((.t 21), 0)], none, []⟩, ⟨(some 19), 21, .mv (.t 22), none, []⟩, ⟨(some 23), 25, .ext 0 (.t 19), none, []⟩, ⟨(some 24), 26, .ext 1 (.t 19), none, []⟩, ⟨(some 8), 10, .mv (.t 23), none, []⟩, ⟨(some 9), 11, .mv (.t 24), none, []⟩])
  (.seq (.ops [⟨(some 25), 27, .faddr 2 1 (.t 3), none, []⟩, ⟨(some 26), 28, .load false 1 (.t 25), none, []⟩, ⟨(some 27), 29, .mv (.t 8), none, []⟩, ⟨(some 28), 30, .iaddr 3 (.t 26) (.t 27), none, []⟩, ⟨(some 29), 31, .faddr 0 1 (.t 28), none, []⟩, ⟨(some 30), 32, .load false 1 (.t 29), none, []⟩, ⟨(some 31), 33, .mv (.t 2), none, []⟩, ⟨(some 32), 34, .call 98 [((.t 30), 0), ((.t 31), 0)], none, []⟩, ⟨(some 10), 12, .mv (.t 32), none, []⟩])
  (.seq (.seq (.ops [⟨(some 33), 35, .mv (.t 10), none, []⟩, ⟨(some 34), 36, .bin .lss (.t 33) (.c (.i .i64 0)), none, []⟩])
  (.cond (.t 34)
  (.seq (.ops [⟨(some 35), 37, .load true 4 (.t 3), none, []⟩, ⟨none, 1006001, .store 4 (.t 6) (.t 35), none, []⟩, ⟨(some 7), 9, .mv (.c (.i .i64 4)), none, []⟩])
  .ret)
  .skip))
  (.seq (.ops [⟨(some 36), 38, .load true 4 (.t 3), none, []⟩, ⟨(some 37), 39, .mv (.t 8), none, []⟩, ⟨(some 38), 40, .mv (.t 9), none, []⟩, ⟨(some 39), 41, .call 99 [((.t 36), 0), ((.t 37), 0), ((.t 38), 0)], none, []⟩, ⟨(some 11), 13, .mv (.t 39), none, []⟩])
  (.seq (.draw [⟨(some 40), 42, .bslice 5 0 [(.i .i64 0), (.i .i64 0), (.i .i64 0), (.f 0), (.f 0)] [], none, []⟩, ⟨(some 41), 43, .mv (.t 11), none, [0]⟩, ⟨(some 42), 44, .mv (.t 10), none, [0]⟩, ⟨(some 43), 45, .slice false 5 (.t 41) none (some (.t 42)), none, [0]⟩, ⟨(some 44), 46, .app 5 40 (.t 40) (.t 43), none, []⟩, ⟨(some 45), 47, .mv (.t 11), none, [0, 4]⟩, ⟨(some 46), 48, .mv (.t 10), none, [0, 4]⟩, ⟨(some 47), 49, .bin .add (.t 46) (.c (.i .i64 1)), none, [0, 4]⟩, ⟨(some 48), 50, .slice false 5 (.t 45) (some (.t 47)) none, none, [0, 4]⟩, ⟨(some 49), 51, .app 5 40 (.t 44) (.t 48), none, []⟩, ⟨(some 12), 14, .mv (.t 49), none, []⟩])
  (.seq (.ops [⟨(some 50), 52, .load true 4 (.t 3), none, []⟩, ⟨(some 51), 53, .mv (.t 8), none, []⟩, ⟨(some 52), 54, .mv (.t 9), none, []⟩, ⟨(some 53), 55, .mv (.t 12), none, []⟩, ⟨(some 54), 56, .call 100 [((.t 50), 0), ((.t 51), 0), ((.t 52), 0), ((.t 53), 0)], none, []⟩, ⟨(some 55), 57, .ext 0 (.t 54), none, []⟩, ⟨(some 56), 58, .ext 1 (.t 54), none, []⟩, ⟨none, 1009007, .store 4 (.t 6) (.t 55), none, []⟩, ⟨(some 7), 9, .mv (.t 56), none, []⟩])
  .ret))))))))
theorem k53 : compCode Tryz.prog Tryz.f53.ntmps Tryz.f53.body.get! = some c53 := by kernel_rfl
theorem r53 : resTmps Tryz.prog Tryz.f53.results.toList = some [.cell 6 true 4, .tmp 7] := by kernel_rfl
def dropTs (ts : List TableP) (i k : Nat) (t : TableP) (e : Int × Int) (c : Int) : List TableP × Int :=
  if 0 ≤ idxF t.1 c then (if fullT ts (colsOf ((rowL t k).eraseIdx (idxF t.1 c).toNat)) then (ts, 3) else (moveTs ts i k e ((rowL t k).eraseIdx (idxF t.1 c).toNat), 0)) else (ts, 4)
theorem erase_len {M : List CellP} {m : Nat} (h : m < M.length) : (M.eraseIdx m).length + 1 = M.length := by
  rw [List.length_eraseIdx, if_pos h]; omega
theorem sl_take (M : List CellP) (a : Nat) : List.take a (List.drop (offE 0 a) (M.map clT)) = (M.take a).map clT := by
  unfold offE
  split
  · rename_i h; subst h; simp
  · simp [List.map_take]
theorem sl_drop (M : List CellP) (a n : Nat) (hn : n = M.length - a) : List.take n (List.drop (offE a n) (M.map clT)) = (M.drop a).map clT := by
  unfold offE
  split
  · rename_i h
    rw [h, List.take_zero, List.drop_eq_nil_of_le (by omega)]; rfl
  · rw [List.take_of_length_le (by simp; omega), List.map_drop]
set_option maxHeartbeats 4000000 in
set_option maxRecDepth 100000 in
theorem w53 (g f : List Int) (ts : List TableP) (rs : List ValP) (i k : Nat) (t : TableP) (e : Int × Int) (c : Int) (hg : g.length ≤ 2^36) (hf : f.length ≤ 2^36) (hrs : rs.length ≤ 2^36) (E : EvenP ts) (P : AtP ts i k t e) (hlv : liveP g f e.1 e.2) : Contract Tryz.prog false 53 [.own, .ro, .ro] [worldO g f ts rs, .ag (eT e), .i .i64 c] [worldO g f (dropTs ts i k t e c).1 rs, .i .i64 (dropTs ts i k t e c).2] [none, none, none, none] := by
  refine mk_contract [none, none, none, none] Tryz.func53 (c := Tryz.f53.body.get!) (by kernel_rfl) k53 r53 (of_decide_eq_true rfl) fun _ => ?_
  have hok : okW (g, f, ts, rs) := ⟨hg, hf, ⟨by have := E.n; simp only; omega, E.okT⟩, hrs⟩
  have hW := w68 (g, f, ts, rs) e hok
  simp only [P.hw] at hW
  have hlive := (w67 g f e.1 e.2 (by omega) (by omega)).t hlv
  simp only [entsR, entT] at hlive
  have ht := P.ht
  have hm := List.mem_of_getElem? ht
  have hil := (List.getElem?_eq_some_iff.1 ht).1
  have hkl : k < t.2.1.length := (List.getElem?_eq_some_iff.1 P.he).1
  have hn := E.n
  have hA := w98 t.1 c (by have := E.c t hm; omega)
  have hidx := idx_lt (l := t.1) (x := c)
  have hR := w99 g f ts rs i k t (by omega) ht (by have := E.c t hm; omega) (E.s t hm) (E.v t hm) hkl
  have hrl := rowL_len (k := k) (E.s t hm)
  have hc30 := E.c t hm
  unfold dropTs
  generalize hix : idxF t.1 c = ix at *
  obtain ⟨M, hM⟩ : ∃ M, M = rowL t k := ⟨_, rfl⟩
  rw [← hM] at hR hrl ⊢
  by_cases hx0 : 0 ≤ ix
  · rw [if_pos hx0]
    have hixM : ix.toNat < M.length := by have := hidx hx0; omega
    have hLl := erase_len hixM
    have hLe : M.eraseIdx ix.toNat = M.take ix.toNat ++ M.drop (ix.toNat + 1) := List.eraseIdx_eq_take_drop_succ ..
    obtain ⟨L, hL⟩ : ∃ L, L = M.eraseIdx ix.toNat := ⟨_, rfl⟩
    rw [← hL] at hLl hLe ⊢
    obtain ⟨TS, hTS⟩ : ∃ TS : List TableP × Int, TS = if fullT ts (colsOf L) then (ts, 3) else (moveTs ts i k e L, 0) := ⟨_, rfl⟩
    rw [← hTS]
    have hMv : Contract Tryz.prog false 100 [.own, .ro, .ro, .ro] [worldO g f ts rs, .i .i64 i, .i .i64 k, .sl false 5 (L.map clT)] [worldO g f TS.1 rs, .i .i64 TS.2] [none, none, none, none] := by
      rw [hTS]
      by_cases hfu : fullT ts (colsOf L)
      · rw [if_pos hfu]
        exact W100f g f ts rs i k L (fun t ht => by have := E.c t ht; omega) hn (by omega) hfu
      · rw [if_neg hfu]
        refine w100 g f ts rs i k L t e (fun t ht => by have := E.c t ht; omega) hn (by omega) hfu ht P.he ?_ E.r E.s E.v
        intro h
        have := congrArg List.length h
        simp [colsOf] at this
        omega
    obtain ⟨X, hX⟩ : ∃ X, X = M.take ix.toNat := ⟨_, rfl⟩
    obtain ⟨Y, hY⟩ : ∃ Y, Y = M.drop (ix.toNat + 1) := ⟨_, rfl⟩
    have hXl : X.length = ix.toNat := by rw [hX]; simp; omega
    have hYl : Y.length = M.length - (ix.toNat + 1) := by rw [hY]; simp
    have hS1 := sl_take M ix.toNat
    have hS2 := sl_drop M (ix.toNat + 1) (M.length - (ix.toNat + 1)) rfl
    rw [← hX] at hS1 hLe
    rw [← hY] at hS2 hLe
    have hw1 : IntKind.i64.wrap (ix + 1) = ix + 1 := wrap_id (by omega) (by omega)
    have hw2 : (ix + 1).toNat = ix.toNat + 1 := by omega
    unfold c53; simp
    refine callW_ms [.ro, .ro] ?_
    simp
    refine callX_of hlive (by simp) ?_
    simp
    refine callW_ms [.ro, .ro] ?_
    simp
    refine callX_of hW (by simp) ?_
    simp [ht]
    refine ⟨hil, ?_⟩
    refine callW_ms [.ro, .ro] ?_
    simp [ht]
    refine callX_of hA (by simp) ?_
    simp [ht, hx0]
    refine ⟨fun h => absurd h (by omega), ?_⟩
    refine callW_ms [.ro, .ro, .ro] ?_
    simp
    refine callX_of hR (by simp) ?_
    simp [hw1, hw2, hS1, hXl, hYl, hS2]
    refine ⟨hx0, by omega, ?_⟩
    refine ⟨by omega, by omega, by omega, by omega, ?_⟩
    have eL : List.map clT X ++ List.map clT Y = L.map clT := by rw [hLe]; simp
    have eN : ix.toNat + (M.length - (ix.toNat + 1)) = L.length := by omega
    rw [eL, eN]
    refine callW_ms [.own, .ro, .ro, .ro] ?_
    simp
    refine callX_of hMv (by simp) ?_
    simp
  · rw [if_neg hx0]
    unfold c53; simp
    refine callW_ms [.ro, .ro] ?_
    simp
    refine callX_of hlive (by simp) ?_
    simp
    refine callW_ms [.ro, .ro] ?_
    simp
    refine callX_of hW (by simp) ?_
    simp [ht]
    refine ⟨hil, ?_⟩
    refine callW_ms [.ro, .ro] ?_
    simp [ht]
    refine callX_of hA (by simp) ?_
    simp [ht, hx0]
end Go.Proofs.YtehmdblkkpdmoaaGreatT


namespace Go.Proofs.YtehmdblkkpdmoaaGreatT
set_option linter.unusedVariables false
set_option linter.unusedSimpArgs false
open Go
def c55 : TCode := (.seq (.ops [⟨(some 4), 6, .box 2 (.t 1), none, []⟩, ⟨(some 6), 8, .mv (.c (.i .i64 0)), none, []⟩])
  (.seq (.seq (.draw [⟨(some 10), 12, .mv (.t 0), none, []⟩, ⟨(some 11), 13, .nilck (.t 10), none, []⟩, ⟨(some 12), 14, .faddr 0 2 (.t 11), none, []⟩, ⟨(some 13), 15, .load true 2 (.t 4), none, []⟩, ⟨(some 14), 16, .call 83 [((.t 12), 0), ((.t 13), 0)], none, []⟩, ⟨(some 15), 17, .un .not (.t 14), none, []⟩])
  (.cond (.t 15)
  (.seq (.ops [⟨(some 6), 8, .mv (.c (.i .i64 2)), none, []⟩])
  .ret)
  .skip))
  (.seq (.draw [⟨(some 17), 19, .mv (.t 0), none, []⟩, ⟨(some 18), 20, .nilck (.t 17), none, []⟩, ⟨(some 19), 21, .load true 4 (.t 18), none, []⟩, ⟨(some 20), 22, .load true 2 (.t 4), none, []⟩, ⟨(some 21), 23, .call 85 [((.t 19), 0), ((.t 20), 0)], none, []⟩, ⟨(some 16), 18, .mv (.t 21), none, []⟩, ⟨(some 22), 24, .ext 0 (.t 16), none, []⟩, ⟨(some 23), 25, .ext 1 (.t 16), none, []⟩, ⟨(some 7), 9, .mv (.t 22), none, []⟩, ⟨(some 8), 10, .mv (.t 23), none, []⟩])
  (.seq (.ops [⟨(some 24), 26, .mv (.t 0), none, []⟩, ⟨(some 25), 27, .nilck (.t 24), none, []⟩, ⟨(some 26), 28, .faddr 2 1 (.t 25), none, []⟩, ⟨(some 27), 29, .load false 1 (.t 26), none, []⟩, ⟨(some 28), 30, .mv (.t 7), none, []⟩, ⟨(some 29), 31, .iaddr 3 (.t 27) (.t 28), none, []⟩, ⟨(some 30), 32, .faddr 0 1 (.t 29), none, []⟩, ⟨(some 31), 33, .load false 1 (.t 30), none, []⟩, ⟨(some 32), 34, .mv (.t 2), none, []⟩, ⟨(some 33), 35, .call 101 [((.t 31), 0), ((.t 32), 0)], none, []⟩, ⟨(some 9), 11, .mv (.t 33), none, []⟩])
  (.seq (.seq (.ops [⟨(some 34), 36, .mv (.t 9), none, []⟩, ⟨(some 35), 37, .bin .lss (.t 34) (.c (.i .i64 0)), none, []⟩])
  (.cond (.t 35)
  (.seq (.ops [⟨(some 6), 8, .mv (.c (.i .i64 4)), none, []⟩])
  .ret)
  .skip))
  (.seq (.seq (.draw [⟨(some 36), 38, .mv (.t 0), none, []⟩, ⟨(some 37), 39, .load true 2 (.t 4), none, []⟩, ⟨(some 38), 40, .mv (.t 0), none, []⟩, ⟨(some 39), 41, .mv (.t 7), none, []⟩, ⟨(some 40), 42, .mv (.t 8), none, []⟩, ⟨(some 41), 43, .call 104 [((.t 38), 4), ((.t 39), 0), ((.t 40), 0)], none, [0, 1]⟩, ⟨(some 42), 44, .mv (.t 9), none, [5]⟩, ⟨(some 43), 45, .mv (.t 9), none, [5]⟩, ⟨(some 44), 46, .bin .add (.t 43) (.c (.i .i64 1)), none, [5]⟩, ⟨(some 45), 47, .call 105 [((.t 41), 0), ((.t 42), 0), ((.t 44), 0)], none, [0, 1]⟩, ⟨(some 46), 48, .call 102 [((.t 36), 4), ((.t 37), 0), ((.t 45), 0)], none, []⟩, ⟨(some 47), 49, .un .not (.t 46), none, []⟩])
  (.cond (.t 47)
  (.seq (.ops [⟨(some 6), 8, .mv (.c (.i .i64 3)), none, []⟩])
  .ret)
  .skip))
  (.seq (.ops [⟨(some 48), 50, .mv (.t 0), none, []⟩, ⟨(some 49), 51, .mv (.t 7), none, []⟩, ⟨(some 50), 52, .mv (.t 8), none, []⟩, ⟨(some 51), 53, .call 84 [((.t 48), 4), ((.t 49), 0), ((.t 50), 0)], none, []⟩])
  (.seq (.ops [⟨(some 6), 8, .mv (.c (.i .i64 0)), none, []⟩])
  .ret))))))))
theorem k55 : compCode Tryz.prog Tryz.f55.ntmps Tryz.f55.body.get! = some c55 := by kernel_rfl
theorem r55 : resTmps Tryz.prog Tryz.f55.results.toList = some [.tmp 6] := by kernel_rfl
set_option maxHeartbeats 4000000 in
set_option maxRecDepth 100000 in
theorem w55 (g f : List Int) (ts : List TableP) (rs : List ValP) (i k n : Nat) (t : TableP) (e : Int × Int) (c : Int) (hg : g.length ≤ 2^36) (hf : f.length ≤ 2^36) (hrs : rs.length ≤ 2^36) (E : EvenP ts) (P : AtP ts i k t e) (hlv : liveP g f e.1 e.2) (h40 : ts.length ≤ 40) (hn : n ≤ 12) (hcp : colsP t.1 n) : Contract Tryz.prog false 55 [.own, .ro, .ro] [.po true [.sl true 1 (g.map iT), .sl true 1 (f.map iT), .sl true 3 (ts.map tbO), .sl true 4 (rs.map vT)], .ag (eT e), .i .i64 c] [.i .i64 (dropTs ts i k t e c).2] [some (.po true [.sl true 1 (g.map iT), .sl true 1 (f.map iT), .sl true 3 ((dropTs ts i k t e c).1.map tbO), .sl true 4 (rs.map vT)])] := by
  refine mk_contract [some [(1, 0)]] Tryz.func55 (c := Tryz.f55.body.get!) (by kernel_rfl) k55 r55 (of_decide_eq_true rfl) fun _ => ?_
  have hok : okW (g, f, ts, rs) := ⟨hg, hf, ⟨by have := E.n; simp only; omega, E.okT⟩, hrs⟩
  have hW := w85 (g, f, ts, rs) e hok
  simp only [P.hw] at hW
  have hlive := (W83w g f ts rs e.1 e.2 (by omega) (by omega)).t hlv
  simp only [entT] at hlive
  have ht := P.ht
  have hm := List.mem_of_getElem? ht
  have hil := (List.getElem?_eq_some_iff.1 ht).1
  have hkl : k < t.2.1.length := (List.getElem?_eq_some_iff.1 P.he).1
  have hn30 := E.n
  have hA := w101 t.1 c (by have := E.c t hm; omega)
  have hidx := idx_lt (l := t.1) (x := c)
  have hR := w104 g f ts rs i k t (by omega) ht (by have := E.c t hm; omega) (E.s t hm) (E.v t hm) hkl
  have hrl := rowL_len (k := k) (E.s t hm)
  have hcl := colsP_len hcp
  have hc30 := E.c t hm
  unfold dropTs
  generalize hix : idxF t.1 c = ix at *
  obtain ⟨M, hM⟩ : ∃ M, M = rowL t k := ⟨_, rfl⟩
  rw [← hM] at hR hrl ⊢
  by_cases hx0 : 0 ≤ ix
  rotate_left
  · rw [if_neg hx0]
    unfold c55; simp
    refine callW_ms [.ro, .ro] ?_
    simp
    refine callX_of hlive (by simp) ?_
    simp
    refine callW_ms [.ro, .ro] ?_
    simp
    refine callX_of hW (by simp) ?_
    simp [ht]
    refine ⟨hil, ?_⟩
    refine callW_ms [.ro, .ro] ?_
    simp [ht]
    refine callX_of hA (by simp) ?_
    simp [ht, hx0]
  · rw [if_pos hx0]
    have hixM : ix.toNat < M.length := by have := hidx hx0; omega
    have hLl := erase_len hixM
    have hix2 : (ix.toNat : Int) = ix := by omega
    have hix3 : ((ix.toNat + 1 : Nat) : Int) = ix + 1 := by omega
    have hDl := w105 M ix.toNat hixM (by omega)
    rw [hix2, hix3] at hDl
    have hw1 : IntKind.i64.wrap (ix + 1) = ix + 1 := wrap_id (by omega) (by omega)
    obtain ⟨L, hL⟩ : ∃ L, L = M.eraseIdx ix.toNat := ⟨_, rfl⟩
    rw [← hL] at hLl hDl ⊢
    have hne : t.1 ≠ colsOf L := by
      intro h
      have := congrArg List.length h
      simp [colsOf] at this
      omega
    by_cases hfu : fullT ts (colsOf L)
    · rw [if_pos hfu]
      have hJ := W102f g f ts rs L e hg hf hrs E (by omega) h40 hfu
      unfold c55; simp
      refine callW_ms [.ro, .ro] ?_
      simp
      refine callX_of hlive (by simp) ?_
      simp
      refine callW_ms [.ro, .ro] ?_
      simp
      refine callX_of hW (by simp) ?_
      simp [ht]
      refine ⟨hil, ?_⟩
      refine callW_ms [.ro, .ro] ?_
      simp [ht]
      refine callX_of hA (by simp) ?_
      simp [ht, hx0, show ¬ ix < 0 by omega]
      refine callW_ms [.ro, .ro, .ro] ?_
      simp
      refine callX_of hR (by simp) ?_
      simp [hw1]
      refine callW_ms [.own, .ro, .ro] ?_
      simp
      refine callX_of hDl (by simp) ?_
      simp
      refine callW_ms [.own, .ro, .ro] ?_
      simp
      refine callX_of hJ (by simp) ?_
      simp
    · rw [if_neg hfu]
      have hJ := w102 g f ts rs L e hg hf hrs E (by omega) hfu
      have hjt := join_at (e := e) ht hne
      have hjl := joinTs_len ts e L
      obtain ⟨TS, hTS⟩ : ∃ TS, TS = moveTs ts i k e L := ⟨_, rfl⟩
      rw [← hTS]
      have hTS2 : TS = leaveAt (joinTs ts e L) i k := hTS
      generalize joinTs ts e L = ts2 at *
      obtain ⟨s1, s2⟩ := split_at hjt
      have hla : leaveAt ts2 i k = ts2.take i ++ leaveT t k :: ts2.drop (i + 1) := by
        have h1 := leaveAt_mid (A := ts2.take i) (B := ts2.drop (i + 1)) (t := t) (k := k)
        rw [← s1, s2] at h1
        exact h1
      have hLv := w84 g f (ts2.take i) (ts2.drop (i + 1)) t rs k (by simp; omega) (by simp; omega) hkl (E.r t hm) (by rw [E.s t hm]; omega) (E.v t hm)
      rw [← s1, s2, ← hla, ← hTS2] at hLv
      unfold c55; simp
      refine callW_ms [.ro, .ro] ?_
      simp
      refine callX_of hlive (by simp) ?_
      simp
      refine callW_ms [.ro, .ro] ?_
      simp
      refine callX_of hW (by simp) ?_
      simp [ht]
      refine ⟨hil, ?_⟩
      refine callW_ms [.ro, .ro] ?_
      simp [ht]
      refine callX_of hA (by simp) ?_
      simp [ht, hx0, show ¬ ix < 0 by omega]
      refine callW_ms [.ro, .ro, .ro] ?_
      simp
      refine callX_of hR (by simp) ?_
      simp [hw1]
      refine callW_ms [.own, .ro, .ro] ?_
      simp
      refine callX_of hDl (by simp) ?_
      simp
      refine callW_ms [.own, .ro, .ro] ?_
      simp
      refine callX_of hJ (by simp) ?_
      simp
      refine callW_ms [.own, .ro, .ro] ?_
      simp
      refine callX_of hLv (by simp) ?_
      simp
end Go.Proofs.YtehmdblkkpdmoaaGreatT


namespace Go.Proofs.YtehmdblkkpdmoaaGreatT
set_option linter.unusedVariables false
set_option linter.unusedSimpArgs false
open Go
def c21 : TCode := (.seq (.ops [⟨(some 4), 6, .box 3 (.t 0), none, []⟩, ⟨(some 5), 7, .box 4 (.t 1), none, []⟩, ⟨(some 6), 8, .box 2 (.t 2), none, []⟩, ⟨(some 8), 10, .box 4 (.c (.ag [(.sl true 1 []), (.sl true 1 []), (.sl true 3 []), (.sl true 4 [])])), none, []⟩, ⟨(some 9), 11, .mv (.c (.i .i64 0)), none, []⟩])
  (.seq (.seq (.ops [⟨(some 10), 12, .load true 3 (.t 4), none, []⟩, ⟨(some 11), 13, .load true 4 (.t 5), none, []⟩, ⟨(some 12), 14, .call 27 [((.t 10), 0), ((.t 11), 0)], none, []⟩, ⟨(some 13), 15, .un .not (.t 12), none, []⟩, ⟨(some 14), 16, .mv (.t 13), none, []⟩, ⟨(some 15), 17, .mv (.t 3), (some (14, false)), []⟩, ⟨(some 16), 18, .faddr 0 1 (.t 4), (some (14, false)), []⟩, ⟨(some 17), 19, .load false 1 (.t 16), (some (14, false)), []⟩, ⟨(some 18), 20, .len false (.t 17), (some (14, false)), []⟩, ⟨(some 19), 21, .bin .sub (.t 18) (.c (.i .i64 1)), (some (14, false)), []⟩, ⟨(some 20), 22, .call 52 [((.t 15), 0), ((.c (.i .i64 0)), 0), ((.t 19), 0)], (some (14, false)), []⟩, ⟨(some 21), 23, .un .not (.t 20), (some (14, false)), []⟩, ⟨(some 22), 24, .pick (.t 14) (.c (.b true)) (.t 21), none, []⟩])
  (.cond (.t 22)
  (.seq (.ops [⟨(some 23), 25, .load true 4 (.t 5), none, []⟩, ⟨(some 24), 26, .call 28 [((.t 23), 0)], none, []⟩, ⟨none, 1002002, .store 4 (.t 8) (.t 24), none, []⟩, ⟨(some 9), 11, .mv (.c (.i .i64 1)), none, []⟩])
  .ret)
  .skip))
  (.seq (.draw [⟨(some 25), 27, .load true 4 (.t 5), none, []⟩, ⟨(some 26), 28, .call 28 [((.t 25), 0)], none, []⟩, ⟨(some 27), 29, .load true 2 (.t 6), none, [1]⟩, ⟨(some 28), 30, .mv (.t 3), none, [1]⟩, ⟨(some 29), 31, .call 53 [((.t 26), 0), ((.t 27), 0), ((.t 28), 0)], none, []⟩, ⟨(some 30), 32, .ext 0 (.t 29), none, []⟩, ⟨(some 31), 33, .ext 1 (.t 29), none, []⟩, ⟨none, 1003007, .store 4 (.t 8) (.t 30), none, []⟩, ⟨(some 9), 11, .mv (.t 31), none, []⟩])
  .ret)))
theorem k21 : compCode Tryz.prog Tryz.f21.ntmps Tryz.f21.body.get! = some c21 := by kernel_rfl
theorem r21 : resTmps Tryz.prog Tryz.f21.results.toList = some [.cell 8 true 4, .tmp 9] := by kernel_rfl
def c22 : TCode := (.seq (.ops [⟨(some 4), 6, .box 3 (.t 0), none, []⟩, ⟨(some 5), 7, .box 4 (.t 1), none, []⟩, ⟨(some 6), 8, .box 2 (.t 2), none, []⟩, ⟨(some 8), 10, .box 4 (.c (.ag [(.sl true 1 []), (.sl true 1 []), (.sl true 3 []), (.sl true 4 [])])), none, []⟩, ⟨(some 9), 11, .mv (.c (.i .i64 0)), none, []⟩])
  (.seq (.ops [⟨(some 12), 14, .load true 4 (.t 5), none, []⟩, ⟨(some 13), 15, .call 34 [((.t 12), 0)], none, []⟩, ⟨(some 10), 12, .box 4 (.c (.ag [(.sl true 1 []), (.sl true 1 []), (.sl true 3 []), (.sl true 4 [])])), none, []⟩, ⟨none, 1001003, .store 4 (.t 10) (.t 13), none, []⟩])
  (.seq (.seq (.ops [⟨(some 14), 16, .load true 3 (.t 4), none, []⟩, ⟨(some 15), 17, .load true 4 (.t 5), none, []⟩, ⟨(some 16), 18, .call 35 [((.t 14), 0), ((.t 15), 0)], none, []⟩, ⟨(some 17), 19, .un .not (.t 16), none, []⟩, ⟨(some 18), 20, .mv (.t 17), none, []⟩, ⟨(some 19), 21, .mv (.t 3), (some (18, false)), []⟩, ⟨(some 20), 22, .faddr 0 1 (.t 4), (some (18, false)), []⟩, ⟨(some 21), 23, .load false 1 (.t 20), (some (18, false)), []⟩, ⟨(some 22), 24, .len false (.t 21), (some (18, false)), []⟩, ⟨(some 23), 25, .bin .sub (.t 22) (.c (.i .i64 1)), (some (18, false)), []⟩, ⟨(some 24), 26, .call 54 [((.t 19), 0), ((.c (.i .i64 0)), 0), ((.t 23), 0)], (some (18, false)), []⟩, ⟨(some 25), 27, .un .not (.t 24), (some (18, false)), []⟩, ⟨(some 26), 28, .pick (.t 18) (.c (.b true)) (.t 25), none, []⟩])
  (.cond (.t 26)
  (.seq (.ops [⟨(some 27), 29, .load true 4 (.t 10), none, []⟩, ⟨none, 1003001, .store 4 (.t 8) (.t 27), none, []⟩, ⟨(some 9), 11, .mv (.c (.i .i64 1)), none, []⟩])
  .ret)
  .skip))
  (.seq (.ops [⟨(some 28), 30, .load true 2 (.t 6), none, []⟩, ⟨(some 29), 31, .mv (.t 3), none, []⟩, ⟨(some 30), 32, .call 55 [((.t 10), 0), ((.t 28), 0), ((.t 29), 0)], none, []⟩, ⟨(some 11), 13, .mv (.t 30), none, []⟩])
  (.seq (.ops [⟨(some 31), 33, .load true 4 (.t 10), none, []⟩, ⟨(some 32), 34, .call 34 [((.t 31), 0)], none, []⟩, ⟨(some 33), 35, .mv (.t 11), none, []⟩, ⟨none, 1005003, .store 4 (.t 8) (.t 32), none, []⟩, ⟨(some 9), 11, .mv (.t 33), none, []⟩])
  .ret)))))
theorem k22 : compCode Tryz.prog Tryz.f22.ntmps Tryz.f22.body.get! = some c22 := by kernel_rfl
theorem r22 : resTmps Tryz.prog Tryz.f22.results.toList = some [.cell 8 true 4, .tmp 9] := by kernel_rfl
def c5 : TCode := (.seq (.ops [⟨(some 4), 6, .box 3 (.t 0), none, []⟩, ⟨(some 5), 7, .box 4 (.t 1), none, []⟩, ⟨(some 6), 8, .box 2 (.t 2), none, []⟩, ⟨(some 8), 10, .mv (.c (.b false)), none, []⟩])
  (.seq (.ops [⟨(some 9), 11, .mv (.c (.i .i64 1048576)), none, []⟩])
  (.seq (.ops [⟨(some 21), 23, .load true 3 (.t 4), none, []⟩, ⟨(some 22), 24, .mv (.t 9), none, []⟩, ⟨(some 23), 25, .call 6 [((.t 21), 0), ((.t 22), 0)], none, []⟩, ⟨(some 9), 11, .mv (.t 23), none, []⟩])
  (.seq (.seq (.ops [⟨(some 24), 26, .mv (.t 9), none, []⟩, ⟨(some 25), 27, .bin .lss (.t 24) (.c (.i .i64 0)), none, []⟩])
  (.cond (.t 25)
  (.seq (.ops [⟨(some 8), 10, .mv (.c (.b true)), none, []⟩])
  .ret)
  .skip))
  (.seq (.ops [⟨(some 26), 28, .load true 4 (.t 5), none, []⟩, ⟨(some 27), 29, .mv (.t 9), none, []⟩, ⟨(some 28), 30, .call 7 [((.t 26), 0), ((.t 27), 0)], none, []⟩, ⟨(some 9), 11, .mv (.t 28), none, []⟩])
  (.seq (.seq (.ops [⟨(some 29), 31, .mv (.t 9), none, []⟩, ⟨(some 30), 32, .bin .lss (.t 29) (.c (.i .i64 0)), none, []⟩])
  (.cond (.t 30)
  (.seq (.ops [⟨(some 8), 10, .mv (.c (.b true)), none, []⟩])
  .ret)
  .skip))
  (.seq (.draw [⟨(some 32), 34, .load true 3 (.t 4), none, []⟩, ⟨(some 33), 35, .call 9 [((.t 32), 0)], none, []⟩, ⟨(some 34), 36, .load true 4 (.t 5), none, [1]⟩, ⟨(some 35), 37, .call 10 [((.t 34), 0)], none, []⟩, ⟨(some 36), 38, .load true 2 (.t 6), none, [1, 3]⟩, ⟨(some 37), 39, .call 11 [((.t 36), 0)], none, []⟩, ⟨(some 38), 40, .mv (.t 3), none, [1, 3, 5]⟩, ⟨(some 39), 41, .call 21 [((.t 33), 0), ((.t 35), 0), ((.t 37), 0), ((.t 38), 0)], none, []⟩, ⟨(some 31), 33, .mv (.t 39), none, []⟩, ⟨(some 40), 42, .ext 0 (.t 31), none, []⟩, ⟨(some 41), 43, .ext 1 (.t 31), none, []⟩, ⟨(some 10), 12, .box 4 (.c (.ag [(.sl true 1 []), (.sl true 1 []), (.sl true 3 []), (.sl true 4 [])])), none, [0, 1, 2, 3, 4, 5, 6, 7, 8, 9, 10]⟩, ⟨none, 1008012, .store 4 (.t 10) (.t 40), none, [1000000, 10]⟩, ⟨(some 11), 13, .mv (.t 41), none, []⟩])
  (.seq (.ops [⟨(some 42), 44, .load true 3 (.t 4), none, []⟩, ⟨(some 43), 45, .call 9 [((.t 42), 0)], none, []⟩, ⟨(some 12), 14, .box 3 (.c (.ag [(.sl true 2 []), (.sl true 2 []), (.sl true 2 [])])), none, []⟩, ⟨none, 1009003, .store 3 (.t 12) (.t 43), none, []⟩])
  (.seq (.ops [⟨(some 44), 46, .load true 4 (.t 5), none, []⟩, ⟨(some 45), 47, .call 10 [((.t 44), 0)], none, []⟩, ⟨(some 13), 15, .box 4 (.c (.ag [(.sl true 1 []), (.sl true 1 []), (.sl true 3 []), (.sl true 4 [])])), none, []⟩, ⟨none, 1010003, .store 4 (.t 13) (.t 45), none, []⟩])
  (.seq (.draw [⟨(some 47), 49, .load true 3 (.t 12), none, []⟩, ⟨(some 48), 50, .load true 4 (.t 13), none, []⟩, ⟨(some 49), 51, .load true 2 (.t 6), none, []⟩, ⟨(some 50), 52, .call 11 [((.t 49), 0)], none, [0, 1]⟩, ⟨(some 51), 53, .mv (.t 3), none, [3]⟩, ⟨(some 52), 54, .call 22 [((.t 47), 0), ((.t 48), 0), ((.t 50), 0), ((.t 51), 0)], none, []⟩, ⟨(some 46), 48, .mv (.t 52), none, []⟩, ⟨(some 53), 55, .ext 0 (.t 46), none, []⟩, ⟨(some 54), 56, .ext 1 (.t 46), none, []⟩, ⟨(some 14), 16, .box 4 (.c (.ag [(.sl true 1 []), (.sl true 1 []), (.sl true 3 []), (.sl true 4 [])])), none, [0, 1, 2, 3, 4, 5, 6, 7, 8]⟩, ⟨none, 1011010, .store 4 (.t 14) (.t 53), none, [1000000, 8]⟩, ⟨(some 15), 17, .mv (.t 54), none, []⟩])
  (.seq (.seq (.ops [⟨(some 55), 57, .load true 4 (.t 14), none, []⟩, ⟨(some 56), 58, .load true 4 (.t 10), none, []⟩, ⟨(some 57), 59, .call 13 [((.t 55), 0), ((.t 56), 0)], none, []⟩, ⟨(some 58), 60, .un .not (.t 57), none, []⟩, ⟨(some 59), 61, .mv (.t 58), none, []⟩, ⟨(some 60), 62, .mv (.t 15), (some (59, false)), []⟩, ⟨(some 61), 63, .mv (.t 11), (some (59, false)), []⟩, ⟨(some 62), 64, .bin .neq (.t 60) (.t 61), (some (59, false)), []⟩, ⟨(some 63), 65, .pick (.t 59) (.c (.b true)) (.t 62), none, []⟩])
  (.cond (.t 63)
  (.seq (.ops [⟨(some 8), 10, .mv (.c (.b false)), none, []⟩])
  .ret)
  .skip))
  (.seq (.seq (.draw [⟨(some 64), 66, .load true 3 (.t 12), none, []⟩, ⟨(some 65), 67, .load true 3 (.t 4), none, []⟩, ⟨(some 66), 68, .call 9 [((.t 65), 0)], none, [0]⟩, ⟨(some 67), 69, .call 14 [((.t 64), 0), ((.t 66), 0)], none, []⟩, ⟨(some 68), 70, .un .not (.t 67), none, []⟩])
  (.cond (.t 68)
  (.seq (.ops [⟨(some 8), 10, .mv (.c (.b false)), none, []⟩])
  .ret)
  .skip))
  (.seq (.seq (.draw [⟨(some 69), 71, .load true 4 (.t 13), none, []⟩, ⟨(some 70), 72, .load true 4 (.t 5), none, []⟩, ⟨(some 71), 73, .call 10 [((.t 70), 0)], none, [0]⟩, ⟨(some 72), 74, .call 13 [((.t 69), 0), ((.t 71), 0)], none, []⟩, ⟨(some 73), 75, .un .not (.t 72), none, []⟩])
  (.cond (.t 73)
  (.seq (.ops [⟨(some 8), 10, .mv (.c (.b false)), none, []⟩])
  .ret)
  .skip))
  (.seq (.ops [⟨(some 16), 18, .mv (.c (.i .i64 1)), none, []⟩])
  (.seq (.ops [⟨(some 74), 76, .load true 3 (.t 12), none, []⟩, ⟨(some 75), 77, .mv (.t 16), none, []⟩, ⟨(some 76), 78, .call 15 [((.t 74), 0), ((.t 75), 0)], none, []⟩, ⟨(some 16), 18, .mv (.t 76), none, []⟩])
  (.seq (.ops [⟨(some 77), 79, .load true 4 (.t 13), none, []⟩, ⟨(some 78), 80, .mv (.t 16), none, []⟩, ⟨(some 79), 81, .call 16 [((.t 77), 0), ((.t 78), 0)], none, []⟩, ⟨(some 16), 18, .mv (.t 79), none, []⟩])
  (.seq (.seq (.ops [⟨(some 80), 82, .mv (.t 16), none, []⟩, ⟨(some 81), 83, .bin .lss (.t 80) (.c (.i .i64 0)), none, []⟩, ⟨(some 82), 84, .mv (.t 81), none, []⟩, ⟨(some 83), 85, .load true 4 (.t 14), (some (82, false)), []⟩, ⟨(some 84), 86, .load true 4 (.t 10), (some (82, false)), []⟩, ⟨(some 85), 87, .call 13 [((.t 83), 0), ((.t 84), 0)], (some (82, false)), []⟩, ⟨(some 86), 88, .un .not (.t 85), (some (82, false)), []⟩, ⟨(some 87), 89, .pick (.t 82) (.c (.b true)) (.t 86), none, []⟩, ⟨(some 88), 90, .mv (.t 87), none, []⟩, ⟨(some 89), 91, .mv (.t 15), (some (88, false)), []⟩, ⟨(some 90), 92, .mv (.t 11), (some (88, false)), []⟩, ⟨(some 91), 93, .bin .neq (.t 89) (.t 90), (some (88, false)), []⟩, ⟨(some 92), 94, .pick (.t 88) (.c (.b true)) (.t 91), none, []⟩])
  (.cond (.t 92)
  (.seq (.ops [⟨(some 8), 10, .mv (.c (.b false)), none, []⟩])
  .ret)
  .skip))
  (.seq (.ops [⟨(some 17), 19, .mv (.c (.i .i64 1)), none, []⟩])
  (.seq (.ops [⟨(some 93), 95, .load true 4 (.t 14), none, []⟩, ⟨(some 94), 96, .mv (.t 17), none, []⟩, ⟨(some 95), 97, .call 16 [((.t 93), 0), ((.t 94), 0)], none, []⟩, ⟨(some 17), 19, .mv (.t 95), none, []⟩])
  (.seq (.ops [⟨(some 18), 20, .mv (.c (.i .i64 1)), none, []⟩])
  (.seq (.ops [⟨(some 96), 98, .load true 4 (.t 14), none, []⟩, ⟨(some 97), 99, .mv (.t 18), none, []⟩, ⟨(some 98), 100, .call 17 [((.t 96), 0), ((.t 97), 0)], none, []⟩, ⟨(some 18), 20, .mv (.t 98), none, []⟩])
  (.seq (.seq (.ops [⟨(some 99), 101, .mv (.t 18), none, []⟩, ⟨(some 100), 102, .bin .lss (.t 99) (.c (.i .i64 0)), none, []⟩])
  (.cond (.t 100)
  (.seq (.ops [⟨(some 8), 10, .mv (.c (.b false)), none, []⟩])
  .ret)
  .skip))
  (.seq (.seq (.ops [⟨(some 101), 103, .mv (.t 18), none, []⟩, ⟨(some 102), 104, .mv (.t 17), none, []⟩, ⟨(some 103), 105, .bin .neq (.t 101) (.t 102), none, []⟩])
  (.cond (.t 103)
  (.seq (.ops [⟨(some 8), 10, .mv (.c (.b false)), none, []⟩])
  .ret)
  .skip))
  (.seq (.draw [⟨(some 105), 107, .load true 3 (.t 4), none, []⟩, ⟨(some 106), 108, .call 9 [((.t 105), 0)], none, []⟩, ⟨(some 107), 109, .load true 4 (.t 5), none, [1]⟩, ⟨(some 108), 110, .call 10 [((.t 107), 0)], none, []⟩, ⟨(some 109), 111, .load true 2 (.t 6), none, [1, 3]⟩, ⟨(some 110), 112, .call 11 [((.t 109), 0)], none, []⟩, ⟨(some 111), 113, .mv (.t 3), none, [1, 3, 5]⟩, ⟨(some 112), 114, .call 22 [((.t 106), 0), ((.t 108), 0), ((.t 110), 0), ((.t 111), 0)], none, []⟩, ⟨(some 104), 106, .mv (.t 112), none, []⟩, ⟨(some 113), 115, .ext 0 (.t 104), none, []⟩, ⟨(some 114), 116, .ext 1 (.t 104), none, []⟩, ⟨(some 19), 21, .box 4 (.c (.ag [(.sl true 1 []), (.sl true 1 []), (.sl true 3 []), (.sl true 4 [])])), none, [0, 1, 2, 3, 4, 5, 6, 7, 8, 9, 10]⟩, ⟨none, 1031012, .store 4 (.t 19) (.t 113), none, [1000000, 10]⟩, ⟨(some 20), 22, .mv (.t 114), none, []⟩])
  (.seq (.seq (.ops [⟨(some 115), 117, .load true 4 (.t 19), none, []⟩, ⟨(some 116), 118, .load true 4 (.t 10), none, []⟩, ⟨(some 117), 119, .call 13 [((.t 115), 0), ((.t 116), 0)], none, []⟩, ⟨(some 118), 120, .un .not (.t 117), none, []⟩, ⟨(some 119), 121, .mv (.t 118), none, []⟩, ⟨(some 120), 122, .mv (.t 20), (some (119, false)), []⟩, ⟨(some 121), 123, .mv (.t 11), (some (119, false)), []⟩, ⟨(some 122), 124, .bin .neq (.t 120) (.t 121), (some (119, false)), []⟩, ⟨(some 123), 125, .pick (.t 119) (.c (.b true)) (.t 122), none, []⟩])
  (.cond (.t 123)
  (.seq (.ops [⟨(some 8), 10, .mv (.c (.b false)), none, []⟩])
  .ret)
  .skip))
  (.seq (.ops [⟨(some 18), 20, .mv (.c (.i .i64 1)), none, []⟩])
  (.seq (.ops [⟨(some 124), 126, .load true 4 (.t 14), none, []⟩, ⟨(some 125), 127, .mv (.t 18), none, []⟩, ⟨(some 126), 128, .call 17 [((.t 124), 0), ((.t 125), 0)], none, []⟩, ⟨(some 18), 20, .mv (.t 126), none, []⟩])
  (.seq (.seq (.ops [⟨(some 127), 129, .mv (.t 18), none, []⟩, ⟨(some 128), 130, .bin .lss (.t 127) (.c (.i .i64 0)), none, []⟩])
  (.cond (.t 128)
  (.seq (.ops [⟨(some 8), 10, .mv (.c (.b false)), none, []⟩])
  .ret)
  .skip))
  (.seq (.seq (.ops [⟨(some 129), 131, .mv (.t 18), none, []⟩, ⟨(some 130), 132, .mv (.t 17), none, []⟩, ⟨(some 131), 133, .bin .neq (.t 129) (.t 130), none, []⟩])
  (.cond (.t 131)
  (.seq (.ops [⟨(some 8), 10, .mv (.c (.b false)), none, []⟩])
  .ret)
  .skip))
  (.seq (.ops [⟨(some 8), 10, .mv (.c (.b true)), none, []⟩])
  .ret))))))))))))))))))))))))))))))
theorem k5 : compCode Tryz.prog Tryz.f5.ntmps Tryz.f5.body.get! = some c5 := by kernel_rfl
theorem r5 : resTmps Tryz.prog Tryz.f5.results.toList = some [.tmp 8] := by kernel_rfl
def inC (c : DeclsP) (x : Int) : Prop := 0 ≤ x ∧ x ≤ (c.length : Int) - 1
instance (c : DeclsP) (x : Int) : Decidable (inC c x) := by unfold inC; infer_instance
def dropW (w : WorldP) (e : Int × Int) (x : Int) : WorldP × Int := match w.2.2.1[(whereG e w.2.2.1 0).1.toNat]? with
  | some t => ((w.1, w.2.1, (dropTs w.2.2.1 (whereG e w.2.2.1 0).1.toNat (whereG e w.2.2.1 0).2.toNat t e x).1, w.2.2.2), (dropTs w.2.2.1 (whereG e w.2.2.1 0).1.toNat (whereG e w.2.2.1 0).2.toNat t e x).2)
  | none => (w, 0)
theorem dropW_at {w : WorldP} {e : Int × Int} {x : Int} {i k : Nat} {t : TableP} (P : AtP w.2.2.1 i k t e) : dropW w e x = ((w.1, w.2.1, (dropTs w.2.2.1 i k t e x).1, w.2.2.2), (dropTs w.2.2.1 i k t e x).2) := by
  unfold dropW
  simp only [P.hw, Int.toNat_natCast, P.ht]
noncomputable def dropG (c r d : DeclsP) (w : WorldP) (e : Int × Int) (x : Int) : WorldP × Int := @ite _ (WorldOkP c r d w ∧ inC c x) (Classical.propDecidable _) (@ite _ (liveP w.1 w.2.1 e.1 e.2) (Classical.propDecidable _) (dropW w e x) (w, 2)) (w, 1)
theorem dropTs_ok {N : Nat} {ts : List TableP} {i k : Nat} {t : TableP} {e : Int × Int} {x : Int} (h : ∀ t ∈ ts, okTn N t) (hr : (rowL t k).length + 1 ≤ N) : (dropTs ts i k t e x).1.length ≤ ts.length + 1 ∧ (∀ y ∈ (dropTs ts i k t e x).1, okTn (N + 1) y) ∧ sumN nTb (dropTs ts i k t e x).1 ≤ sumN nTb ts + (2 + 5 * ((rowL t k).length + 1)) := by
  unfold dropTs
  split
  · split
    · exact ⟨by simp, fun t ht => (h t ht).mono (by omega), by simp⟩
    · have hl : ((rowL t k).eraseIdx (idxF t.1 x).toNat).length ≤ (rowL t k).length := List.length_eraseIdx_le ..
      obtain ⟨h1, h2⟩ := moveTs_ok (i := i) (k := k) (e := e) (L := (rowL t k).eraseIdx (idxF t.1 x).toNat) h (by omega)
      have h3 := moveTs_n ts i k e ((rowL t k).eraseIdx (idxF t.1 x).toNat)
      exact ⟨h1, h2, by simp only; omega⟩
  · exact ⟨by simp, fun t ht => (h t ht).mono (by omega), by simp⟩
theorem dropG_ok {c r d : DeclsP} {w : WorldP} {e : Int × Int} {x : Int} (h : okW w) (hn : cW w ≤ 2^20) : okW (dropG c r d w e x).1 ∧ nW (dropG c r d w e x).1 ≤ nW w + 100 := by
  unfold dropG
  split
  · rename_i hw
    split
    · rename_i hl
      obtain ⟨i, k, t, P, E, hcp, h12, h40⟩ := live_atP h hw.1 hl
      rw [dropW_at P]
      obtain ⟨n1, n2, n3, n4, n5⟩ := okN hn
      have hrl := rowL_len (k := k) (E.s t (List.mem_of_getElem? P.ht))
      have hcl := colsP_len hcp
      obtain ⟨a1, a2, a3⟩ := dropTs_ok (i := i) (k := k) (t := t) (e := e) (x := x) n4 (by omega)
      refine ⟨⟨by simp only; omega, by simp only; omega, ⟨by simp only; omega, fun t ht => (a2 t ht).okT (by omega)⟩, by simp only; omega⟩, ?_⟩
      unfold nW
      simp only
      omega
    · exact ⟨h, by simp⟩
  · exact ⟨h, by simp⟩
theorem W53d (g f : List Int) (ts : List TableP) (rs : List ValP) (e : Int × Int) (x : Int) (hg : g.length ≤ 2^36) (hf : f.length ≤ 2^36) (hlv : ¬ liveP g f e.1 e.2) : Contract Tryz.prog false 53 [.own, .ro, .ro] [worldO g f ts rs, .ag (eT e), .i .i64 x] [worldO g f ts rs, .i .i64 2] [none, none, none, none] := by
  refine mk_contract [none, none, none, none] Tryz.func53 (c := Tryz.f53.body.get!) (by kernel_rfl) k53 r53 (of_decide_eq_true rfl) fun _ => ?_
  have hlive := (w67 g f e.1 e.2 (by omega) (by omega)).f hlv
  simp only [entsR, entT] at hlive
  unfold c53; simp
  refine callW_ms [.ro, .ro] ?_
  simp
  refine callX_of hlive (by simp) ?_
  simp
theorem W55d (g f : List Int) (ts : List TableP) (rs : List ValP) (e : Int × Int) (x : Int) (hg : g.length ≤ 2^36) (hf : f.length ≤ 2^36) (hlv : ¬ liveP g f e.1 e.2) : Contract Tryz.prog false 55 [.own, .ro, .ro] [.po true [.sl true 1 (g.map iT), .sl true 1 (f.map iT), .sl true 3 (ts.map tbO), .sl true 4 (rs.map vT)], .ag (eT e), .i .i64 x] [.i .i64 2] [some (.po true [.sl true 1 (g.map iT), .sl true 1 (f.map iT), .sl true 3 (ts.map tbO), .sl true 4 (rs.map vT)])] := by
  refine mk_contract [some [(1, 0)]] Tryz.func55 (c := Tryz.f55.body.get!) (by kernel_rfl) k55 r55 (of_decide_eq_true rfl) fun _ => ?_
  have hlive := (W83w g f ts rs e.1 e.2 (by omega) (by omega)).f hlv
  simp only [entT] at hlive
  unfold c55; simp
  refine callW_ms [.ro, .ro] ?_
  simp
  refine callX_of hlive (by simp) ?_
  simp
set_option maxRecDepth 100000 in
theorem w21 (c r d : DeclsP) (w : WorldP) (e : Int × Int) (x : Int) (h : okW w) (hc : c.length ≤ 2^40) (hr : r.length ≤ 2^40) (he : d.length ≤ 2^40) (hf : fW w) : Contract Tryz.prog false 21 [.ro, .ro, .ro, .ro] [regR c r d, worldR w.1 w.2.1 w.2.2.1 w.2.2.2, .ag (eT e), .i .i64 x] [worldO (dropG c r d w e x).1.1 (dropG c r d w e x).1.2.1 (dropG c r d w e x).1.2.2.1 (dropG c r d w e x).1.2.2.2, .i .i64 (dropG c r d w e x).2] [] := by
  refine mk_contract [] Tryz.func21 (c := Tryz.f21.body.get!) (by kernel_rfl) k21 r21 (of_decide_eq_true rfl) fun _ => ?_
  have hOk := w27 c r d w h hc hr he hf.1 hf.2
  have hCp := w28 w h
  have hwc : IntKind.i64.wrap ((c.length : Int) - 1) = c.length - 1 := wrap_id (by omega) (by omega)
  have hFi := w52 x 0 ((c.length : Int) - 1)
  have hh := h
  obtain ⟨h1, h2, ⟨h3, h4⟩, h5⟩ := h
  unfold regR at hOk ⊢
  by_cases hw : WorldOkP c r d w
  rotate_left
  · have hF : dropG c r d w e x = (w, 1) := by unfold dropG; rw [if_neg fun h => hw h.1]
    rw [hF]
    unfold c21; simp [hwc]
    refine callW_ms [.ro, .ro] ?_
    simp
    refine callX_of (hOk.f hw) (by simp) ?_
    simp
    refine callW_ms [.ro] ?_
    simp
    refine callX_of hCp (by simp) ?_
    simp
  by_cases hfi : inC c x
  rotate_left
  · have hF : dropG c r d w e x = (w, 1) := by unfold dropG; rw [if_neg fun h => hfi h.2]
    rw [hF]
    unfold c21; simp [hwc]
    refine callW_ms [.ro, .ro] ?_
    simp
    refine callX_of (hOk.t hw) (by simp) ?_
    simp
    refine callW_ms [.ro, .ro, .ro] ?_
    simp [hwc]
    refine callX_of (hFi.f hfi) (by simp) ?_
    simp
    refine callW_ms [.ro] ?_
    simp
    refine callX_of hCp (by simp) ?_
    simp
  have hK : Contract Tryz.prog false 53 [.own, .ro, .ro] [worldO w.1 w.2.1 w.2.2.1 w.2.2.2, .ag (eT e), .i .i64 x] [worldO (dropG c r d w e x).1.1 (dropG c r d w e x).1.2.1 (dropG c r d w e x).1.2.2.1 (dropG c r d w e x).1.2.2.2, .i .i64 (dropG c r d w e x).2] [none, none, none, none] := by
    unfold dropG
    rw [if_pos ⟨hw, hfi⟩]
    by_cases hlv : liveP w.1 w.2.1 e.1 e.2
    · rw [if_pos hlv]
      obtain ⟨i, k, t, P, E, hcp, h12, h40⟩ := live_atP hh hw hlv
      rw [dropW_at P]
      exact w53 w.1 w.2.1 w.2.2.1 w.2.2.2 i k t e x h1 h2 h5 E P hlv
    · rw [if_neg hlv]
      exact W53d w.1 w.2.1 w.2.2.1 w.2.2.2 e x h1 h2 hlv
  generalize dropG c r d w e x = o at *
  obtain ⟨o, oc⟩ := o
  simp only at hK ⊢
  unfold c21; simp [hwc]
  refine callW_ms [.ro, .ro] ?_
  simp
  refine callX_of (hOk.t hw) (by simp) ?_
  simp
  refine callW_ms [.ro, .ro, .ro] ?_
  simp [hwc]
  refine callX_of (hFi.t hfi) (by simp) ?_
  simp
  refine callW_ms [.ro] ?_
  simp
  refine callX_of hCp (by simp) ?_
  simp
  refine callW_ms [.own, .ro, .ro] ?_
  simp
  refine callX_of hK (by simp) ?_
  simp
set_option maxRecDepth 100000 in
theorem w22 (c r d : DeclsP) (w : WorldP) (e : Int × Int) (x : Int) (h : okW w) (hn : cW w ≤ 2^20) (hc : c.length ≤ 2^40) (hr : r.length ≤ 2^40) (he : d.length ≤ 2^40) (hs : ∀ l ∈ [c, r, d], ∀ d ∈ l, d.1.size ≤ 2^40) : Contract Tryz.prog false 22 [.ro, .ro, .ro, .ro] [regR c r d, worldR w.1 w.2.1 w.2.2.1 w.2.2.2, .ag (eT e), .i .i64 x] [worldO (dropG c r d w e x).1.1 (dropG c r d w e x).1.2.1 (dropG c r d w e x).1.2.2.1 (dropG c r d w e x).1.2.2.2, .i .i64 (dropG c r d w e x).2] [] := by
  refine mk_contract [] Tryz.func22 (c := Tryz.f22.body.get!) (by kernel_rfl) k22 r22 (of_decide_eq_true rfl) fun _ => ?_
  have hOk := w35 c r d w h hc hr he hs
  have hCp := w34 w h
  have hko := (dropG_ok (c := c) (r := r) (d := d) (e := e) (x := x) h hn).1
  have hCp2 := w34 (dropG c r d w e x).1 hko
  have hwc : IntKind.i64.wrap ((c.length : Int) - 1) = c.length - 1 := wrap_id (by omega) (by omega)
  have hFi := w54 x 0 ((c.length : Int) - 1)
  have hh := h
  obtain ⟨h1, h2, ⟨h3, h4⟩, h5⟩ := h
  unfold regR at hOk ⊢
  by_cases hw : WorldOkP c r d w
  rotate_left
  · have hF : dropG c r d w e x = (w, 1) := by unfold dropG; rw [if_neg fun h => hw h.1]
    rw [hF]
    unfold c22; simp [hwc]
    refine callW_ms [.ro] ?_
    simp
    refine callX_of hCp (by simp) ?_
    simp
    refine callW_ms [.ro, .ro] ?_
    simp
    refine callX_of (hOk.f hw) (by simp) ?_
    simp
  by_cases hfi : inC c x
  rotate_left
  · have hF : dropG c r d w e x = (w, 1) := by unfold dropG; rw [if_neg fun h => hfi h.2]
    rw [hF]
    unfold c22; simp [hwc]
    refine callW_ms [.ro] ?_
    simp
    refine callX_of hCp (by simp) ?_
    simp
    refine callW_ms [.ro, .ro] ?_
    simp
    refine callX_of (hOk.t hw) (by simp) ?_
    simp
    refine callW_ms [.ro, .ro, .ro] ?_
    simp [hwc]
    refine callX_of (hFi.f hfi) (by simp) ?_
    simp
  have hK : Contract Tryz.prog false 55 [.own, .ro, .ro] [.po true [.sl true 1 (w.1.map iT), .sl true 1 (w.2.1.map iT), .sl true 3 (w.2.2.1.map tbO), .sl true 4 (w.2.2.2.map vT)], .ag (eT e), .i .i64 x] [.i .i64 (dropG c r d w e x).2] [some (.po true [.sl true 1 ((dropG c r d w e x).1.1.map iT), .sl true 1 ((dropG c r d w e x).1.2.1.map iT), .sl true 3 ((dropG c r d w e x).1.2.2.1.map tbO), .sl true 4 ((dropG c r d w e x).1.2.2.2.map vT)])] := by
    unfold dropG
    rw [if_pos ⟨hw, hfi⟩]
    by_cases hlv : liveP w.1 w.2.1 e.1 e.2
    · rw [if_pos hlv]
      obtain ⟨i, k, t, P, E, hcp, h12, h40⟩ := live_atP hh hw hlv
      rw [dropW_at P]
      exact w55 w.1 w.2.1 w.2.2.1 w.2.2.2 i k c.length t e x h1 h2 h5 E P hlv h40 h12 hcp
    · rw [if_neg hlv]
      exact W55d w.1 w.2.1 w.2.2.1 w.2.2.2 e x h1 h2 hlv
  generalize dropG c r d w e x = o at *
  obtain ⟨o, oc⟩ := o
  simp only at hK hCp2 ⊢
  unfold c22; simp [hwc]
  refine callW_ms [.ro] ?_
  simp
  refine callX_of hCp (by simp) ?_
  simp
  refine callW_ms [.ro, .ro] ?_
  simp
  refine callX_of (hOk.t hw) (by simp) ?_
  simp
  refine callW_ms [.ro, .ro, .ro] ?_
  simp [hwc]
  refine callX_of (hFi.t hfi) (by simp) ?_
  simp
  refine callW_ms [.own, .ro, .ro] ?_
  simp
  refine callX_of hK (by simp) ?_
  simp
  refine callW_ms [.ro] ?_
  simp
  refine callX_of hCp2 (by simp) ?_
  simp
end Go.Proofs.YtehmdblkkpdmoaaGreatT


namespace Go.Proofs.YtehmdblkkpdmoaaGreatT
set_option linter.unusedVariables false
set_option linter.unusedSimpArgs false
open Go
set_option maxHeartbeats 2000000 in
set_option maxRecDepth 100000 in
theorem w5 (c r d : DeclsP) (w : WorldP) (e : Int × Int) (x : Int) (hc : bndD c) (hr : bndD r) (he : bndD d) (hb : bdW w) (hf : fW w) : Contract Tryz.prog false 5 [.ro, .ro, .ro, .ro] [regR c r d, worldR w.1 w.2.1 w.2.2.1 w.2.2.2, .ag (eT e), .i .i64 x] [.b true] [] := by
  refine mk_contract [] Tryz.func5 (c := Tryz.f5.body.get!) (by kernel_rfl) k5 r5 (of_decide_eq_true rfl) fun _ => ?_
  unfold c5; unfold regR; simp
  refine callW_ms [.ro, .ro] ?_
  simp [regR]
  refine callX_of (w6 c r d _ hc hr he (by omega) (by omega)) (by simp) ?_
  simp
  intro h
  obtain ⟨g0, g1, hok⟩ := szRegF_ok (k := 2^20) (by omega) (by omega) (by omega : ¬ szRegF c r d 1048576 < 0)
  obtain ⟨hc2, hr2, he2⟩ := id hok
  have hall := okD_all ⟨okD_mono hok.1 (by omega : 2^20 ≤ 2^40), okD_mono hok.2.1 (by omega), okD_mono hok.2.2 (by omega)⟩
  have := hc2.1
  have := hr2.1
  have := he2.1
  generalize szRegF c r d 1048576 = m at *
  refine callW_ms [.ro, .ro] ?_
  simp
  refine callX_of (w7 w m hb (by omega) (by omega)) (by simp) ?_
  simp
  intro h2
  obtain ⟨hw2, hcW⟩ := szW_ok (w := w) (n := m) (by omega) (by omega) (by omega : ¬ szWF w m < 0)
  have hn4 := nW_le w
  have hcn : cW w ≤ 2^20 := by omega
  have hS := w21 c r d w e x hw2 (by omega) (by omega) (by omega) hf
  have hI := w22 c r d w e x hw2 hcn (by omega) (by omega) (by omega) hall
  obtain ⟨ho, hno⟩ := dropG_ok (c := c) (r := r) (d := d) (e := e) (x := x) hw2 hcn
  generalize dropG c r d w e x = o at *
  obtain ⟨o, oc⟩ := o
  simp only at hS hI ho hno
  refine callW_ms [.ro] ?_
  simp [regR]
  refine callX_of (w9 c r d (by omega) (by omega) (by omega)) (by simp) ?_
  simp [regO]
  refine callW_ms [.ro] ?_
  simp
  refine callX_of (w10 w hw2) (by simp) ?_
  simp
  refine callW_ms [.ro] ?_
  simp [entT]
  refine callX_of (w11 e.1 e.2) (by simp) ?_
  simp [entT]
  refine callW_ms [.ro, .ro, .ro, .ro] ?_
  simp
  refine callX_of hS (by simp [regR]) ?_
  simp
  refine callW_ms [.ro] ?_
  simp [regR]
  refine callX_of (w9 c r d (by omega) (by omega) (by omega)) (by simp) ?_
  simp [regO]
  refine callW_ms [.ro] ?_
  simp
  refine callX_of (w10 w hw2) (by simp) ?_
  simp
  refine callW_ms [.ro] ?_
  simp [entT]
  refine callX_of (w11 e.1 e.2) (by simp) ?_
  simp [entT]
  refine callW_ms [.ro, .ro, .ro, .ro] ?_
  simp
  refine callX_of hI (by simp [regR]) ?_
  simp
  refine callW_ms [.ro, .ro] ?_
  simp
  refine callX_of (w13 o ho) (by simp) ?_
  simp
  refine callW_ms [.ro] ?_
  simp [regR]
  refine callX_of (w9 c r d (by omega) (by omega) (by omega)) (by simp) ?_
  simp [regO]
  refine callW_ms [.ro, .ro] ?_
  simp [regR]
  refine callX_of (w14 c r d c r d (by omega) (by omega) (by omega) (by omega) (by omega) (by omega)) (by simp) ?_
  simp
  refine callW_ms [.ro] ?_
  simp
  refine callX_of (w10 w hw2) (by simp) ?_
  simp
  refine callW_ms [.ro, .ro] ?_
  simp
  refine callX_of (w13 w hw2) (by simp) ?_
  simp
  have hk1 : ¬ (1 + 2 * (c.length : Int) + 2 * r.length + 2 * d.length < 0) := by omega
  obtain ⟨xr, ⟨i1, i2, i3⟩, hC⟩ := w15 c r d 1 (by omega) (by omega) (by omega) (by omega) (by omega)
  refine callW_ms [.own, .ro] ?_
  simp [regO]
  refine callX_of hC (by simp) ?_
  simp [hk1, i1, i2, i3]
  have hk2 : ¬ (1 + 2 * (c.length : Int) + 2 * r.length + 2 * d.length + nW w < 0) := by omega
  refine callW_ms [.own, .ro] ?_
  simp
  refine callX_of (w16 w (1 + 2 * (c.length : Int) + 2 * r.length + 2 * d.length) hw2 (by omega) (by omega)) (by simp) ?_
  simp [hk2]
  refine callW_ms [.ro, .ro] ?_
  simp
  refine callX_of (w13 o ho) (by simp) ?_
  simp
  refine callW_ms [.own, .ro] ?_
  simp
  refine callX_of (w16 o 1 ho (by omega) (by omega)) (by simp) ?_
  simp
  refine callW_ms [.ro, .ro] ?_
  simp
  refine callX_of (w17 o 1 ho (by omega) (by omega)) (by simp) ?_
  simp
  refine ⟨by omega, fun _ => ?_⟩
  refine callW_ms [.ro] ?_
  simp [regR]
  refine callX_of (w9 c r d (by omega) (by omega) (by omega)) (by simp) ?_
  simp [regO]
  refine callW_ms [.ro] ?_
  simp
  refine callX_of (w10 w hw2) (by simp) ?_
  simp
  refine callW_ms [.ro] ?_
  simp [entT]
  refine callX_of (w11 e.1 e.2) (by simp) ?_
  simp [entT]
  refine callW_ms [.ro, .ro, .ro, .ro] ?_
  simp
  refine callX_of hI (by simp [regR]) ?_
  simp
  refine callW_ms [.ro, .ro] ?_
  simp
  refine callX_of (w13 o ho) (by simp) ?_
  simp
  refine callW_ms [.ro, .ro] ?_
  simp
  refine callX_of (w17 o 1 ho (by omega) (by omega)) (by simp) ?_
  simp
  omega
end Go.Proofs.YtehmdblkkpdmoaaGreatT

