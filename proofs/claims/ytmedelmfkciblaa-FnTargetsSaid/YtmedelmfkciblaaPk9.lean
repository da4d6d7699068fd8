/- Texts of this session's own, one behind the other: TmAn, TmAo, TmAq. -/
import Derived.Test.YtmedelmfkciblaaPk8
import Derived.Sort.Grow
namespace Go.Proofs.YtmedelmfkciblaaT
set_option linter.unusedVariables false
set_option linter.unusedSimpArgs false
open Go Go.Sort
section
variable {P : Program} {w : World} {κ : Path → Value} {γ : Nat → Nat → Option Path} {A : Nat → Nat → Prop}
abbrev eI : Int → Value := Value.int .i64
theorem own_ints {p : Path} {zs : List Int} {v : Value} (h : TR w κ γ A p (.sl true 1 (zs.map iT)) v) :
  κ p = v ∧ ((zs = [] ∧ v = .slice none 0 0) ∨ ∃ B o c arr T, v = .slice (some ⟨B, o, none⟩) zs.length c ∧ zs.length ≤ c ∧ w.heap[B]? = some (.cells arr T (0, 0)) ∧ o + c ≤ arr.size ∧ (∀ k, k < c → γ B (o + k) = some p) ∧ Holds eI w B o zs.toArray) := by
 generalize hu : TV.sl true 1 (zs.map iT) = u at h
 cases h with
 | pure _ _ _ h => subst hu; cases h
 | sl0 _ z hk =>
  injection hu with _ _ h3
  exact ⟨hk, .inl ⟨by simpa using h3, rfl⟩⟩
 | po => cases hu
 | sl _ z n c B o es arr T hk hl hn hz hb hs hg hc =>
  injection hu with _ h2 h3
  subst h2; subst h3
  rw [List.length_map] at hl
  subst hl
  refine ⟨hk, .inr ⟨B, o, c, arr, T, rfl, hn, hb, by omega, fun k hk => hg k (by omega), fun j hj => ?_⟩⟩
  rw [List.size_toArray] at hj
  have hge : (zs.map iT)[j]? = some (iT zs[j]) := by rw [List.getElem?_map, List.getElem?_eq_getElem hj]; rfl
  have h1 := hc j 0 _ _ hge rfl
  have h2 : arr[o + j * 1 + 0]? = some (.int .i64 zs[j]) := by
   have hlt : o + j * 1 + 0 < arr.size := by omega
   rw [Array.getElem?_eq_getElem hlt] at h1 ⊢
   simp only [Option.getD_some] at h1
   generalize arr[o + j * 1 + 0] = x at h1
   cases h1 with
   | pure _ _ _ h => cases h; rfl
  have h3 : zs.toArray[j]! = zs[j] := by rw [getElem!_pos _ j (by simpa using hj)]; simp
  simp only [Nat.mul_one, Nat.add_zero] at h2
  refine ⟨?_, ?_⟩
  ·simp only [World.cell?, hb, h3]
   simpa using h2
  ·simp only [World.frozen?, hb]
   simp
theorem heap_put {B o n : Nat} {arr : Array Value} {T : TypeId} {fz : Nat × Nat} {d : Array Int} {os : Array Obj} (hb : w.heap[B]? = some (.cells arr T fz)) :
  (grow (putRow eI (Sort.ahead w n) B o d) os).heap[B]? = some (.cells (putCells eI o d arr) T fz) := by
 have hlt : B < w.heap.size := by
  rcases Nat.lt_or_ge B w.heap.size with h | h
  ·exact h
  ·rw [Array.getElem?_eq_none h] at hb; cases hb
 rw [heap_grow_old _ _ (by simpa using hlt)]
 simp only [putRow, mapBlock, heap_ahead, Array.getElem?_modify, if_true, hb]
 rfl
theorem heap_put_ne {B o n b : Nat} {d : Array Int} {os : Array Obj} (hlt : b < w.heap.size) (hne : b ≠ B) : (grow (putRow eI (Sort.ahead w n) B o d) os).heap[b]? = w.heap[b]? := by
 rw [heap_grow_old _ _ (by simpa using hlt)]
 simp only [putRow, mapBlock, heap_ahead, Array.getElem?_modify]
 rw [if_neg (fun h => hne h.symm)]
theorem lt_heap {b : Nat} {x : Obj} (h : w.heap[b]? = some x) : b < w.heap.size := by
 rcases Nat.lt_or_ge b w.heap.size with h' | h'
 ·exact h'
 ·rw [Array.getElem?_eq_none h'] at h; cases h
theorem chg_put {B o c n : Nat} {arr : Array Value} {T : TypeId} {p : Path} {d : Array Int} {os : Array Obj} (hb : w.heap[B]? = some (.cells arr T (0, 0))) (hd : d.size ≤ c) (hg : ∀ k, k < c → γ B (o + k) = some p) :
  Chg (fun b o => ∃ q, γ b o = some q) w (grow (putRow eI (Sort.ahead w n) B o d) os) := by
 refine ⟨rfl, rfl, rfl, ?_, ?_, ?_⟩
 ·simp
 ·intro b arr' T' fz' hb'
  by_cases hB : b = B
  ·subst hB
   rw [hb] at hb'; cases hb'
   refine ⟨_, heap_put hb, by simp [putCells], fun k hk => ?_⟩
   simp only [putCells, Array.getElem?_mapIdx]
   cases arr[k]? with
   | none => rfl
   | some x =>
    simp only [Option.map_some]
    rw [if_neg]
    rintro ⟨h1, h2⟩
    exact hk ⟨p, by have := hg (k - o) (by omega); rwa [show o + (k - o) = k by omega] at this⟩
  ·exact ⟨arr', by rw [heap_put_ne (lt_heap hb') hB]; exact hb', rfl, fun _ _ => rfl⟩
 ·intro b x hb' hx
  have hB : b ≠ B := by
   rintro rfl
   rw [hb] at hb'; cases hb'; exact hx _ _ _ rfl
  rw [heap_put_ne (lt_heap hb') hB]; exact hb'
theorem row_put {B o c n k : Nat} {arr : Array Value} {T : TypeId} {q : Path} {zs' : List Int} {os : Array Obj} {κ' : Path → Value} {γ' : Nat → Nat → Option Path} (hb : w.heap[B]? = some (.cells arr T (0, 0))) (hs : o + c ≤ arr.size)
  (hk : κ' q = .slice (some ⟨B, o, none⟩) k c) (hz : zs'.length ≤ c) (hkl : k ≤ zs'.length) (hg : ∀ k, k < c → γ' B (o + k) = some q) :
  TR (grow (putRow eI (Sort.ahead w n) B o zs'.toArray) os) κ' γ' A q (.sl true 1 ((zs'.take k).map iT)) (.slice (some ⟨B, o, none⟩) k c) := by
 refine .sl q 1 k c B o _ (putCells eI o zs'.toArray arr) T hk (by simp; omega) (by omega) ?_ (heap_put hb) (by simp [putCells]; omega) (fun k hk => hg k (by omega)) ?_
 ·intro e he
  obtain ⟨x, _, rfl⟩ := List.mem_map.1 he
  rfl
 ·intro i f e u he hu
  rw [List.getElem?_map] at he
  cases hx : (zs'.take k)[i]? with
  | none => rw [hx] at he; cases he
  | some x =>
   rw [hx] at he; cases he
   have hi := (List.getElem?_eq_some_iff.1 hx).1
   rw [List.length_take] at hi
   have hx2 : zs'[i]? = some x := by rw [List.getElem?_take_of_lt (by omega)] at hx; exact hx
   obtain rfl : f = 0 := by
    have := (List.getElem?_eq_some_iff.1 hu).1
    simp at this; omega
   cases hu
   refine .pure _ _ _ ?_
   have hlt : o + i * 1 + 0 < arr.size := by omega
   have hcell : (putCells eI o zs'.toArray arr)[o + i * 1 + 0]? = some (.int .i64 x) := by
    simp only [putCells, Array.getElem?_mapIdx, Array.getElem?_eq_getElem hlt, Option.map_some]
    rw [if_pos ⟨by omega, by simp; omega⟩]
    have hj : o + i * 1 + 0 - o = i := by omega
    rw [hj, getElem!_pos _ i (by simp; omega)]
    simp only [List.getElem_toArray]
    rw [(List.getElem?_eq_some_iff.1 hx2).2]
   rw [hcell]
   exact .i _ _
theorem one_arg {ms : Mode} {u : TV} {vs : List Value} (hA : ArgsR w κ γ A [ms] [u] vs) : ∃ v, vs = [v] := by
 have := hA.len
 match vs, this with
 | [v], _ => exact ⟨v, rfl⟩
theorem one_own {z : Nat} {es : List (List TV)} {v : Value} (hA : ArgsR w κ γ A [.own] [.sl true z es] [v]) : TR w κ γ A [(1, 0)] (.sl true z es) v := by
 have hv : cellsV v = [v] := by
  have := (hA.ag 0 _ v (by simp) rfl rfl).1
  cases v <;> simp_all [isAg, isAgV, cellsV]
 have h1 := hA.own 0 _ rfl
 have h2 := hA.val 0 v (by simp [ownVals, hv])
 rwa [h2] at h1
theorem contract_turn {g : FuncId} {zs zs' : List Int} (hl : zs'.length = zs.length)
  (h1 : ∀ (blk off cap : Nat) (w : World), Holds eI w blk off zs.toArray → blk < w.heap.size → zs.length ≤ cap → Calls P g #[.slice (some ⟨blk, off, none⟩) zs.length cap] w fun e w' => e = .returned (.tuple #[]) ∧ ∃ n os, w' = grow (putRow eI (Sort.ahead w n) blk off zs'.toArray) os)
  (h0 : zs = [] → ∀ (w : World), Calls P g #[.slice none 0 0] w fun e w' => e = .returned (.tuple #[]) ∧ w' = w) :
  Contract P false g [.own] [.sl true 1 (zs.map iT)] [] [some (.sl true 1 (zs'.map iT))] := by
 intro w vs κ γ A hA hγ hAA
 obtain ⟨v, rfl⟩ := one_arg hA
 have hT := one_own hA
 obtain ⟨hκ, ⟨rfl, rfl⟩ | ⟨B, o, c, arr, T, rfl, hn, hb, hs, hg, hH⟩⟩ := own_ints hT
 ·refine (h0 rfl w).mono ?_
  rintro e w' ⟨rfl, rfl⟩
  obtain rfl : zs' = [] := List.length_eq_zero_iff.1 hl
  refine ⟨[], κ, γ, rfl, ⟨rfl, fun j u v h => by simp at h, fun m c h => by simp at h, fun m v h => by simp at h⟩, fun m u h => ?_, fun b o q h => ⟨hγ b o q h, .inl ⟨q, h⟩⟩, Chg.refl _ _⟩
  match m, h with
  | 0, h => simp at h; subst h; rw [hκ]; exact .sl0 _ _ hκ
 ·refine (h1 B o c w hH (lt_heap hb) hn).mono ?_
  rintro e w' ⟨rfl, n, os, rfl⟩
  refine ⟨[], κ, γ, rfl, ⟨rfl, fun j u v h => by simp at h, fun m c h => by simp at h, fun m v h => by simp at h⟩, fun m u h => ?_, fun b o q h => ⟨?_, .inl ⟨q, h⟩⟩, chg_put (c := c) (p := [(1, 0)]) hb (by simp; omega) hg⟩
  ·match m, h with
   | 0, h =>
    simp at h; subst h
    rw [hκ]
    have := row_put (A := fun b o => false = true ∧ A b o) (κ' := κ) (γ' := γ) (q := [(1, 0)]) (n := n) (os := os) (zs' := zs') (k := zs'.length) hb hs (by rw [hκ, hl]) (by omega) (Nat.le_refl _) hg
    rw [List.take_length, hl] at this
    exact this
  ·have := hγ b o q h
   simp; omega
theorem contract_cut {g : FuncId} {zs zs' : List Int} (r : List Int) (hl : zs'.length = zs.length) (hr : ∃ k, k ≤ zs'.length ∧ r = zs'.take k)
  (h1 : ∀ (blk off cap : Nat) (w : World), Holds eI w blk off zs.toArray → blk < w.heap.size → zs.length ≤ cap → Calls P g #[.slice (some ⟨blk, off, none⟩) zs.length cap] w fun e w' => e = .returned (.slice (some ⟨blk, off, none⟩) r.length cap) ∧ ∃ n os, w' = grow (putRow eI (Sort.ahead w n) blk off zs'.toArray) os)
  (h0 : zs = [] → ∀ (w : World), Calls P g #[.slice none 0 0] w fun e w' => e = .returned (.slice none 0 0) ∧ w' = w) :
  Contract P false g [.own] [.sl true 1 (zs.map iT)] [.sl true 1 (r.map iT)] [none] := by
 intro w vs κ γ A hA hγ hAA
 obtain ⟨v, rfl⟩ := one_arg hA
 have hT := one_own hA
 obtain ⟨k, hk, rfl⟩ := hr
 have hkl : (zs'.take k).length = k := by simp; omega
 have hout : ∀ (w' : World) (κ' : Path → Value) (γ' : Nat → Nat → Option Path) (m : Nat) (u : TV), ([none] : List (Option TV))[m]? = some (some u) → TR w' κ' γ' (fun b o => false = true ∧ A b o) [(1, m)] u (κ [(1, m)]) := fun w' κ' γ' m u h => by
  match m, h with
  | 0, h => simp at h
 obtain ⟨hκ, ⟨rfl, rfl⟩ | ⟨B, o, c, arr, T, rfl, hn, hb, hs, hg, hH⟩⟩ := own_ints hT
 ·obtain rfl : zs' = [] := List.length_eq_zero_iff.1 hl
  refine (h0 rfl w).mono ?_
  rintro e w' ⟨rfl, rfl⟩
  refine ⟨[.slice none 0 0], fun q => if q = [(0, 0)] then .slice none 0 0 else κ q, γ, rfl, ⟨rfl, ?_, ?_, ?_⟩, fun m u h => hout _ _ _ m u h, fun b o q h => ⟨hγ b o q h, .inl ⟨q, h⟩⟩, Chg.refl _ _⟩
  ·intro j u v hu hv
   match j, hu with
   | 0, hu => simp at hu hv; subst hu; subst hv; exact ⟨rfl, rfl⟩
  ·intro m x hx
   match m, hx with
   | 0, hx =>
    simp [cellsT] at hx; subst hx
    simp only [if_true]
    exact .sl0 _ _ (by simp)
  ·intro m v hv
   match m, hv with
   | 0, hv => simp [cellsV] at hv; subst hv; simp
 ·refine (h1 B o c w hH (lt_heap hb) hn).mono ?_
  rintro e w' ⟨rfl, n, os, rfl⟩
  rw [hkl]
  refine ⟨[.slice (some ⟨B, o, none⟩) k c], fun q => if q = [(0, 0)] then .slice (some ⟨B, o, none⟩) k c else κ q, fun b i => if γ b i = some [(1, 0)] then some [(0, 0)] else γ b i, rfl, ⟨rfl, ?_, ?_, ?_⟩, fun m u h => hout _ _ _ m u h, fun b i q h => ⟨?_, ?_⟩, chg_put (c := c) (p := [(1, 0)]) hb (by simp; omega) hg⟩
  ·intro j u v hu hv
   match j, hu with
   | 0, hu => simp at hu hv; subst hu; subst hv; exact ⟨rfl, rfl⟩
  ·intro m x hx
   match m, hx with
   | 0, hx =>
    simp [cellsT, -List.map_take] at hx; subst hx
    simp only [if_true]
    exact row_put (zs' := zs') (q := [(0, 0)]) hb hs (by simp) (by omega) hk (fun k hk => by simp only [hg k hk, if_true])
  ·intro m v hv
   match m, hv with
   | 0, hv => simp [cellsV] at hv; subst hv; simp
  ·by_cases h' : γ b i = some [(1, 0)]
   ·have := hγ b i _ h'
    simp; omega
   ·simp only [if_neg h'] at h
    have := hγ b i _ h
    simp; omega
  ·by_cases h' : γ b i = some [(1, 0)]
   ·exact .inl ⟨_, h'⟩
   ·simp only [if_neg h'] at h
    exact .inl ⟨_, h⟩
end
end Go.Proofs.YtmedelmfkciblaaT


namespace Go.Proofs.YtmedelmfkciblaaT
set_option linter.unusedVariables false
set_option linter.unusedSimpArgs false
open Go
theorem RR.blur {w : World} {A K : Nat → Nat → Prop} {z : Nat} {es : List (List TV)} {v : Value} (h : RR w A (.sl false z es) v) : RR w K (.sl false 0 (es.map fun _ => [])) v := by
 cases h with
 | sl0 z => exact .sl0 0
 | sle z c a => exact .sle 0 c a
 | sl z n c B o es arr T fz hl hn hz hb hs hA hc =>
  refine .sl 0 n c B o _ arr T fz (by simpa using hl) hn (fun e he => ?_) hb (by omega) (fun k hk => absurd hk (by omega)) ?_
  ·obtain ⟨_, _, rfl⟩ := List.mem_map.1 he; rfl
  ·intro i f e u he hf
   have : e = [] := by obtain ⟨_, _, rfl⟩ := List.mem_map.1 (List.mem_of_getElem? he); rfl
   subst this; cases hf
theorem Contract.blur {P : Program} {g : FuncId} {ms : List Mode} {args rest : List TV} {z : Nat} {es : List (List TV)} (h : Contract P true g ms args (.ag [.sl false z es, .sl false 1 []] :: rest) []) (hr : (rest.flatMap cellsT).all noRO = true) :
  Contract P false g ms args (.ag [.sl false 0 (es.map fun _ => []), .sl false 1 []] :: rest) [] := by
 intro w vs κ γ A hA hg hAA
 refine Calls.mono (h w vs κ γ A hA hg hAA) fun e w' he => ?_
 obtain ⟨rs, κ', γ', e1, hres, ho, hγ, hch⟩ := he
 refine ⟨rs, κ', γ', e1, ⟨by simpa using hres.len, ?_, ?_, hres.val⟩, by simp, hγ, hch⟩
 ·intro j u v hu hv
  cases j with
  | zero =>
   have := hres.ag 0 _ v rfl hv
   simp only [List.getElem?_cons_zero, Option.some.injEq] at hu; subst hu
   simpa [isAg, cellsT] using this
  | succ j => exact hres.ag (j + 1) u v (by simpa using hu) hv
 ·intro m c hc
  simp only [List.flatMap_cons, cellsT] at hc
  match m, hc with
  | 0, hc =>
   simp at hc; subst hc
   have := hres.cell 0 _ rfl
   cases this with
   | pure _ _ _ h => exact .pure _ _ _ h.blur
  | 1, hc =>
   simp at hc; subst hc
   exact (hres.cell 1 (.sl false 1 []) rfl).noro rfl
  | m + 2, hc =>
   have hc2 : (rest.flatMap cellsT)[m]? = some c := by simpa using hc
   exact (hres.cell (m + 2) c (by simpa using hc2)).noro (List.all_eq_true.1 hr c (List.mem_of_getElem? hc2))
def blurT : TV → TV
 | .sl false _ es => .sl false 0 (es.map fun _ => [])
 | u => u
def blurOk : TV → Bool
 | .sl false _ _ => true
 | u => noRO u
theorem TR.blur {w : World} {κ : Path → Value} {γ : Nat → Nat → Option Path} {A K : Nat → Nat → Prop} {p : Path} {u : TV} {v : Value} (h : TR w κ γ A p u v) (hu : blurOk u = true) : TR w κ γ K p (blurT u) v := by
 cases u with
 | sl own z es =>
  cases own with
  | false =>
   cases h with
   | pure _ _ _ h => exact .pure _ _ _ h.blur
  | true => exact h.noro hu
 | _ => exact h.noro hu
theorem Contract.blurs {P : Program} {g : FuncId} {ms : List Mode} {args rest cs : List TV} (h : Contract P true g ms args (.ag cs :: rest) []) (hc : cs.all blurOk = true) (hr : (rest.flatMap cellsT).all noRO = true) :
  Contract P false g ms args (.ag (cs.map blurT) :: rest) [] := by
 intro w vs κ γ A hA hg hAA
 refine Calls.mono (h w vs κ γ A hA hg hAA) fun e w' he => ?_
 obtain ⟨rs, κ', γ', e1, hres, ho, hγ, hch⟩ := he
 refine ⟨rs, κ', γ', e1, ⟨by simpa using hres.len, ?_, ?_, hres.val⟩, by simp, hγ, hch⟩
 ·intro j u v hu hv
  cases j with
  | zero =>
   have := hres.ag 0 _ v rfl hv
   simp only [List.getElem?_cons_zero, Option.some.injEq] at hu; subst hu
   simpa [isAg, cellsT] using this
  | succ j => exact hres.ag (j + 1) u v (by simpa using hu) hv
 ·intro m c hm
  simp only [List.flatMap_cons, cellsT] at hm
  by_cases hlt : m < cs.length
  ·rw [List.getElem?_append_left (by simpa using hlt), List.getElem?_map] at hm
   obtain ⟨c0, hc0⟩ : ∃ c0, cs[m]? = some c0 := ⟨cs[m], List.getElem?_eq_getElem hlt⟩
   rw [hc0] at hm
   simp only [Option.map_some, Option.some.injEq] at hm
   subst hm
   refine (hres.cell m c0 ?_).blur (List.all_eq_true.1 hc c0 (List.mem_of_getElem? hc0))
   simp only [List.flatMap_cons, cellsT]
   rw [List.getElem?_append_left hlt]; exact hc0
  ·rw [List.getElem?_append_right (by simpa using hlt)] at hm
   simp only [List.length_map] at hm
   refine (hres.cell m c ?_).noro (List.all_eq_true.1 hr c (List.mem_of_getElem? hm))
   simp only [List.flatMap_cons, cellsT]
   rw [List.getElem?_append_right (by omega)]; exact hm
end Go.Proofs.YtmedelmfkciblaaT


namespace Go.Proofs.YtmedelmfkciblaaT
set_option linter.unusedVariables false
set_option linter.unusedSimpArgs false
open Go
def frzT (H : Hp) : TV → TV
 | .rf p off len => match cellAt H p with
  | some (.sl true z es) => .sl false z (fzLL ((es.drop off).take len))
  | _ => .junk
 | u => if noref u then u else .junk
def St.frz (st : St) : St := ⟨fun k => frzT st.H (st.t k), fun _ => [], fun _ => none⟩
section
variable {P : Program} {F : Fr} {st : St} {w w' w0 : World} {S0 : Nat → Nat → Prop} {κ κ' : Path → Value} {γ γ' : Nat → Nat → Option Path} {H H1 : Hp} {A A' K : Nat → Nat → Prop}
structure Desc (F F' : Fr) : Prop where
 N : F'.N = F.N
 chg : ∀ w', Chg F'.S0 F'.w0 w' → Chg F.S0 F.w0 w'
theorem Desc.refl (F : Fr) : Desc F F := ⟨rfl, fun _ h => h⟩
theorem Acall_all {b : Bool} (x y : Nat) (h : Acall A γ b x y) : A x y ∨ ∃ q, γ x y = some q := by
 rcases h with h | ⟨_, q, h, _⟩
 ·exact .inl h
 ·exact .inr ⟨q, h⟩
theorem frz_rv (h : HR w0 S0 A w κ γ H) (h0 : H 0 = []) {u : TV} {v : Value} (hv : RV w κ H A u v) : RV w κ' H1 (fun b o => A b o ∨ ∃ q, γ b o = some q) (frzT H u) v := by
 have hw : HR w0 S0 A w κ γ (wr0 H []) := by rw [wr0_self h0]; exact h
 have other : (∀ p o l, u ≠ .rf p o l) → frzT H u = if noref u then u else .junk := by
  intro hne
  cases u with
  | rf p o l => exact absurd rfl (hne p o l)
  | _ => rfl
 have pureCase : (∀ p o l, u ≠ .rf p o l) → RV w κ' H1 (fun b o => A b o ∨ ∃ q, γ b o = some q) (frzT H u) v := by
  intro hne
  rw [other hne]
  split
  ·rename_i hn
   exact .pure _ _ ((hv.pure_of hn).keep (K := fun _ _ => True) (Keep.refl _ w) (fun _ _ _ => trivial) fun _ _ h => .inl h)
  ·exact .pure _ _ (.junk _)
 cases u with
 | rf p off len =>
  simp only [frzT]
  split
  ·rename_i z es hc
   exact .pure _ _ ((roT_rf hw h0 hv hc).keep (K := fun _ _ => True) (Keep.refl _ w) (fun _ _ _ => trivial) Acall_all)
  ·exact .pure _ _ (.junk _)
 | _ => exact pureCase (by intros; intro hh; cases hh)
theorem rel_frz {a : Act} (hR : Rel F st a w) : ∃ F', Desc F F' ∧ Rel F' st.frz a w := by
 obtain ⟨κ, γ, h1, h2, h3, h4, h5, h6, h7⟩ := hR
 refine ⟨⟨w, fun _ _ => False, fun b o => F.A b o ∨ ∃ q, γ b o = some q, F.N, F.k1⟩, ⟨rfl, fun w' hc => h1.chg.trans hc fun _ _ h => h.elim⟩, κ, fun _ _ => none, ⟨fun s u hu => by simp [St.frz] at hu, fun b o q hq => (by cases hq), fun b o ha => ⟨?_, id⟩, Chg.refl _ w⟩, rfl, h3, fun k => frz_rv h1 h2 (h4 k), h5, h6, fun q m hq => (by cases hq)⟩
 rcases ha with ha | ⟨q, hq⟩
 ·exact Nat.lt_of_lt_of_le (h1.old b o ha).1 h1.size_le
 ·exact (h1.own b o q hq).1
def twpF (P : Program) : Nat → TCode → (TExit → St → Prop) → St → Prop
 | 0, c, Q, st => twp P c Q st.frz
 | n + 1, .seq a b, Q, st => twp P a (fun e s => match e with | .normal => twpF P n b Q s | e => Q e s) st
 | _ + 1, _, _, _ => False
theorem code_okF (hall : AllGood P) (hdr : DrawsGood P) {N : Nat} : ∀ (n : Nat) (F : Fr) (c : Code) (tc : TCode) (st : St) (a : Act) (w : World) (TQ : TExit → St → Prop) (Q : Exit → Act → World → Prop), F.N = N → compCode P N c = some tc → Rel F st a w → twpF P n tc TQ st →
   (∀ F' e st a w, Desc F F' → Rel F' st a w → TQ e st → Q (exitOf e) a w) → c.wp P Q a w
 | 0, F, c, tc, st, a, w, TQ, Q, hN, hc, hR, hT, hQ => by
  obtain ⟨F', hd, hR'⟩ := rel_frz hR
  exact code_ok hall hdr (F := F') (hd.N.trans hN) c tc _ a w TQ Q hc hR' hT fun e st a w hR hq => hQ F' e st a w hd hR hq
 | n + 1, F, c, tc, st, a, w, TQ, Q, hN, hc, hR, hT, hQ => by
  cases c with
  | seq x y =>
   simp only [compCode, Option.bind_eq_some_iff, Option.some.injEq] at hc
   obtain ⟨tx, h1, ty, h2, rfl⟩ := hc
   refine wp_seq (code_ok hall hdr (F := F) hN x tx st a w _ _ h1 hR hT fun e st a w hR hq => ?_)
   cases e with
   | normal => exact code_okF hall hdr n F y ty st a w TQ Q hN h2 hR hq hQ
   | exit id => exact hQ F (.exit id) st a w (Desc.refl F) hR hq
   | ret => exact hQ F .ret st a w (Desc.refl F) hR hq
  | skip => simp only [compCode, Option.some.injEq] at hc; subst hc; exact hT.elim
  | region id ops draw =>
   cases draw <;> (simp only [compCode, Option.bind_eq_some_iff, Option.some.injEq] at hc; obtain ⟨l, _, rfl⟩ := hc; exact hT.elim)
  | cond q x y =>
   simp only [compCode, Option.bind_eq_some_iff, Option.some.injEq] at hc
   obtain ⟨_, _, _, _, _, _, rfl⟩ := hc
   exact hT.elim
  | block id x =>
   simp only [compCode, Option.bind_eq_some_iff, Option.some.injEq] at hc
   obtain ⟨_, _, rfl⟩ := hc
   exact hT.elim
  | loop x =>
   simp only [compCode, Option.bind_eq_some_iff, Option.some.injEq] at hc
   obtain ⟨_, _, rfl⟩ := hc
   exact hT.elim
  | exit id => simp only [compCode, Option.some.injEq] at hc; subst hc; exact hT.elim
  | ret => simp only [compCode, Option.some.injEq] at hc; subst hc; exact hT.elim
  | _ => simp [compCode] at hc
def endB (x : Bool) (t : Nat) : TExit → St → Prop := fun e st => (e = .normal ∨ e = .ret) ∧ st.t t = .b x
theorem mk_contractF {g : FuncId} {fn : Func} {c : Code} {tc : TCode} {ms : List Mode} {args : List TV} {x : Bool} {t n : Nat}
  (hf : P.funcs[g]? = some fn) (hb : fn.body = some c) (hc : compCode P fn.ntmps c = some tc) (hr : resTmps P fn.results.toList = some [.tmp t]) (hn : args.length ≤ fn.ntmps)
  (hT : ms.length = args.length → twpF P n tc (endB x t) (initSt ms args)) : Contract P false g ms args [.b x] [] := by
 intro w vs κ γ A hA hg hAA
 refine calls_of_wp hf hb ?_
 let F : Fr := ⟨w, fun b o => ∃ q, γ b o = some q, A, fn.ntmps, fun b => κ [(1, b)]⟩
 have hcellH : ∀ (m : Nat) (c : TV), (ownCells ms args)[m]? = some c → cellAt (initSt ms args).H [(1, m)] = some c := by
  intro m c hc; rw [cellAt_root]; simpa [initSt] using hc
 have hR : Rel F (initSt ms args) { tmps := vs.toArray ++ Array.replicate (fn.ntmps - vs.toArray.size) undef, defers := [] } w := by
  refine ⟨κ, γ, ⟨?_, fun b o q hb => ⟨hg b o q hb, .inl ⟨q, hb⟩⟩, fun b o ha => ⟨(hAA b o ha).1, by rintro ⟨q, hq⟩; rw [(hAA b o ha).2] at hq; cases hq⟩, .refl _ w⟩, by simp [initSt], ?_, ?_, rfl, fun _ => rfl, fun q m hq _ => by cases hq⟩
  ·rintro ⟨i, m⟩ u hu
   simp only [initSt] at hu
   split at hu
   ·rename_i hi; obtain rfl : i = 1 := hi; exact hA.own m u hu
   ·simp at hu
  ·have := hA.len
   show (vs.toArray ++ Array.replicate (fn.ntmps - vs.toArray.size) undef).size = fn.ntmps
   simp; omega
  ·intro k
   rcases Nat.lt_or_ge k vs.length with hk | hk
   ·obtain ⟨u, h1, h2⟩ := initT_rv (H := (initSt ms args).H) ms args vs 0 hA.len hA.lenm hA.ag hA.ro (fun m c hc => ⟨by simpa using hA.own m c hc, by simpa using hcellH m c hc⟩) (fun m v hv => by simpa using hA.val m v hv) k vs[k] (List.getElem?_eq_getElem hk)
    have e1 : ((vs.toArray ++ Array.replicate (fn.ntmps - vs.toArray.size) undef)[k]?).getD undef = vs[k] := by
     rw [Array.getElem?_append_left (by simpa using hk)]; simp [hk]
    rw [e1]
    simpa [initSt, h1] using h2
   ·have : (initT 0 ms args)[k]? = none := by
     rw [List.getElem?_eq_none_iff, initT_len _ _ _ hA.lenm, hA.len]; exact hk
    simp only [initSt, this, Option.getD_none]
    exact .pure _ _ (.junk _)
 refine code_okF (allGood P) (drawsGood P) n F c tc _ _ w _ _ rfl hc hR (hT hA.lenm) fun F' e st' a' w' hd hR' hend => ?_
 have fin : st'.t t = .b x → a'.defers = [] ∧ ∃ v, (results fn a'.tmps).run P w' = .ok v w' ∧ (∃ rs κ' γ', Ending.returned v = .returned (resV rs) ∧ ResR w' κ' γ' (fun b o => false = true ∧ A b o) [.b x] rs ∧
   (∀ (m : Nat) (u : TV), ([] : List (Option TV))[m]? = some (some u) → TR w' κ' γ' (fun b o => false = true ∧ A b o) [(1, m)] u (κ [(1, m)])) ∧
   (∀ b o q, γ' b o = some q → b < w'.heap.size ∧ ((∃ q', γ b o = some q') ∨ w.heap.size ≤ b)) ∧
   Chg (fun b o => ∃ q, γ b o = some q) w w') := by
  intro hx
  obtain ⟨κ1, γ1, r1, r2, r3, r4, r5, r6, r7⟩ := hR'
  obtain ⟨rs, s1, s2, s3⟩ := run_results (P := P) (tvs := [.b x]) hr r1 r4 (by simp [optAll, resTV, hx])
  obtain ⟨v, rfl⟩ : ∃ v, rs = [v] := by
   match rs, s2 with
   | [v], _ => exact ⟨v, rfl⟩
  have hv := rv_b (s3 0 _ _ rfl rfl)
  subst hv
  refine ⟨r5, _, s1, [.bool x], fun _ => .bool x, fun _ _ => none, rfl, ⟨rfl, ?_, ?_, ?_⟩, fun m u h => by simp at h, fun b o q hq => (by cases hq), hd.chg _ r1.chg⟩
  ·intro j u v hu hv
   match j, hu with
   | 0, hu => simp at hu hv; subst hu; subst hv; exact ⟨rfl, rfl⟩
  ·intro m c hc
   match m, hc with
   | 0, hc => simp [cellsT] at hc; subst hc; exact .pure _ _ _ (.b x)
  ·intro m v hv
   match m, hv with
   | 0, hv => simp [cellsV] at hv; exact hv
 obtain ⟨h1, h2⟩ := hend
 cases e with
 | exit id => rcases h1 with h1 | h1 <;> cases h1
 | normal => exact fin h2
 | ret => exact fin h2
def seqF (P : Program) (n : Nat) (b : TCode) (TQ : TExit → St → Prop) : TExit → St → Prop := fun e s => match e with | .normal => twpF P n b TQ s | e => TQ e s
@[simp] theorem seqF_n (n : Nat) (b : TCode) (TQ : TExit → St → Prop) (s : St) : seqF P n b TQ .normal s = twpF P n b TQ s := nrfl rfl
@[simp] theorem seqF_r (n : Nat) (b : TCode) (TQ : TExit → St → Prop) (s : St) : seqF P n b TQ .ret s = TQ .ret s := nrfl rfl
@[simp] theorem twpF_s (n : Nat) (a b : TCode) (TQ : TExit → St → Prop) (st : St) : twpF P (n + 1) (.seq a b) TQ st = twp P a (seqF P n b TQ) st := nrfl rfl
theorem twpF_z (c : TCode) (TQ : TExit → St → Prop) (st : St) : twpF P 0 c TQ st = twp P c TQ st.frz := rfl
@[simp] theorem endB_r (x : Bool) (t : Nat) (s : St) : endB x t .ret s = (s.t t = .b x) := by simp [endB]
theorem frz_sl {p : Path} {len z : Nat} {es : List (List TV)} (hc : cellAt H p = some (.sl true z es)) (hl : es.length = len) : frzT H (.rf p 0 len) = .sl false z (fzLL es) := by
 simp only [frzT, hc, List.drop_zero]
 rw [List.take_of_length_le (by omega)]
end
end Go.Proofs.YtmedelmfkciblaaT

