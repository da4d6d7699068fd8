/- Texts of this session's own, one behind the other: TmV. -/
import Derived.Test.YtmedelmfkciblaaPk5
import Derived.Laws.MakeOwn
import Derived.Laws.StructEq
namespace Go.Proofs.YtmedelmfkciblaaT
set_option linter.unusedVariables false
set_option linter.unusedSimpArgs false
open Go
section
variable {P : Program} {F : Fr} {st : St} {w w' w0 : World} {S0 : Nat → Nat → Prop} {κ κ' κ1 : Path → Value} {γ γ' γ1 : Nat → Nat → Option Path} {H H' H1 : Hp} {A A' K : Nat → Nat → Prop} {L : List TV} {o : Oper} {E : Eff} {root : Nat}
theorem valC_fit {t : TypeId} {v : Value} {u : TV} (h : valC P t v = some u) : fitB u = true := by
 unfold valC at h
 split at h
 ·cases h; rfl
 ·cases h; rfl
 ·cases h; rfl
 ·cases h; rfl
 ·cases h; rfl
 ·simp only [Option.bind_eq_some_iff, Option.some.injEq] at h
  obtain ⟨e, _, z, _, rfl⟩ := h
  rfl
 ·cases h
theorem valCs_fit : ∀ {ts : List TypeId} {vs : List Value} {us : List TV}, valCs P ts vs = some us → us.all fitB = true
 | [], [], us, h => by simp only [valCs, Option.some.injEq] at h; subst h; rfl
 | t :: ts, v :: vs, us, h => by
  simp only [valCs, Option.bind_eq_some_iff, Option.some.injEq] at h
  obtain ⟨u, h1, us', h2, rfl⟩ := h
  simp [valC_fit h1, valCs_fit h2]
 | [], _ :: _, _, h => by cases h
 | _ :: _, [], _, h => by cases h
theorem valT_fit {t : TypeId} {v : Value} {u : TV} (h : valT P t v = some u) : (cellsT u).all fitB = true := by
 unfold valT at h
 split at h
 ·simp only [Option.bind_eq_some_iff, Option.some.injEq] at h
  obtain ⟨us, h1, rfl⟩ := h
  exact valCs_fit h1
 ·have h1 := valC_fit h
  have : cellsT u = [u] := notAg_cells (valC_rv (w := default) (κ := fun _ => undef) (H := fun _ => []) (A := fun _ _ => False) h).2.2
  rw [this]; simp [h1]
theorem flatten_len {z : Nat} : ∀ es : List (List TV), (∀ e ∈ es, e.length = z) → es.flatten.length = es.length * z
 | [], _ => by simp
 | e :: es, h => by
  rw [List.flatten_cons, List.length_append, flatten_len es fun e he => h e (List.mem_cons_of_mem _ he), h e (by simp), List.length_cons, Nat.add_mul]
  omega
theorem flatten_set {z : Nat} : ∀ (es : List (List TV)) (i : Nat) (e : List TV), (∀ e ∈ es, e.length = z) → e.length = z → i < es.length →
  (es.set i e).flatten = es.flatten.take (i * z) ++ e ++ es.flatten.drop (i * z + z)
 | [], i, e, _, _, h => by simp at h
 | e0 :: es, 0, e, h, he, _ => by
  have := h e0 (by simp)
  simp [← this]
 | e0 :: es, i + 1, e, h, he, hi => by
  have h0 := h e0 (by simp)
  have := flatten_set es i e (fun e he => h e (List.mem_cons_of_mem _ he)) he (by simpa using hi)
  simp only [List.set_cons_succ, List.flatten_cons, this]
  have e1 : (e0 ++ es.flatten).take ((i + 1) * z) = e0 ++ es.flatten.take (i * z) := by
   rw [List.take_append, List.take_of_length_le (l := e0) (by rw [Nat.add_mul]; omega), h0, Nat.add_mul, Nat.one_mul, Nat.add_sub_cancel]
  have e2 : (e0 ++ es.flatten).drop ((i + 1) * z + z) = es.flatten.drop (i * z + z) := by
   rw [List.drop_append, List.drop_eq_nil_of_le (as := e0) (by rw [Nat.add_mul]; omega), h0, Nat.add_mul, Nat.one_mul, List.nil_append]
   congr 1; omega
  rw [e1, e2]
  simp [List.append_assoc]
theorem putElems_parts {z : Nat} : ∀ (ps : List (Nat × TV)) (es es' : List (List TV)), (∀ e ∈ es, e.length = z) → (∀ p ∈ ps, p.1 < es.length) → putElems z es ps = some es' →
  es'.length = es.length ∧ (∀ e ∈ es', e.length = z) ∧ putParts es.flatten (ps.map fun p => (p.1 * z, z, p.2)) = some es'.flatten
 | [], es, es', h, _, hp => by
  simp only [putElems, Option.some.injEq] at hp; subst hp
  exact ⟨rfl, h, rfl⟩
 | (i, u) :: ps, es, es', h, hi, hp => by
  simp only [putElems] at hp
  split at hp
  case isFalse => cases hp
  rename_i hc
  have hlt := hi (i, u) (by simp)
  simp only at hlt
  have h' : ∀ e ∈ es.set i (cellsT u), e.length = z := by
   intro e he
   rcases List.mem_or_eq_of_mem_set he with he | rfl
   ·exact h e he
   ·exact hc.1
  obtain ⟨g1, g2, g3⟩ := putElems_parts ps _ es' h' (fun p hp => by simpa using hi p (List.mem_cons_of_mem _ hp)) hp
  refine ⟨by simpa using g1, g2, ?_⟩
  simp only [List.map_cons, putParts]
  have hle : (i + 1) * z ≤ es.length * z := Nat.mul_le_mul_right z hlt
  rw [Nat.add_mul, Nat.one_mul] at hle
  rw [if_pos ⟨hc.1, by rw [flatten_len es h]; exact hle, hc.2⟩, ← flatten_set es i _ h hc.1 hlt]
  exact g3
theorem replicate_flatten_get (zs : List TV) : ∀ (n j : Nat) (u : TV), ((List.replicate n zs).flatten)[j]? = some u → j < n * zs.length ∧ zs[j % zs.length]? = some u
 | 0, j, u, h => by simp at h
 | n + 1, j, u, h => by
  rw [List.replicate_succ, List.flatten_cons] at h
  rcases Nat.lt_or_ge j zs.length with hj | hj
  ·rw [List.getElem?_append_left hj] at h
   rw [Nat.add_mul, Nat.mod_eq_of_lt hj]
   exact ⟨by omega, h⟩
  ·rw [List.getElem?_append_right hj] at h
   obtain ⟨h1, h2⟩ := replicate_flatten_get zs n _ u h
   rw [Nat.add_mul]
   refine ⟨by omega, ?_⟩
   rw [Nat.mod_eq_sub_mod hj]; exact h2
theorem zero_rv {u : TV} {zv : Value} {z n : Nat} (hv : RV w κ H A u zv) (hf : (cellsT u).all fitB = true) (hz : (cellsT u).length = z) :
  ∀ (j : Nat) (x : TV), ((List.replicate n (cellsT u)).flatten)[j]? = some x → RV w κ H A x ((((Array.range (n * z)).map (zv.cells[· % zv.cells.size]!))[j]?).getD undef) := by
 intro j x hj
 obtain ⟨h1, h2⟩ := replicate_flatten_get _ _ _ _ hj
 obtain ⟨f1, f2⟩ := cellsFit hf
 obtain ⟨l1, l2⟩ := rv_cells hv f1 f2
 have hsz : zv.cells.size = z := by rw [← hz, l1, ← cells_toList]; simp
 have hlt : j % (cellsT u).length < (cellsV zv).length := by
  rw [← l1]; exact (List.getElem?_eq_some_iff.1 h2).1
 have := l2 _ x _ h2 (List.getElem?_eq_getElem hlt)
 have e : (((Array.range (n * z)).map (zv.cells[· % zv.cells.size]!))[j]?).getD undef = (cellsV zv)[j % (cellsT u).length] := by
  have hjn : j < n * z := by rw [← hz]; exact h1
  have hz' : j % zv.cells.size < zv.cells.size := by rw [hsz, ← hz]; rw [← l1] at hlt; exact hlt
  simp only [Array.getElem?_map, Array.getElem?_range, hjn, if_true, Option.map_some, Option.getD_some]
  rw [getElem!_pos zv.cells _ hz']
  have e1 : (cellsV zv)[j % (cellsT u).length]? = zv.cells[j % zv.cells.size]? := by
   rw [← cells_toList, Array.getElem?_toList, hsz, ← hz]
  rw [List.getElem?_eq_getElem hlt, Array.getElem?_eq_getElem hz'] at e1
  exact (Option.some.inj e1).symm
 rw [e]; exact this
theorem chunk_length {z : Nat} : ∀ (n : Nat) (us : List TV), (chunk z n us).length = n
 | 0, _ => rfl
 | n + 1, us => by simp [chunk, chunk_length n]
theorem slice_fresh {dst : Option Nat} {a : Act} {wr : List Nat} {es : List TV} {cells : Array Value} {e : TypeId} {z len : Nat} {us : List TV} {ds : List Path}
  (hR : Rel F st a w) (hd : ∀ d, dst = some d → d < F.N) (hx : ∀ κ γ, HR F.w0 F.S0 F.A w κ γ st.H → (∀ k, RV w κ st.H F.A (st.t k) ((a.tmps[k]?).getD undef)) → RV w κ st.H F.A (.ag es) (.agg cells))
  (ht : takeL es st.H = some (us, H1, ds)) (hl : es.length = len * z) (hz : z ≠ 0) (hroot : st.H root = []) (hr : 2 ≤ root) :
  Rel F (st.put dst { v := .rf [(root, 0)] 0 len, dead := if ds = [] then none else some (under ds), H := setRoot H1 root [.sl true z (chunk z len us)], wr, nr := some root }) (a.put dst (.slice (some ⟨w.heap.size, 0, none⟩) len len)) (w.alloc (.cells cells e)) := by
 obtain ⟨κ, γ, h1, h2, h3, h4, h5, h6, h7⟩ := hR
 obtain ⟨g1, _, κ', γ', k1, k2, k3, k4, k5, k6, k8⟩ := takeV h1 h2 (hx κ γ h1 h4) (x := .ag es) ht
 have hsz : cells.size = us.length := by rw [k3]; simp [cellsV]
 have hus : us.length = len * z := by rw [k3, ← g1]; exact hl
 have hnf := k1.newFlat (T := e) (root := root) (arr := cells) (z := z) (u := .sl true z (chunk z len us)) (v := .slice (some ⟨w.heap.size, 0, none⟩) len len) k2 (by omega) (by
  intro k c hc
  have hlt : k < cells.size := by rw [hsz]; exact (List.getElem?_eq_some_iff.1 hc).1
  have e1 : (cellsV (.agg cells))[k]? = some cells[k] := by simp [cellsV, hlt]
  rw [k4 k _ e1]; simp [hlt]) (.inr ⟨len, rfl, hz, hus, rfl⟩) hsz
 refine Rel.fresh (K := fun _ _ => True) h2 k2 hroot hr h3 hd h5 h6 h7 (by simp) h4 hnf (fun q q0 q1 => (grpκ_other q q1).trans (k5 q q0)) k6 (Keep.alloc _ _ _) (fun _ _ _ => trivial) fun _ => ?_
 have := RV.rf (w := w.alloc (.cells cells e)) (κ := grpκ κ' root z (.slice (some ⟨w.heap.size, 0, none⟩) len len)) (H := setRoot H1 root [.sl true z (chunk z len us)]) (A := F.A) [(root, 0)] z len len w.heap.size 0 0 len grpκ_root
  (by simp [shapeAt, cellAt, setRoot, down, shape, chunk_length]) (by omega) (by omega)
 simpa using this
theorem good_bslice {t e : TypeId} {len z : Nat} {ps : Array (Nat × Operand)} {ps' : List (Nat × TOpd)} {zv : Value} {u : TV} (hop : o.op = .buildSlice t len ps) (hu : P.underlying t = some (.slice e)) (hz : tySize P e = some z) (hzv : tyZero P e = some zv) (hv : valT P e zv = some u)
  (hsm : len * z ≤ 2 ^ 24) (hz0 : z ≠ 0) (hlu : (cellsT u).length = z) (hlt : ∀ p ∈ ps', p.1 < len) (hl : ps'.length = ps.size)
  (hx : ∀ (j i : Nat) (x : TOpd), ps'[j]? = some (i, x) → ∃ y ty, ps[j]? = some (i, y) ∧ compOpd P ty y = some x)
  (hd : ∀ d, o.dst = some d → d < F.N) (hE : opW P st root (.bslice z len (cellsT u) ps') (· = E)) : Good P F o st E := by
 simp only [opW] at hE
 split at hE
 case h_2 => exact hE.elim
 rename_i es hp
 split at hE
 case h_2 => exact hE.elim
 rename_i us H1 ds ht
 obtain ⟨hroot, hr, _, rfl⟩ := hE
 intro a w K Q hR hK
 have hrep : ∀ e ∈ List.replicate len (cellsT u), e.length = z := fun e he => by rw [List.eq_of_mem_replicate he]; exact hlu
 obtain ⟨p1, p2, p3⟩ := putElems_parts (z := z) _ _ es hrep (fun p hp => by
  obtain ⟨x, hx1, rfl⟩ := List.mem_map.1 hp
  simpa using hlt x hx1) hp
 have fillrel : ∀ κ, (∀ k, RV w κ st.H F.A (st.t k) ((a.tmps[k]?).getD undef)) → ∃ cells, Instr.fill (fun i => some (i * z, z)) ((Array.range (len * z)).map (zv.cells[· % zv.cells.size]!)) ((ps.map fun (i, x) => (i, a.eval x)).toList) = some cells ∧ RV w κ st.H F.A (.ag es.flatten) (.agg cells) := by
  intro κ h4
  have hzr := valT_rv (w := w) (κ := κ) (H := st.H) (A := F.A) hv
  obtain ⟨cells, r1, r2, r3⟩ := fill_rv (w := w) (κ := κ) (H := st.H) (A := F.A) (place := fun i => some (i * z, z)) _ ((ps.map fun (i, x) => (i, a.eval x)).toList) _ _ ((Array.range (len * z)).map (zv.cells[· % zv.cells.size]!)) (by simp [hl]) (fun j i off n x v h1 h2 => by
   rw [List.getElem?_map, List.getElem?_map] at h1
   cases hj : ps'[j]? with
   | none => simp [hj] at h1
   | some y =>
    obtain ⟨i', x'⟩ := y
    simp only [hj, Option.map_some, Option.some.injEq, Prod.mk.injEq] at h1
    obtain ⟨rfl, rfl, rfl⟩ := h1
    obtain ⟨y, ty, k1, k2⟩ := hx j i' x' hj
    simp [k1] at h2
    obtain ⟨rfl, rfl⟩ := h2
    exact ⟨rfl, opd_rv k2 h4⟩) (by rw [flatten_len _ hrep]; simp) (zero_rv hzr (valT_fit hv) hlu) p3
  exact ⟨cells, r1, .ag _ _ r2 r3⟩
 have hR' := hR
 obtain ⟨κ, γ, h1, h2, h3, h4, h5, h6, h7⟩ := hR'
 obtain ⟨cells, c1, c2⟩ := fillrel κ h4
 have hrun : (execOp a.eval o).run P w = .ok (.value (.slice (some ⟨w.heap.size, 0, none⟩) len len)) (w.alloc (.cells cells e)) := by
  simp only [tySize, Option.map_eq_some_iff] at hz
  obtain ⟨ie, i1, i2⟩ := hz
  simp only [tyZero, Option.bind_eq_some_iff] at hzv
  obtain ⟨ie', i3, i4⟩ := hzv
  rw [i1] at i3; cases i3
  subst i2
  by_cases hl0 : len * ie.size = 0
  ·rw [hl0] at c1
   have hemp : ((Array.range 0).map (zv.cells[· % zv.cells.size]!)) = (#[] : Array Value) := by simp
   rw [hemp] at c1
   simp only [Array.toList_map] at c1
   simp [execOp, hop, Instr.buildSlice, run_underlying hu, sizeOf, typeInfo, zeroValue, i1, hl0, newRow]
   rw [show (Array.range 0) = #[] from rfl]
   simp [c1]
  ·have hsm' : ¬ len * ie.size > 2 ^ 24 := by omega
   simp [execOp, hop, Instr.buildSlice, run_underlying hu, sizeOf, typeInfo, zeroValue, i1, i4, hsm', hl0, newRow]
   simp only [Array.toList_map] at c1
   simp [c1]
 unfold Oper.wp
 rw [hrun, Oper.upon_value]
 refine hK _ _ (slice_fresh hR hd (fun κ γ _ h4 => ?_) ht (by rw [flatten_len es p2, p1]; simp) hz0 hroot hr)
 obtain ⟨cells', c3, c4⟩ := fillrel κ h4
 rw [c1] at c3; cases c3
 exact c4
theorem takeL_zero : ∀ (cs : List TV) (H : Hp), cs.all zeroOk = true → takeL cs H = some (cs, H, [])
 | [], H, _ => rfl
 | c :: cs, H, h => by
  simp only [List.all_cons, Bool.and_eq_true] at h
  have h1 : take1 H c = some (c, H, []) := by
   have h0 := h.1
   unfold zeroOk at h0
   split at h0
   ·rfl
   ·unfold take1
    split
    ·cases h0
    ·cases h0
    ·rfl
    ·rw [if_pos h0]
  simp [takeL, h1, takeL_zero cs H h.2]
theorem chunk_replicate (zs : List TV) : ∀ n, chunk zs.length n (List.replicate n zs).flatten = List.replicate n zs
 | 0 => rfl
 | n + 1 => by simp [chunk, List.replicate_succ, chunk_replicate zs n]
theorem good_mkslice {t e : TypeId} {z by_ : Nat} {l c : Operand} {l' c' : TOpd} {zv : Value} {u : TV} {tl tc : TypeId} (hop : o.op = .makeSlice t l c) (hu : P.underlying t = some (.slice e)) (hz : tySize P e = some z) (hb : tyBytes P e = some by_) (hzv : tyZero P e = some zv) (hv : valT P e zv = some u)
  (hz0 : z ≠ 0) (hb0 : by_ ≠ 0) (hlu : (cellsT u).length = z) (hlo : compOpd P tl l = some l') (hco : compOpd P tc c = some c')
  (hd : ∀ d, o.dst = some d → d < F.N) (hE : opW P st root (.mkslice z by_ (cellsT u) l' c') (· = E)) : Good P F o st E := by
 simp only [opW] at hE
 split at hE
 case h_2 => exact hE.elim
 rename_i n n2 hln hcn
 obtain ⟨hn0, rfl, hby, hroot, hr, _, hzo, rfl⟩ := hE
 intro a w K Q hR hK
 have hR' := hR
 obtain ⟨κ, γ, h1, h2, h3, h4, h5, h6, h7⟩ := hR'
 have hlv := opd_rv hlo h4; rw [hln] at hlv
 have hcv := opd_rv hco h4; rw [hcn] at hcv
 have e1 := rv_i hlv
 have e2 := rv_i hcv
 simp only [tySize, Option.map_eq_some_iff] at hz
 obtain ⟨ie, i1, i2⟩ := hz
 simp only [tyZero, Option.bind_eq_some_iff] at hzv
 obtain ⟨ie', i3, i4⟩ := hzv
 rw [i1] at i3; cases i3
 simp only [tyBytes, i1, Option.map_some, Option.some.injEq] at hb
 subst i2; subst hb
 have hn63 : n ≤ 140737488355328 := by
  have : (1 : Int) * n ≤ (ie.bytes : Int) * n := Int.mul_le_mul_of_nonneg_right (by omega) hn0
  have h2 : (ie.bytes : Int) * n ≤ 2 ^ 47 := hby
  omega
 have hrun : (execOp a.eval o).run P w = .ok (.value (.slice (some ⟨w.heap.size, 0, none⟩) n.toNat n.toNat)) (w.alloc (.cells (madeCells zv.cells (n.toNat * ie.size)) e)) := by
  have := run_make (P := P) w t e ie zv hu i1 i4 .i64 .i64 n n hn0 (Int.le_refl _) (by have h2 : (ie.bytes : Int) * n ≤ 2 ^ 47 := hby; omega) (by omega)
  simp only [execOp, hop, e1, e2, Sem.run_bind, this, Result.andThen_ok, Sem.run_pure]
 unfold Oper.wp
 rw [hrun, Oper.upon_value]
 have ht := takeL_zero ((List.replicate n.toNat (cellsT u)).flatten) st.H (by
  rw [List.all_eq_true]
  intro x hx
  obtain ⟨l, hl1, hl2⟩ := List.mem_flatten.1 hx
  rw [List.eq_of_mem_replicate hl1] at hl2
  exact List.all_eq_true.1 hzo x hl2)
 have hrep : ∀ e ∈ List.replicate n.toNat (cellsT u), e.length = ie.size := fun e he => by rw [List.eq_of_mem_replicate he]; exact hlu
 have := slice_fresh (dst := o.dst) (root := root) (wr := [root]) (e := e) (z := ie.size) (len := n.toNat) (cells := madeCells zv.cells (n.toNat * ie.size)) hR hd (fun κ γ _ h4 => .ag _ _ (by rw [flatten_len _ hrep]; simp [madeCells]) (zero_rv (valT_rv hv) (valT_fit hv) hlu)) ht
  (by rw [flatten_len _ hrep]; simp) hz0 hroot hr
 rw [if_pos rfl, ← hlu, chunk_replicate, hlu] at this
 exact hK _ _ this
end
end Go.Proofs.YtmedelmfkciblaaT

