/- TM, part Al: stores that may come before loads of what they move: the store with its value pinned. -/
import Derived.Test.YtloodkhdngipbaaTmAe
namespace Go.Proofs.YtloodkhdngipbaaT
set_option linter.unusedVariables false
set_option linter.unusedSimpArgs false
open Go

section
variable {P : Program} {F : Fr} {st st' : St} {root : Nat} {H H' H1 : Hp} {E : Eff} {w : World}

mutual
theorem killT_sub {d e : Path → Bool} (h : ∀ q, d q = true → e q = true) : ∀ u : TV, killT e (killT d u) = killT e u
  | .rf p o l => by
    cases h1 : d p with
    | false => simp [killT, h1]
    | true => simp [killT, h1, h p h1]
  | .pt p i f => by
    cases h1 : d p with
    | false => simp [killT, h1]
    | true => simp [killT, h1, h p h1]
  | .ag cs => by simp only [killT]; rw [killL_sub h cs]
  | .tu cs => by simp only [killT]; rw [killL_sub h cs]
  | .fn g cs => by simp only [killT]; rw [killL_sub h cs]
  | .b _ => rfl
  | .i .. => rfl
  | .f _ => rfl
  | .s _ => rfl
  | .np => rfl
  | .sl .. => rfl
  | .po .. => rfl
  | .junk => rfl
  | .pin _ => rfl
theorem killL_sub {d e : Path → Bool} (h : ∀ q, d q = true → e q = true) : ∀ us : List TV, killL e (killL d us) = killL e us
  | [] => rfl
  | u :: us => by simp only [killL]; rw [killT_sub h u, killL_sub h us]
end

theorem putL_off {p : Path} {i f r : Nat} {us : List TV} (hp : p ≠ []) (hr : r ∉ pr p) : putL p i f us H r = H r := by
  rw [putL_eq p i hp]; exact modH_off hr
theorem putL_at {p : Path} {i f r : Nat} {us : List TV} (hp : p ≠ []) (hr : H' r = H r) : putL p i f us H' r = putL p i f us H r := by
  rw [putL_eq p i hp, putL_eq p i hp]
  cases p with
  | nil => exact absurd rfl hp
  | cons s t => simp only [modH, hr]

/-- What a row is, behind cells that were put. -/
theorem rows_putF {i : Nat} : ∀ (us : List TV) (f : Nat) (nd : TV) (cs : List TV), (rows nd).bind (·[i]?) = some cs → f + us.length ≤ cs.length →
    ∃ cs', (rows (putF i f us nd)).bind (·[i]?) = some cs' ∧ cs'.length = cs.length ∧ (∀ j u, us[j]? = some u → cs'[f + j]? = some u) ∧ ∀ k, k < f → cs'[k]? = cs[k]?
  | [], f, nd, cs, h, _ => ⟨cs, h, rfl, fun j u hu => by simp at hu, fun _ _ => rfl⟩
  | u :: us, f, nd, cs, h, hl => by
    simp only [List.length_cons] at hl
    have h1 : (rows (upk (fun _ => u) (i, f) nd)).bind (·[i]?) = some (cs.modify f fun _ => u) := by
      cases nd with
      | sl own z es =>
        cases own with
        | false => simp [rows] at h
        | true =>
          simp only [rows, Option.bind_some] at h
          simp [rows, upk, List.getElem?_modify, h]
      | po own cs0 =>
        cases own with
        | false => simp [rows] at h
        | true =>
          simp only [rows, Option.bind_some] at h
          cases i with
          | zero => simp at h; simp [rows, upk, h]
          | succ i => simp at h
      | _ => simp [rows] at h
    obtain ⟨cs', g1, g2, g3, g4⟩ := rows_putF us (f + 1) _ _ h1 (by simp; omega)
    refine ⟨cs', g1, by simpa using g2, fun j v hv => ?_, fun k hk => ?_⟩
    · cases j with
      | zero =>
        simp only [List.getElem?_cons_zero, Option.some.injEq] at hv
        rw [Nat.add_zero, g4 f (by omega), List.getElem?_modify]
        have : f < cs.length := by omega
        simp [this, hv]
      | succ j => rw [show f + (j + 1) = f + 1 + j by omega]; exact g3 j v (by simpa using hv)
    · rw [g4 k (by omega), List.getElem?_modify]
      have : f ≠ k := by omega
      simp [this]
theorem row_putL {p : Path} {i f : Nat} {us cs : List TV} (hr : rowAt H p i = some cs) (hl : f + us.length ≤ cs.length) :
    ∃ cs', rowAt (putL p i f us H) p i = some cs' ∧ cs'.length = cs.length ∧ ∀ j u, us[j]? = some u → cs'[f + j]? = some u := by
  have hp := node_ne hr
  simp only [rowAt, Option.bind_eq_some_iff] at hr
  obtain ⟨es, ⟨nd, h1, h2⟩, h3⟩ := hr
  obtain ⟨cs', g1, g2, g3, _⟩ := rows_putF us f nd cs (by rw [h2]; exact h3) hl
  refine ⟨cs', ?_, g2, g3⟩
  rw [putL_eq p i hp, rowAt, cellAt_modH_self, h1]
  exact g1

theorem under_self (p : Path) (n i f : Nat) : under ((List.range n).map fun j => p ++ [(i, f + j)]) p = false := by
  refine Bool.eq_false_iff.2 fun h => ?_
  simp only [under, List.any_eq_true, List.mem_map] at h
  obtain ⟨q, ⟨j, _, rfl⟩, h⟩ := h
  have := (List.isPrefixOf_iff_prefix.1 h).length_le
  rw [List.length_append, List.length_singleton] at this
  omega
theorem under_root {p q : Path} {n i f : Nat} (hp : p ≠ []) (h : under ((List.range n).map fun j => p ++ [(i, f + j)]) q = true) : ∃ s t, q = s :: t ∧ s.1 ∈ pr p := by
  simp only [under, List.any_eq_true, List.mem_map] at h
  obtain ⟨q', ⟨j, _, rfl⟩, h⟩ := h
  obtain ⟨t, rfl⟩ := List.isPrefixOf_iff_prefix.1 h
  cases p with
  | nil => exact absurd rfl hp
  | cons s r => exact ⟨s, _, rfl, by simp⟩

/-- The same store, behind one whose value is pinned. -/
theorem late_ow {n : Nat} {a y : TOpd} {z : TV} (hE : opW P st root (.store n a y) (· = E)) (hr : ∀ r ∈ E.wr.take 1, r ∉ (rootsL [a.ev st, y.ev st]).drop 1)
    (hpl : (cellsT z).length = n) (hnr : ∀ c ∈ cellsT z, noref c = true) :
    ∃ Ep E' p i f, opW P st root (.store n a (.c z)) (· = Ep) ∧ opW P (st.put none Ep) root (.store n a y) (· = E') ∧ (st.put none Ep).put none E' = st.put none E ∧
      a.ev (st.put none Ep) = a.ev st ∧ y.ev (st.put none Ep) = y.ev st ∧ E'.wr = E.wr ∧ E'.dead = E.dead ∧ E'.v = E.v ∧ E.v = .junk ∧ Ep.v = .junk ∧ a.ev st = .pt p i f ∧ Ep.wr = pr p ∧ Ep.wr = E.wr.take 1 := by
  simp only [opW] at hE
  split at hE
  case h_2 => exact hE.elim
  rename_i p i f hb
  split at hE
  case h_2 => exact hE.elim
  rename_i us H1 ds ht
  obtain ⟨hlen, hrow, rfl⟩ := hE
  split at hrow
  case h_2 => exact hrow.elim
  rename_i cs hr1
  have hp0 := node_ne hr1
  obtain ⟨s0, r0, rfl⟩ : ∃ s t, p = s :: t := by cases p with
    | nil => exact absurd rfl hp0
    | cons s t => exact ⟨s, t, rfl⟩
  have hrp : s0.1 ∉ rootsT (y.ev st) := fun h => hr s0.1 (by simp) (by rw [hb]; simp [rootsL, rootsT, h])
  have hcells : ∀ r, r ∈ rootsL (cellsT (y.ev st)) → r ∈ rootsT (y.ev st) := by
    intro r h
    exact rootsL_cells h
  obtain ⟨_, _, hself, hds⟩ := takeL_loc ht (H' := st.H) (fun _ _ => rfl)
  have hH1 : ∀ r, r ∉ prs ds → H1 r = st.H r := hself.off
  have hs0 : s0.1 ∉ prs ds := fun h => hrp (hcells _ (hds _ h))
  have hrow0 : rowAt st.H (s0 :: r0) i = some cs := by
    rw [← hr1]; symm
    exact rowAt_loc (fun r hr => by simp at hr; subst hr; exact hH1 _ hs0)
  have htz : takeL (cellsT z) st.H = some (cellsT z, st.H, []) := takeL_noref _ _ hnr
  have hDp : ∀ q, (under [] q || under ((List.range n).map fun j => (s0 :: r0) ++ [(i, f + j)]) q) = under ((List.range n).map fun j => (s0 :: r0) ++ [(i, f + j)]) q := fun q => by simp [under]
  -- the pinned one
  refine ⟨{ v := .junk, dead := some (fun q => under [] q || under ((List.range n).map fun j => (s0 :: r0) ++ [(i, f + j)]) q), H := putL (s0 :: r0) i f (cellsT z) st.H, wr := ((s0 :: r0).head?.map (·.1)).toList ++ ([] : List Path).filterMap (fun p => p.head?.map (·.1)) },
    ?_⟩
  have hx2 : a.ev (st.put none { v := .junk, dead := some (fun q => under [] q || under ((List.range n).map fun j => (s0 :: r0) ++ [(i, f + j)]) q), H := putL (s0 :: r0) i f (cellsT z) st.H, wr := ((s0 :: r0).head?.map (·.1)).toList ++ ([] : List Path).filterMap (fun p => p.head?.map (·.1)) }) = a.ev st := by
    cases a with
    | c v => rfl
    | t k =>
      have hb' : st.t k = .pt (s0 :: r0) i f := hb
      simp only [TOpd.ev, St.put, deadT, hb', killT, hDp, under_self]
      simp
  have hy2 : y.ev (st.put none { v := .junk, dead := some (fun q => under [] q || under ((List.range n).map fun j => (s0 :: r0) ++ [(i, f + j)]) q), H := putL (s0 :: r0) i f (cellsT z) st.H, wr := ((s0 :: r0).head?.map (·.1)).toList ++ ([] : List Path).filterMap (fun p => p.head?.map (·.1)) }) = y.ev st := by
    cases y with
    | c v => rfl
    | t k =>
      simp only [TOpd.ev, St.put]
      simp only [reduceCtorEq, if_false]
      refine deadT_off (W := [s0.1]) (fun q hq => ?_) _ (fun r hr => by simp at hr; subst hr; exact hrp)
      simp only [deadB, hDp] at hq
      obtain ⟨s, t, h1, h2⟩ := under_root hp0 hq
      exact ⟨s, t, h1, by simpa using h2⟩
  generalize hEp : ({ v := .junk, dead := some (fun q => under [] q || under ((List.range n).map fun j => (s0 :: r0) ++ [(i, f + j)]) q), H := putL (s0 :: r0) i f (cellsT z) st.H, wr := ((s0 :: r0).head?.map (·.1)).toList ++ ([] : List Path).filterMap (fun p => p.head?.map (·.1)) } : Eff) = Ep at hx2 hy2 ⊢
  have hEH : (st.put none Ep).H = putL (s0 :: r0) i f (cellsT z) st.H := by rw [← hEp]; rfl
  have hag : Agree (rootsL (cellsT (y.ev st))) st.H (st.put none Ep).H := by
    intro r hr
    rw [hEH]
    exact putL_off hp0 (by simp; rintro rfl; exact hrp (hcells _ hr))
  obtain ⟨H1', ht', hloc, _⟩ := takeL_loc ht hag
  obtain ⟨cs', hc1, hc2, _⟩ := row_putL (us := cellsT z) (f := f) hrow0 (by omega)
  have hrow' : rowAt H1' (s0 :: r0) i = some cs' := by
    rw [← hc1, ← hEH]
    exact rowAt_loc (fun r hr => by simp at hr; subst hr; exact (hloc.mix _).2 hs0)
  have hfin : putL (s0 :: r0) i f us H1' = putL (s0 :: r0) i f us H1 := by
    funext r
    by_cases hr : r = s0.1
    · subst hr
      rw [putL_at hp0 ((hloc.mix _).2 hs0), hEH, putL_junk _ _ hp0 _ _ _ _ (by omega)]
      exact (putL_at hp0 (hH1 _ hs0)).symm
    · rw [putL_off hp0 (by simpa using hr), putL_off hp0 (by simpa using hr)]
      by_cases hd : r ∈ prs ds
      · exact (hloc.mix r).1 hd
      · rw [(hloc.mix r).2 hd, hEH, putL_off hp0 (by simpa using hr), hH1 r hd]
  refine ⟨{ v := .junk, dead := some (fun q => under ds q || under ((List.range n).map fun j => (s0 :: r0) ++ [(i, f + j)]) q), H := putL (s0 :: r0) i f us H1', wr := ((s0 :: r0).head?.map (·.1)).toList ++ ds.filterMap (fun p => p.head?.map (·.1)) }, s0 :: r0, i, f, ?_, ?_, ?_, hx2, hy2, rfl, rfl, rfl, rfl, by rw [← hEp], hb, by rw [← hEp]; rfl, by rw [← hEp]; rfl⟩
  · have ez : (TOpd.c z).ev st = z := rfl
    simp only [opW, ez, hb, htz]
    exact ⟨hpl, by rw [hrow0]; exact hrow, hEp⟩
  · simp only [opW, hx2, hy2, hb, ht', hrow']
    exact ⟨hlen, by omega, trivial⟩
  · refine st_ext ?_ ?_ ?_
    · funext k
      simp only [St.put]
      simp only [reduceCtorEq, if_false]
      rw [← hEp]
      exact killT_sub (fun q hq => by rw [hDp] at hq; rw [hq, Bool.or_true]) _
    · exact hfin
    · funext q
      cases q with
      | nil => rfl
      | cons s t =>
        simp only [St.put, orgPut]
        rw [← hEp]
        simp only [deadB, hDp, reduceCtorEq, if_false]
        by_cases hu : under ((List.range n).map fun j => (s0 :: r0) ++ [(i, f + j)]) (s :: t) = true
        · simp only [hu, Bool.or_true, if_true]
        · simp only [Bool.eq_false_iff.2 hu, Bool.or_false, Bool.false_eq_true, if_false]

/-! ### the pinned value -/
def pinT : Value → TV
  | .agg cs => .ag (cs.toList.map .pin)
  | v => .pin v
theorem pinT_cells (v : Value) : cellsT (pinT v) = (cellsV v).map .pin := by cases v <;> rfl
theorem rootsL_pins (vs : List Value) : rootsL (vs.map .pin) = [] := by
  induction vs with
  | nil => rfl
  | cons v vs ih => simp [rootsL, rootsT, ih]
theorem njL_pins (vs : List Value) : njL (vs.map .pin) = true := by
  induction vs with
  | nil => rfl
  | cons v vs ih => simp [njL, njT, ih]
theorem pinT_roots (v : Value) : rootsT (pinT v) = [] := by
  cases v <;> first | rfl | exact rootsL_pins _
theorem pinT_rv {κ : Path → Value} {A : Nat → Nat → Prop} {v : Value} (h : ∀ y ∈ cellsV v, y.oneCell' = true) : RV w κ H A (pinT v) v := by
  cases v with
  | agg cs =>
    simp only [pinT]
    refine .ag _ _ (by simp) fun j c hc => ?_
    simp only [List.getElem?_map, Array.getElem?_toList, Option.map_eq_some_iff] at hc
    obtain ⟨z, hz, rfl⟩ := hc
    rw [hz]
    exact .pure _ _ (.pin _ (h z (by simp only [cellsV]; exact Array.mem_toList_iff.2 (Array.mem_of_getElem? hz))))
  | _ => exact .pure _ _ (.pin _ (h _ (by simp [cellsV])))

/-! ### a value that is whole later on was whole before -/
def fitT (u : TV) : Prop := ∀ c ∈ cellsT u, c ≠ .junk ∧ (∀ vs, c ≠ .tu vs) ∧ isAg c = false
theorem fit1_kill {d : Path → Bool} {c : TV} (h : killT d c ≠ .junk ∧ (∀ vs, killT d c ≠ .tu vs) ∧ isAg (killT d c) = false) : c ≠ .junk ∧ (∀ vs, c ≠ .tu vs) ∧ isAg c = false := by
  refine ⟨?_, fun vs => ?_, ?_⟩
  · rintro rfl; exact h.1 rfl
  · rintro rfl; exact h.2.1 _ rfl
  · cases c <;> first | rfl | exact h.2.2
theorem killL_mem {d : Path → Bool} {c : TV} : ∀ {cs : List TV}, c ∈ cs → killT d c ∈ killL d cs
  | _ :: _, h => by
    simp only [killL]
    rcases List.mem_cons.1 h with rfl | h
    · exact List.mem_cons_self
    · exact List.mem_cons_of_mem _ (killL_mem h)
theorem fit_kill {d : Option (Path → Bool)} {u : TV} (h : fitT (deadT d u)) : fitT u := by
  cases d with
  | none => exact h
  | some d =>
    intro c hc
    by_cases hu : isAg u = true
    · obtain ⟨cs, rfl⟩ : ∃ cs, u = .ag cs := by
        cases u <;> first | exact ⟨_, rfl⟩ | cases hu
      exact fit1_kill (h _ (killL_mem hc))
    · have : c = u := by cases u <;> simp_all [cellsT, isAg]
      subst this
      refine fit1_kill (d := d) (h _ ?_)
      have : isAg (killT d c) = false := by
        cases c <;> simp only [killT] <;> first
          | rfl
          | (split <;> rfl)
          | exact absurd rfl hu
      show killT d c ∈ cellsT (killT d c)
      generalize killT d c = z at this
      cases z <;> first | exact List.mem_singleton.2 rfl | cases this
theorem fit_cells {κ : Path → Value} {A : Nat → Nat → Prop} {u : TV} {v : Value} (hv : RV w κ H A u v) (h : fitT u) : (cellsT u).length = (cellsV v).length ∧ ∀ y ∈ cellsV v, y.oneCell' = true := by
  have hn : isAg u = true ∨ (∀ vs, u ≠ .tu vs) := by
    by_cases hg : isAg u = true
    · exact .inl hg
    · refine .inr fun vs hh => ?_
      subst hh
      exact (h (.tu vs) (by simp [cellsT])).2.1 vs rfl
  obtain ⟨hl, hc⟩ := rv_cells hv (fun c hc => (h c hc).1) hn
  refine ⟨hl, fun y hy => ?_⟩
  obtain ⟨j, hj⟩ := List.getElem?_of_mem hy
  have hlt : j < (cellsT u).length := by have := (List.getElem?_eq_some_iff.1 hj).1; omega
  have hjc : (cellsT u)[j]? = some (cellsT u)[j] := List.getElem?_eq_getElem hlt
  exact oneCell_of (hc j _ y hjc hj) (h _ (List.getElem_mem hlt))

/-! ### what is written once more -/
theorem setCell_same {B off : Nat} {v : Value} {arr : Array Value} {T : TypeId} {fz : Nat × Nat} (hb : w.heap[B]? = some (.cells arr T fz)) (hv : arr[off]? = some v) : w.setCell ⟨B, off, none⟩ v = w := by
  have e : (w.setCell ⟨B, off, none⟩ v).heap = w.heap := by
    refine Array.ext_getElem? fun k => ?_
    rw [setCell_heap hb]
    split
    · rename_i h; subst h
      rw [hb]
      congr 2
      refine Array.ext_getElem? fun j => ?_
      rw [Array.getElem?_setIfInBounds]
      split
      · rename_i h; subst h
        have := (Array.getElem?_eq_some_iff.1 hv).1
        simp [this, hv]
        exact (Array.getElem?_eq_some_iff.1 hv).2.symm
      · rfl
    · rfl
  have : w.setCell ⟨B, off, none⟩ v = { w with heap := (w.setCell ⟨B, off, none⟩ v).heap } := rfl
  rw [this, e]
theorem setCells_same {B : Nat} {arr : Array Value} {T : TypeId} {fz : Nat × Nat} : ∀ (vs : List Value) (off : Nat), w.heap[B]? = some (.cells arr T fz) → (∀ j v, vs[j]? = some v → arr[off + j]? = some v) → w.setCells B off vs = w
  | [], _, _, _ => rfl
  | v :: vs, off, hb, h => by
    simp only [World.setCells]
    rw [setCell_same hb (by simpa using h 0 v rfl)]
    exact setCells_same vs (off + 1) hb fun j x hj => by rw [show off + 1 + j = off + (j + 1) by omega]; exact h (j + 1) x (by simpa using hj)

/-- The store that is done already. -/
theorem pin_commit {o : Oper} {t : TypeId} {x y : Operand} {x' y' : TOpd} {n : Nat} {a : Act} {p : Path} {i f : Nat} {cs : List TV} (hop : o.op = .store t x y) (hn : tySize P t = some n) (hx : compOpd P t x = some x') (hy : compOpd P t y = some y')
    (hd : o.dst = none) (hR : Rel F st a w) (hE : opW P st root (.store n x' y') (· = E)) (hp : x'.ev st = .pt p i f) (hr : rowAt st.H p i = some cs) (hl : f + (cellsV (a.eval y)).length ≤ cs.length)
    (hpin : ∀ j v, (cellsV (a.eval y))[j]? = some v → cs[f + j]? = some (.pin v)) : Rel F (st.put none E) a w := by
  obtain ⟨B, off, m1, m2, _, _, hRel⟩ := store_at (o := o) hop hn hx hR (fun κ h4 => opd_rv hy h4) (by simp [hd]) hE
  obtain ⟨κ, γ, h1, h2, h3, h4, h5, h6, h7⟩ := hR
  have hpv := opd_rv hx h4; rw [hp] at hpv
  obtain ⟨B1, off1, arr, T, e1, e2, e3, e4, _⟩ := pt_read h1 hpv hr hl
  rw [m1] at e1
  simp only [Value.pointer.injEq, Option.some.injEq, Addr.mk.injEq] at e1
  obtain ⟨rfl, rfl, _⟩ := e1
  rw [hd, setCells_same _ _ e2 (fun j v hj => ?_)] at hRel
  · exact hRel
  · have hlt := (List.getElem?_eq_some_iff.1 hj).1
    have := e4 j _ hlt (hpin j v hj)
    have hin : off + j < arr.size := by omega
    have h5 : (arr[off + j]?).getD undef = v := by
      cases this with
      | pure _ _ _ h => cases h; rfl
    simp only [hin, getElem?_pos, Option.getD_some] at h5
    simp [hin, h5]

/-! ### what an operation does to the temporaries -/
theorem wp_put {P : Program} {Q : Exit → Act → World → Prop} {o : Oper} {a : Act} {w : World} {K : Act → World → Prop} (hh : o.wp P a w K Q) : o.wp P a w (fun a' w' => K a' w' ∧ ∃ v ds, a' = ({ a with defers := ds } : Act).put o.dst v) Q := by
  unfold Oper.wp at *
  generalize (execOp a.eval o).run P w = r at *
  cases r with
  | ok n w' =>
    cases n <;> simp only [Oper.upon] at hh ⊢ <;>
      first
        | exact ⟨hh, _, _, rfl⟩
        | exact Calls.mono hh (fun e w'' he => by cases e <;> first | exact ⟨he, _, _, rfl⟩ | exact he)
        | exact Rows.mono hh (fun _ _ he => ⟨he, _, _, rfl⟩)
  | halt x w' => cases x <;> simp only [Oper.upon] at hh ⊢ <;> exact hh
theorem wpOp_put {P : Program} {ops : Array Oper} {Q : Exit → Act → World → Prop} {i : Nat} {o : Oper} {a : Act} {w : World} {K : Act → World → Prop} (ho : ops[i]? = some o) (hh : wpOp P ops Q i K a w) :
    wpOp P ops Q i (fun a' w' => K a' w' ∧ ∃ v ds, a' = ({ a with defers := ds } : Act).put o.dst v) a w := by
  unfold wpOp at *
  simp only [ho] at hh ⊢
  split
  · rename_i hw; simp only [hw, if_true] at hh; exact hh.imp wp_put id
  · rename_i hw; simp only [hw] at hh; exact ⟨hh, _, a.defers, rfl⟩
theorem eval_put {P : Program} {t : TypeId} {y : Operand} {y' : TOpd} {a : Act} {ds : List Deferred} {dst : Option Tmp} {v : Value} (hy : compOpd P t y = some y') (hd : ∀ d, dst = some d → d ∉ y'.tm) :
    (({ a with defers := ds } : Act).put dst v).eval y = a.eval y := by
  cases y with
  | tmp n =>
    simp only [compOpd, Option.some.injEq] at hy; subst hy
    cases dst with
    | none => rfl
    | some d =>
      have : d ≠ n := by simpa [TOpd.tm] using hd d rfl
      simp [Act.put, Act.eval, Array.getD_eq_getD_getElem?, Array.getElem?_setIfInBounds, this]
  | const c => cases dst <;> rfl
  | func f => cases dst <;> rfl
  | global g => cases dst <;> rfl

/-- What a store of what moves nothing leaves. -/
theorem pin_facts {n : Nat} {a : TOpd} {z : TV} (hE : opW P st root (.store n a (.c z)) (· = E)) (hnr : ∀ c ∈ cellsT z, noref c = true) :
    ∃ p i f cs, a.ev st = .pt p i f ∧ p ≠ [] ∧ E.wr = pr p ∧ a.ev (st.put none E) = .pt p i f ∧ rowAt (st.put none E).H p i = some cs ∧ f + n ≤ cs.length ∧ (cellsT z).length = n ∧ ∀ j u, (cellsT z)[j]? = some u → cs[f + j]? = some u := by
  have htz : takeL (cellsT z) st.H = some (cellsT z, st.H, []) := takeL_noref _ _ hnr
  have ez : (TOpd.c z).ev st = z := rfl
  simp only [opW, ez] at hE
  split at hE
  case h_2 => exact hE.elim
  rename_i p i f hb
  rw [htz] at hE
  simp only at hE
  obtain ⟨hlen, hrow, rfl⟩ := hE
  split at hrow
  case h_2 => exact hrow.elim
  rename_i cs hr
  have hp0 := node_ne hr
  obtain ⟨cs', h1, h2, h3⟩ := row_putL (us := cellsT z) (f := f) hr (by omega)
  refine ⟨p, i, f, cs', hb, hp0, by simp [pr], ?_, h1, by omega, hlen, h3⟩
  cases a with
  | c v => exact hb
  | t k =>
    have hb' : st.t k = .pt p i f := hb
    simp only [TOpd.ev, St.put, deadT, hb', killT, under_self, reduceCtorEq, if_false]
    simp [under]

theorem cells_dead (d : Option (Path → Bool)) (u : TV) : (cellsT (deadT d u)).length = (cellsT u).length := by
  cases d with
  | none => rfl
  | some d =>
    cases u <;> simp only [deadT, killT] <;> first
      | rfl
      | (split <;> rfl)
      | (simp only [cellsT]; rename_i cs; induction cs with
          | nil => rfl
          | cons c cs ih => simp [killL, ih])

/-! ### runs -/
theorem run_app {it : Nat → TOper × Foot} : ∀ {L1 L2 : List Nat} {st st' : St}, Run P it (L1 ++ L2) st st' ↔ ∃ st1, Run P it L1 st st1 ∧ Run P it L2 st1 st'
  | [], L2, st, st' => ⟨fun h => ⟨st, rfl, h⟩, fun ⟨_, h1, h2⟩ => by cases h1; exact h2⟩
  | i :: L1, L2, st, st' => by
    constructor
    · rintro ⟨E, h1, h2⟩
      obtain ⟨st1, h3, h4⟩ := run_app.1 h2
      exact ⟨st1, ⟨E, h1, h3⟩, h4⟩
    · rintro ⟨st1, ⟨E, h1, h2⟩, h3⟩
      exact ⟨E, h1, run_app.2 ⟨st1, h2, h3⟩⟩
theorem run_congr {it it' : Nat → TOper × Foot} : ∀ {L : List Nat} {st st' : St}, (∀ i ∈ L, it' i = it i) → Run P it L st st' → Run P it' L st st'
  | [], _, _, _, h => h
  | i :: L, st, st', he, ⟨E, h1, h2⟩ => by
    have e := he i List.mem_cons_self
    exact ⟨E, by rw [e]; exact h1, by rw [e]; exact run_congr (fun j hj => he j (List.mem_cons_of_mem _ hj)) h2⟩
theorem run_fit {it : Nat → TOper × Foot} {k : Nat} : ∀ {L : List Nat} {st st' : St}, (∀ i ∈ L, (it i).1.dst ≠ some k) → Run P it L st st' → fitT (st'.t k) → fitT (st.t k)
  | [], _, _, _, h, hf => by cases h; exact hf
  | i :: L, st, st', he, ⟨E, h1, h2⟩, hf => by
    have := run_fit (fun j hj => he j (List.mem_cons_of_mem _ hj)) h2 hf
    simp only [St.put, he i List.mem_cons_self, if_false] at this
    exact fit_kill this

theorem run_len {it : Nat → TOper × Foot} {k : Nat} : ∀ {L : List Nat} {st st' : St}, (∀ i ∈ L, (it i).1.dst ≠ some k) → Run P it L st st' → (cellsT (st'.t k)).length = (cellsT (st.t k)).length
  | [], _, _, _, h => by cases h; rfl
  | i :: L, st, st', he, ⟨E, h1, h2⟩ => by
    have := run_len (fun j hj => he j (List.mem_cons_of_mem _ hj)) h2
    simp only [St.put, he i List.mem_cons_self, if_false] at this
    rw [this, cells_dead]

/-! ### the store comes early -/
/-- What is known of such a store. -/
structure Late (P : Program) (it : Nat → TOper × Foot) (o : Oper) (s : Nat) (t : TypeId) (x y : Operand) (x' y' : TOpd) (n : Nat) : Prop where
  op : o.op = .store t x y
  dst : o.dst = none
  guard : o.guard = none
  tdst : (it s).1.dst = none
  tguard : (it s).1.guard = none
  top : (it s).1.op = .store n x' y'
  size : tySize P t = some n
  cx : compOpd P t x = some x'
  cy : compOpd P t y = some y'
  disj : disj ((it s).2.wr.take 1) ((it s).2.rd.drop 1) = true

structure Pinned (it : Nat → TOper × Foot) (s : Nat) (y : Operand) (x' : TOpd) (st : St) (a : Act) (p : Path) (i f : Nat) (cs : List TV) : Prop where
  wr : (it s).2.wr.take 1 = pr p
  ne : p ≠ []
  at_ : x'.ev st = .pt p i f
  row : rowAt st.H p i = some cs
  len : f + (cellsV (a.eval y)).length ≤ cs.length
  pin : ∀ j v, (cellsV (a.eval y))[j]? = some v → cs[f + j]? = some (.pin v)

theorem stepF_plain {o : TOper} {f : Foot} (hg : o.guard = none) : StepF P st o E f ↔ opW P st o.root o.op (· = E) ∧ f = footOf st o E := by
  unfold StepF
  rw [hg]
  simp [wantW]

theorem pinned_step {it : Nat → TOper × Foot} {o : Oper} {s : Nat} {t : TypeId} {x y : Operand} {x' y' : TOpd} {n : Nat} {a a' : Act} {p : Path} {i f : Nat} {cs : List TV} {ti : TOper} {g : Foot}
    (hl : Late P it o s t x y x' y' n) (hp : Pinned it s y x' st a p i f cs) (hS : StepF P st ti E g) (hT : IndT ti (it s).1) (hI : IndF g (lateFoot (it s).2)) (ha : a'.eval y = a.eval y) :
    Pinned it s y x' (st.put ti.dst E) a' p i f cs := by
  obtain ⟨off, _, ded⟩ := step_self hS
  obtain ⟨fw, _, _⟩ := step_foot hS
  obtain ⟨s0, r0, rfl⟩ : ∃ s t, p = s :: t := by cases p with
    | nil => exact absurd rfl hp.ne
    | cons s t => exact ⟨s, t, rfl⟩
  have hr : s0.1 ∉ E.wr := fun h => (hI.a s0.1 (by rw [fw]; exact h)).2.1 (by simp only [lateFoot]; rw [hp.wr]; simp)
  refine ⟨hp.wr, hp.ne, ?_, ?_, by rw [ha]; exact hp.len, by rw [ha]; exact hp.pin⟩
  · have h0 := hp.at_
    cases x' with
    | c v => exact h0
    | t k =>
      have hk : ti.dst ≠ some k := fun h => (hT.a k h).1 (by simp [lookT, hl.top, opTm, TOpd.tm])
      have h0' : st.t k = .pt (s0 :: r0) i f := h0
      simp only [TOpd.ev, St.put, hk, if_false, h0']
      refine deadT_off (W := E.wr) (fun q hq => ded q hq) _ fun r hr' hm => ?_
      simp [rootsT] at hm
      subst hm; exact hr hr'
  · rw [← hp.row]
    exact rowAt_loc fun r hr' => by simp at hr'; subst hr'; exact off _ hr

theorem late_commit {it : Nat → TOper × Foot} {o : Oper} {s : Nat} {t : TypeId} {x y : Operand} {x' y' : TOpd} {n : Nat} {a : Act} {p : Path} {i f : Nat} {cs : List TV} {g : Foot}
    (hl : Late P it o s t x y x' y' n) (hp : Pinned it s y x' st a p i f cs) (hS : StepF P st (it s).1 E g) (hR : Rel F st a w) : Rel F (st.put (it s).1.dst E) a w := by
  obtain ⟨h1, _⟩ := (stepF_plain hl.tguard).1 hS
  rw [hl.top] at h1
  rw [hl.tdst]
  exact pin_commit hl.op hl.size hl.cx hl.cy hl.dst hR h1 hp.at_ hp.row hp.len hp.pin

theorem late_early {it : Nat → TOper × Foot} {ops : Array Oper} {Q : Exit → Act → World → Prop} {K : Act → World → Prop} {o : Oper} {s N : Nat} {t : TypeId} {x y : Operand} {x' y' : TOpd} {n : Nat} {a : Act} {pre post : List Nat}
    (ho : ops[s]? = some o) (hl : Late P it o s t x y x' y' n) (hrun : Run P it (pre ++ s :: post) st st') (hN : ∀ j ∈ pre ++ s :: post, j ≠ N)
    (hpre : ∀ j ∈ pre, IndT (it j).1 (it s).1 ∧ IndF (it j).2 (lateFoot (it s).2)) (hR : Rel F st a w)
    (hK : ∀ st2 w2 p i f cs, Rel F st2 a w2 → Run P it (pre ++ s :: post) st2 st' → Pinned it s y x' st2 a p i f cs → K a w2) : wpOp P ops Q s K a w := by
  obtain ⟨st1, hr1, E, hS, hr2⟩ := run_app.1 hrun
  obtain ⟨hE, hf⟩ := (stepF_plain hl.tguard).1 hS
  rw [hl.top] at hE
  have hrd : (it s).2.rd = rootsL [x'.ev st1, y'.ev st1] := by rw [hf]; simp only [footOf, hl.top, opT]
  have hwr : (it s).2.wr = E.wr := by rw [hf]; rfl
  -- the value, as it is now
  have hfit1 : fitT (y'.ev st1) := by
    have h := hE
    simp only [opW] at h
    split at h
    case h_2 => exact h.elim
    split at h
    case h_2 => exact h.elim
    rename_i ht
    exact takeL_fit ht
  have hfit : fitT (y'.ev st) := by
    cases hy' : y' with
    | c v => rw [hy'] at hfit1; exact hfit1
    | t k =>
      rw [hy'] at hfit1
      refine run_fit (fun j hj hd => ?_) hr1 hfit1
      exact ((hpre j hj).1.a k hd).1 (by simp [lookT, hl.top, opTm, TOpd.tm, hy'])
  have hval : (cellsT (y'.ev st)).length = (cellsV (a.eval y)).length ∧ ∀ z ∈ cellsV (a.eval y), z.oneCell' = true := by
    obtain ⟨κ, γ, h1, h2, h3, h4, h5, h6, h7⟩ := hR
    exact fit_cells (opd_rv hl.cy h4) hfit
  have hlen1 : (cellsT (y'.ev st1)).length = n := by
    have h := hE
    simp only [opW] at h
    split at h
    case h_2 => exact h.elim
    split at h
    case h_2 => exact h.elim
    rename_i ht
    rw [← takeL_length ht]
    exact h.1
  have hlen0 : (cellsT (y'.ev st)).length = n := by
    rw [← hlen1]
    cases hy' : y' with
    | c v => rfl
    | t k => exact (run_len (fun j hj hd => ((hpre j hj).1.a k hd).1 (by simp [lookT, hl.top, opTm, TOpd.tm, hy'])) hr1).symm
  have hzl : (cellsT (pinT (a.eval y))).length = n := by rw [pinT_cells, List.length_map, ← hval.1, hlen0]
  have hnr : ∀ c ∈ cellsT (pinT (a.eval y)), noref c = true := by
    intro c hc
    rw [pinT_cells] at hc
    obtain ⟨v, _, rfl⟩ := List.mem_map.1 hc
    rfl
  obtain ⟨Ep, E', p, i, f, k1, k2, k3, k4, k5, k6, k7, k8, k9, k10, k11, k12, k13⟩ := late_ow hE (fun r h1 h2 => disj_spec hl.disj r (by rw [hwr]; exact h1) (by rw [hrd]; exact h2)) hzl hnr
  have hpr : ∃ r, pr p = [r] := by
    obtain ⟨p', _, _, _, e1, e2, _⟩ := pin_facts k1 hnr
    rw [k11] at e1; cases e1
    cases p with
    | nil => exact absurd rfl e2
    | cons s t => exact ⟨s.1, rfl⟩
  obtain ⟨r, hpr⟩ := hpr
  let po : TOper := { (it s).1 with op := .store n x' (.c (pinT (a.eval y))) }
  let pf : Foot := footOf st1 po Ep
  let it' : Nat → TOper × Foot := fun j => if j = N then (po, pf) else it j
  have hit' : ∀ j, j ≠ N → it' j = it j := fun j hj => by simp [it', hj]
  have hitN : it' N = (po, pf) := by simp [it']
  have hlp : ∀ j ∈ pre, j ≠ N := fun j hj => hN j (List.mem_append_left _ hj)
  have hsN : s ≠ N := hN s (by simp)
  have hall2 : ∀ j ∈ pre ++ s :: post, it' j = it j := fun j hj => hit' j (hN j hj)
  have hrd1 : rootsL [x'.ev st1, y'.ev st1] = r :: rootsT (y'.ev st1) := by
    rw [k11]; simp only [rootsL, rootsT, List.append_nil]
    have : (p.head?.map (·.1)).toList = [r] := hpr
    rw [this]; rfl
  have hpfrd : pf.rd = [r] := by
    show rootsL [x'.ev st1, pinT (a.eval y)] = [r]
    rw [k11]; simp only [rootsL, rootsT, pinT_roots, List.append_nil]; exact hpr
  have hpfwr : pf.wr = [r] := by show Ep.wr = [r]; rw [k12, hpr]
  have hpfnj : pf.nj = true := by
    show njL [x'.ev st1, pinT (a.eval y)] = true
    rw [k11]
    have : njT (pinT (a.eval y)) = true := by cases a.eval y <;> first | rfl | exact njL_pins _
    simp [njL, njT, this]
  have hlrd : (lateFoot (it s).2).rd = [r] := by simp only [lateFoot]; rw [hrd, hrd1]; rfl
  have hlwr : (lateFoot (it s).2).wr = [r] := by simp only [lateFoot]; rw [hwr, ← k13, k12, hpr]
  have hlroot : (it s).2.root = (it s).1.root := by rw [hf]; rfl
  have hrunp : Run P it' (pre ++ N :: s :: post) st st' := by
    refine run_app.2 ⟨st1, run_congr (fun j hj => hit' j (hlp j hj)) hr1, Ep, ?_, E', ?_, ?_⟩
    · rw [hitN]
      exact (stepF_plain (o := po) hl.tguard).2 ⟨k1, rfl⟩
    · rw [hitN, hit' s hsN]
      have e : st1.put po.dst Ep = st1.put none Ep := by show st1.put (it s).1.dst Ep = _; rw [hl.tdst]
      rw [e]
      refine (stepF_plain hl.tguard).2 ⟨by rw [hl.top]; exact k2, ?_⟩
      rw [hf]
      simp only [footOf, hl.top, opT, k4, k5, k6, k7, k8, voOf]
    · rw [hitN, hit' s hsN]
      have e : st1.put po.dst Ep = st1.put none Ep := by show st1.put (it s).1.dst Ep = _; rw [hl.tdst]
      rw [e]
      rw [hl.tdst] at hr2 ⊢
      rw [k3]
      exact run_congr (fun j hj => hall2 j (by simp [hj])) hr2
  obtain ⟨E0, hS0, hrun0⟩ := run_pull pre st st' hrunp fun j hj => by
    obtain ⟨hT, hI⟩ := hpre j hj
    rw [hitN, hit' j (hlp j hj)]
    refine ⟨⟨fun d hd => ⟨fun hm => (hT.a d hd).1 ?_, ?_⟩, fun d hd => ?_⟩, .inr (.inl ⟨fun q hq => ?_, fun _ => hpfnj, fun q hq => ?_⟩)⟩
    · simp only [lookT, po, opTm, TOpd.tm, hl.top, List.append_nil, List.mem_append] at hm ⊢
      rcases hm with h | h
      · exact .inl h
      · exact .inr (.inl h)
    · show (it s).1.dst ≠ some d
      rw [hl.tdst]; simp
    · have : (it s).1.dst = some d := hd
      rw [hl.tdst] at this; cases this
    · obtain ⟨c1, c2, c3, c4⟩ := hI.a q hq
      refine ⟨by rw [hpfrd, ← hlrd]; exact c1, by rw [hpfwr, ← hlwr]; exact c2, ?_, ?_⟩
      · show q ≠ (it s).1.root
        rw [← hlroot]; exact c3
      · show q ∉ rootsT Ep.v
        rw [k10]; simp [rootsT]
    · rw [hpfwr, ← hlwr] at hq
      exact hI.b q hq
  rw [hitN] at hS0 hrun0
  have e0 : st.put po.dst E0 = st.put none E0 := by show st.put (it s).1.dst E0 = _; rw [hl.tdst]
  rw [e0] at hrun0
  obtain ⟨q1, q2⟩ := (stepF_plain (o := po) hl.tguard).1 hS0
  have q1' : opW P st (it s).1.root (.store n x' (.c (pinT (a.eval y)))) (· = E0) := q1
  obtain ⟨p0, i0, f0, cs0, g1, g2, g3, g4, g5, g6, g7, g8⟩ := pin_facts q1' hnr
  obtain ⟨B, off, m1, m2, m3, m4, m5⟩ := store_at (o := o) (y := y) hl.op hl.size hl.cx hR (y' := .c (pinT (a.eval y))) (fun κ _ => pinT_rv hval.2) (by simp [hl.dst]) q1'
  rw [hl.dst] at m5
  have hpin : Pinned it s y x' (st.put none E0) a p0 i0 f0 cs0 := by
    refine ⟨?_, g2, g4, g5, by omega, fun j v hj => ?_⟩
    · have : pf.wr = E0.wr := congrArg Foot.wr q2
      rw [hwr, ← k13, ← g3, ← this]; rfl
    · refine g8 j _ ?_
      rw [pinT_cells, List.getElem?_map, hj]; rfl
  have hk := hK _ _ p0 i0 f0 cs0 m5 (run_congr (fun j hj => (hall2 j hj).symm) hrun0) hpin
  unfold wpOp
  have hw : Region.wanted o (yielded ops a.tmps) = true := by simp [Region.wanted, hl.guard]
  simp only [ho, hw, if_true]
  refine .inl ?_
  unfold Oper.wp
  rw [m4, Oper.upon_skip, hl.dst]
  exact hk
end
end Go.Proofs.YtloodkhdngipbaaT
