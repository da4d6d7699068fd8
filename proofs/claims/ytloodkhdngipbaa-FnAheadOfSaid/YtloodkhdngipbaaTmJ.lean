/- TM, part J: the operations that read memory or make places, shown right. -/
import Derived.Test.YtloodkhdngipbaaTmI
namespace Go.Proofs.YtloodkhdngipbaaT
set_option linter.unusedVariables false
set_option linter.unusedSimpArgs false
open Go

section
variable {P : Program} {F : Fr} {st : St} {w w' w0 : World} {S0 : Nat → Nat → Prop} {κ κ' : Path → Value} {γ γ' : Nat → Nat → Option Path} {H : Hp} {A : Nat → Nat → Prop} {o : Oper} {E : Eff} {root : Nat}

theorem cell_of {B k : Nat} {arr : Array Value} {T : TypeId} {fz : Nat × Nat} (hb : w.heap[B]? = some (.cells arr T fz)) : w.cell? ⟨B, k, none⟩ = arr[k]? := by
  simp [World.cell?, hb]

theorem run_loadAt {t : TypeId} {g : Bool} {n B off : Nat} {arr : Array Value} {T : TypeId} {fz : Nat × Nat} (hg : tyAgg P t = some g) (hn : tySize P t = some n)
    (hb : w.heap[B]? = some (.cells arr T fz)) (hs : off + n ≤ arr.size) (h1 : g = false → n = 1) :
    (Instr.loadAt t (.pointer (some ⟨B, off, none⟩))).run P w = .ok (if g then .agg (arr.extract off (off + n)) else (arr[off]?).getD undef) w := by
  cases g with
  | true =>
    simp only [tyAgg, Option.map_eq_some_iff] at hg
    obtain ⟨d, h2, h3⟩ := hg
    have hr : d.isRow = true := by cases d <;> simp_all [TypeDesc.isRow]
    have := run_loadAt_mid (P := P) w B off t (arr.extract off (off + n)).toList d (World.rangeAt_of_block hb off n) h2 hr (by
      simp only [tySize] at hn
      rw [hn]; simp; omega)
    rw [Array.toArray_toList] at this
    simpa only [if_true] using this
  | false =>
    have := h1 rfl; subst this
    have hlt : off < arr.size := by omega
    simp [Instr.loadAt, Instr.sureAddr, loadVar, run_agg w hg, cell_of hb, hlt]

theorem node_ne {p : Path} {i : Nat} {cs : List TV} (h : rowAt H p i = some cs) : p ≠ [] := by
  rintro rfl; simp [rowAt, cellAt] at h

theorem row_kid {p : Path} {i f : Nat} {cs : List TV} {u : TV} (h : rowAt H p i = some cs) (hu : cs[f]? = some u) : ∃ nd, cellAt H p = some nd ∧ kid nd (i, f) = some u := by
  simp only [rowAt, Option.bind_eq_some_iff] at h
  obtain ⟨es, ⟨nd, h1, h2⟩, h3⟩ := h
  refine ⟨nd, h1, ?_⟩
  unfold rows at h2
  split at h2
  · cases h2; simp [kid, h3, hu]
  · cases h2
    cases i with
    | zero => simp at h3; subst h3; simp [kid, hu]
    | succ i => simp at h3
  · cases h2

theorem row_cell {p : Path} {i f : Nat} {cs : List TV} {u : TV} (h : rowAt H p i = some cs) (hu : cs[f]? = some u) : cellAt H (p ++ [(i, f)]) = some u := by
  obtain ⟨nd, h1, h2⟩ := row_kid h hu
  rw [cellAt_snoc _ _ (node_ne h), h1]; exact h2

theorem toRef_rv {q : Path} {u : TV} {v : Value} (h : TR w κ γ A q u v) (hc : cellAt H q = some u) : RV w κ H A (toRef q u) v := by
  cases h with
  | pure p u v h =>
    cases h with
    | fn g caps capv hl hcc =>
      simp only [toRef]
      split
      · exact .pure _ _ (.fn g caps capv hl hcc)
      · exact .pure _ _ (.junk _)
    | b => exact .pure _ _ (.b _)
    | i => exact .pure _ _ (.i _ _)
    | f => exact .pure _ _ (.f _)
    | s => exact .pure _ _ (.s _)
    | np => exact .pure _ _ .np
    | sl0 => exact .pure _ _ (.sl0 _)
    | sle z c a => exact .pure _ _ (.sle z c a)
    | junk => exact .pure _ _ (.junk _)
    | pin v h => exact .pure _ _ (.pin v h)
    | sl z n c B o es arr T fz hl hn hz hb hs hA hcc => exact .pure _ _ (.sl z n c B o es arr T fz hl hn hz hb hs hA hcc)
    | po B o cs arr T fz hb hs hA hcc => exact .pure _ _ (.po B o cs arr T fz hb hs hA hcc)
  | sl0 p z hk => exact .rf0 _ z 0 hk (by simp [shapeAt, hc, shape])
  | sl p z n c B o es arr T hk hl hn hz hb hs hg hcc =>
    have := RV.rf (w := w) (H := H) (A := A) q z n c B o 0 n hk (by simp [shapeAt, hc, shape, hl]) (by omega) hn
    simpa [toRef, hl] using this
  | po p B o cs arr T hk hb hs hg hcc =>
    have := RV.ptP (w := w) (H := H) (A := A) q B o 0 cs.length hk (by simp [shapeAt, hc, shape]) (by omega)
    simpa [toRef] using this

/-- What a place of one's own holds. -/
theorem pt_read (hh : HR w0 S0 A w κ γ H) {p : Path} {i f n : Nat} {v : Value} {cs : List TV} (hv : RV w κ H A (.pt p i f) v) (hr : rowAt H p i = some cs) (hn : f + n ≤ cs.length) :
    ∃ B off arr T, v = .pointer (some ⟨B, off, none⟩) ∧ w.heap[B]? = some (.cells arr T (0, 0)) ∧ off + n ≤ arr.size ∧
      (∀ (j : Nat) (u : TV), j < n → cs[f + j]? = some u → TR w κ γ A (p ++ [(i, f + j)]) u ((arr[off + j]?).getD undef)) ∧
      ∀ (nd : TV), cellAt H p = some nd → ∀ j, cellAddr (κ p) nd (i, f + j) = some (B, off + j) := by
  simp only [rowAt, Option.bind_eq_some_iff] at hr
  obtain ⟨es, ⟨nd, h1, h2⟩, h3⟩ := hr
  obtain ⟨v0, hT⟩ := hh.at h1
  cases hv with
  | pure u v h => cases h
  | ptS p z m c B o i f hk hc hi hf =>
    cases hT with
    | pure p u v h => simp [shapeAt, h1, h.noshape] at hc
    | sl0 p z' hk' => rw [hk] at hk'; cases hk'
    | po p B' o' cs' arr T hk' => rw [hk] at hk'; cases hk'
    | sl p z' n' c' B' o' es' arr T hk' hl hnn hz hb hs hg hcc =>
      rw [hk] at hk'; cases hk'
      simp only [rows, Option.some.injEq] at h2; subst h2
      simp only [shapeAt, h1, shape, Option.bind_some, Option.some.injEq, Prod.mk.injEq, true_and] at hc
      obtain ⟨rfl, _⟩ := hc
      have hz' := hz cs (List.mem_of_getElem? h3)
      have hb2 : i * z' + f + n ≤ c * z' := by
        have h4 : (i + 1) * z' ≤ c * z' := Nat.mul_le_mul_right z' (by omega)
        rw [Nat.add_mul] at h4; omega
      refine ⟨B, o + i * z' + f, arr, T, rfl, hb, by omega, fun j u hj hu => ?_, fun nd hnd j => ?_⟩
      · have := hcc i (f + j) cs u h3 hu
        rwa [show o + i * z' + f + j = o + i * z' + (f + j) by omega]
      · rw [h1] at hnd; cases hnd
        simp only [cellAddr, hk]
        rw [show o + i * z' + f + j = o + i * z' + (f + j) by omega]
  | ptP p B o f m hk hc hf =>
    cases hT with
    | pure p u v h => simp [shapeAt, h1, h.noshape] at hc
    | sl0 p z' hk' => rw [hk] at hk'; cases hk'
    | sl p z' n' c' B' o' es' arr T hk' => rw [hk] at hk'; cases hk'
    | po p B' o' cs' arr T hk' hb hs hg hcc =>
      rw [hk] at hk'; cases hk'
      simp only [rows, Option.some.injEq] at h2; subst h2
      simp only [List.getElem?_cons_zero, Option.some.injEq] at h3; subst h3
      refine ⟨B, o + f, arr, T, rfl, hb, by omega, fun j u hj hu => ?_, fun nd hnd j => ?_⟩
      · have := hcc (f + j) u hu
        rwa [show o + f + j = o + (f + j) by omega]
      · rw [h1] at hnd; cases hnd
        simp only [cellAddr, hk]
        rw [show o + f + j = o + (f + j) by omega]

/-- What a place that is only read holds. -/
theorem po_read {cs : List TV} {v : Value} (hv : RV w κ H A (.po false cs) v) :
    ∃ B off arr T fz, v = .pointer (some ⟨B, off, none⟩) ∧ w.heap[B]? = some (.cells arr T fz) ∧ off + cs.length ≤ arr.size ∧ (∀ k, k < cs.length → A B (off + k)) ∧
      ∀ (j : Nat) (u : TV), cs[j]? = some u → RR w A u ((arr[off + j]?).getD undef) := by
  cases hv with
  | pure u v h =>
    cases h with
    | po B o cs arr T fz hb hs hA hc => exact ⟨B, o, arr, T, fz, rfl, hb, hs, hA, hc⟩

theorem refsFrom_get (p : Path) (i : Nat) : ∀ (cs : List TV) (f j : Nat), (refsFrom p i f cs)[j]? = (cs[j]?).map (toRef (p ++ [(i, f + j)]))
  | [], f, j => rfl
  | u :: us, f, 0 => rfl
  | u :: us, f, j + 1 => by
    simp only [refsFrom, List.getElem?_cons_succ]
    rw [refsFrom_get p i us (f + 1) j]
    congr 3; simp; omega

theorem refsFrom_len (p : Path) (i : Nat) : ∀ (cs : List TV) (f : Nat), (refsFrom p i f cs).length = cs.length
  | [], _ => rfl
  | _ :: us, f => by simp [refsFrom, refsFrom_len p i us (f + 1)]

theorem good_load {x : Operand} {x' : TOpd} {t tx : TypeId} {g : Bool} {n : Nat} (hop : o.op = .load t x) (hg : tyAgg P t = some g) (hn : tySize P t = some n) (hx : compOpd P tx x = some x')
    (hd : ∀ d, o.dst = some d → d < F.N) (hE : opW P st root (.load g n x') (· = E)) : Good P F o st E := by
  simp only [opW] at hE
  split at hE
  · rename_i p i f hb
    split at hE
    case h_2 => exact hE.elim
    rename_i cs hr
    obtain ⟨hlen, hE⟩ := hE
    refine good_val' hd fun a w κ γ hh ht => ?_
    have hv := opd_rv hx ht; rw [hb] at hv
    obtain ⟨B, off, arr, T, h1, h2, h3, h4, _⟩ := pt_read hh hv hr hlen
    have cell : ∀ (j : Nat) (u : TV), j < n → cs[f + j]? = some u → RV w κ st.H F.A (toRef (p ++ [(i, f + j)]) u) ((arr[off + j]?).getD undef) := fun j u hj hu => toRef_rv (h4 j u hj hu) (row_cell hr hu)
    cases g with
    | true =>
      simp only [if_true] at hE
      refine ⟨_, .agg (arr.extract off (off + n)), w, hE, ?_, .refl w, ?_⟩
      · have := run_loadAt (P := P) (w := w) hg hn h2 h3 (by simp)
        simp only [if_true] at this
        simp [execOp, hop, h1, this]
      · refine .ag _ _ (by rw [refsFrom_len]; simp; omega) fun j u hu => ?_
        rw [refsFrom_get] at hu
        cases hj : ((cs.drop f).take n)[j]? with
        | none => simp [hj] at hu
        | some c =>
          simp only [hj, Option.map_some, Option.some.injEq] at hu
          subst hu
          rw [List.getElem?_take] at hj
          split at hj
          case isFalse => cases hj
          rename_i hjn
          rw [List.getElem?_drop] at hj
          have := cell j c hjn hj
          have e : (arr.extract off (off + n))[j]? = arr[off + j]? := by
            rw [Array.getElem?_extract]; simp; omega
          rwa [e]
    | false =>
      simp only [Bool.false_eq_true, if_false] at hE
      obtain ⟨rfl, hE⟩ := hE
      obtain ⟨c, hc⟩ : ∃ c, cs[f]? = some c := ⟨cs[f], List.getElem?_eq_getElem (by omega)⟩
      have e1 : (cs.drop f).take 1 = [c] := by
        rw [List.take_one, List.head?_drop, hc]; rfl
      rw [e1] at hE
      simp only [refsFrom, List.headD_cons] at hE
      refine ⟨_, (arr[off]?).getD undef, w, hE, ?_, .refl w, by simpa using cell 0 c (by omega) (by simpa using hc)⟩
      have := run_loadAt (P := P) (w := w) hg hn h2 h3 (by simp)
      simp only [Bool.false_eq_true, if_false] at this
      simp [execOp, hop, h1, this]
  · rename_i cs hb
    obtain ⟨hlen, hE⟩ := hE
    refine good_val' hd fun a w κ γ hh ht => ?_
    have hv := opd_rv hx ht; rw [hb] at hv
    obtain ⟨B, off, arr, T, fz, h1, h2, h3, hA, h4⟩ := po_read hv
    cases g with
    | true =>
      simp only [if_true] at hE
      refine ⟨_, .agg (arr.extract off (off + n)), w, hE, ?_, .refl w, ?_⟩
      · have := run_loadAt (P := P) (w := w) hg hn h2 (by omega : off + n ≤ arr.size) (by simp)
        simp only [if_true] at this
        simp [execOp, hop, h1, this]
      · refine .ag _ _ (by simp; omega) fun j u hu => ?_
        rw [List.getElem?_take] at hu
        split at hu
        case isFalse => cases hu
        rename_i hjn
        have e : (arr.extract off (off + n))[j]? = arr[off + j]? := by
          rw [Array.getElem?_extract]; simp; omega
        rw [e]
        exact .pure _ _ (h4 j u hu)
    | false =>
      simp only [Bool.false_eq_true, if_false] at hE
      obtain ⟨rfl, hE⟩ := hE
      cases cs with
      | nil => simp at hlen
      | cons c cs =>
        refine ⟨_, (arr[off]?).getD undef, w, hE, ?_, .refl w, .pure _ _ (by simpa using h4 0 c rfl)⟩
        have := run_loadAt (P := P) (w := w) hg hn h2 (by simp at h3; omega : off + 1 ≤ arr.size) (by simp)
        simp only [Bool.false_eq_true, if_false] at this
        simp [execOp, hop, h1, this]
  · exact hE.elim

theorem add_mid (B off k : Nat) : (⟨B, off, none⟩ : Addr).add k = ⟨B, off + k, none⟩ := Addr.add_mid B off k

theorem row_len (hh : HR w0 S0 A w κ γ H) {p : Path} {i m z : Nat} {b : Bool} {cs : List TV} (hr : rowAt H p i = some cs) (hc : shapeAt H p = some (b, z, m)) : cs.length = if b then z else m := by
  simp only [rowAt, Option.bind_eq_some_iff] at hr
  obtain ⟨es, ⟨nd, h1, h2⟩, h3⟩ := hr
  obtain ⟨v0, hT⟩ := hh.at h1
  simp only [shapeAt, h1, Option.bind_some] at hc
  cases hT with
  | pure p u v h => rw [h.noshape] at hc; cases hc
  | sl0 p z' hk' => simp only [rows, Option.some.injEq] at h2; subst h2; simp at h3
  | sl p z' n' c' B' o' es' arr T hk' hl hnn hz hb hs hg hcc =>
    simp only [rows, Option.some.injEq] at h2; subst h2
    simp only [shape, Option.some.injEq, Prod.mk.injEq] at hc
    obtain ⟨rfl, rfl, _⟩ := hc
    simpa using hz cs (List.mem_of_getElem? h3)
  | po p B' o' cs' arr T hk' hb hs hg hcc =>
    simp only [rows, Option.some.injEq] at h2; subst h2
    cases i with
    | succ i => simp at h3
    | zero =>
      simp only [List.getElem?_cons_zero, Option.some.injEq] at h3; subst h3
      simp only [shape, Option.some.injEq, Prod.mk.injEq] at hc
      obtain ⟨rfl, _, rfl⟩ := hc
      rfl

theorem good_faddr {x : Operand} {x' : TOpd} {t tx : TypeId} {fs : Array Field} {k n : Nat} {fd : Field} (hop : o.op = .fieldAddr t x k) (hu : P.underlying t = some (.struct fs)) (hf : fs[k]? = some fd)
    (hn : tySize P fd.type = some n) (hn0 : n ≠ 0) (hx : compOpd P tx x = some x')
    (hd : ∀ d, o.dst = some d → d < F.N) (hE : opW P st root (.faddr fd.offset n x') (· = E)) : Good P F o st E := by
  simp only [opW] at hE
  have run : ∀ (a : Act) (w : World) B off, a.eval x = .pointer (some ⟨B, off, none⟩) → (execOp a.eval o).run P w = .ok (.value (.pointer (some ⟨B, off + fd.offset, none⟩))) w := by
    intro a w B off h
    simp [execOp, hop, h, Instr.fieldAt, run_underlying hu, hf, Instr.sureAddr, fieldPlace, run_size w hn, hn0, add_mid]
  split at hE
  · rename_i p i f hb
    split at hE
    case h_2 => exact hE.elim
    rename_i cs hr
    obtain ⟨hlen, rfl⟩ := hE
    refine good_val hd fun a w κ γ hh ht => ?_
    have hv := opd_rv hx ht; rw [hb] at hv
    generalize he : a.eval x = v at hv
    cases hv with
    | pure u v h => cases h
    | ptS p z m c B o' i f hk hc hi hf' =>
      refine ⟨_, w, run a w _ _ he, .refl w, ?_⟩
      have : f + fd.offset ≤ z := by
        have := row_len hh hr hc
        simp at this; omega
      have h2 := RV.ptS (w := w) (A := F.A) p z m c B o' i (f + fd.offset) hk hc hi this
      rwa [show o' + i * z + (f + fd.offset) = o' + i * z + f + fd.offset by omega] at h2
    | ptP p B o' f m hk hc hf' =>
      refine ⟨_, w, run a w _ _ he, .refl w, ?_⟩
      have : f + fd.offset ≤ m := by
        have := row_len hh hr hc
        simp at this; omega
      have h2 := RV.ptP (w := w) (A := F.A) p B o' (f + fd.offset) m hk hc this
      rwa [show o' + (f + fd.offset) = o' + f + fd.offset by omega] at h2
  · rename_i cs hb
    obtain ⟨hlen, rfl⟩ := hE
    refine good_val hd fun a w κ γ hh ht => ?_
    have hv := opd_rv hx ht; rw [hb] at hv
    obtain ⟨B, off, arr, T, fz, h1, h2, h3, hA, h4⟩ := po_read hv
    refine ⟨_, w, run a w _ _ h1, .refl w, .pure _ _ ?_⟩
    refine .po B (off + fd.offset) _ arr T fz h2 (by simp; omega) (fun j hj => ?_) fun j u hj => ?_
    · rw [Nat.add_assoc]; exact hA _ (by simp at hj; omega)
    · rw [List.getElem?_take] at hj
      split at hj
      case isFalse => cases hj
      rw [List.getElem?_drop] at hj
      have := h4 _ u hj
      rwa [← Nat.add_assoc] at this
  · exact hE.elim

theorem good_fld {x : Operand} {x' : TOpd} {t tx : TypeId} {fs : Array Field} {k n : Nat} {g : Bool} {fd : Field} (hop : o.op = .field t x k) (hu : P.underlying t = some (.struct fs)) (hf : fs[k]? = some fd)
    (hn : tySize P fd.type = some n) (hg : tyAgg P fd.type = some g) (hx : compOpd P tx x = some x')
    (hd : ∀ d, o.dst = some d → d < F.N) (hE : opW P st root (.fld g fd.offset n x') (· = E)) : Good P F o st E := by
  simp only [opW] at hE
  split at hE
  case h_2 => exact hE.elim
  rename_i cs hb
  obtain ⟨hlen, hE⟩ := hE
  refine good_val' hd fun a w κ γ hh ht => ?_
  have hv := opd_rv hx ht; rw [hb] at hv
  obtain ⟨vs, h1, h2, h3⟩ := rv_ag hv
  cases g with
  | true =>
    simp only [if_true] at hE
    refine ⟨_, .agg (vs.extract fd.offset (fd.offset + n)), w, hE, ?_, .refl w, ?_⟩
    · simp [execOp, hop, h1, Instr.field, run_underlying hu, hf, part, asAgg, run_agg w hg, run_size w hn]
    · refine .ag _ _ (by simp; omega) fun j u hu => ?_
      rw [List.getElem?_take] at hu
      split at hu
      case isFalse => cases hu
      rw [List.getElem?_drop] at hu
      have e : (vs.extract fd.offset (fd.offset + n))[j]? = vs[fd.offset + j]? := by
        rw [Array.getElem?_extract]; simp; omega
      rw [e]; exact h3 _ u hu
  | false =>
    simp only [Bool.false_eq_true, if_false] at hE
    obtain ⟨rfl, hE⟩ := hE
    have hlt : fd.offset < vs.size := by omega
    obtain ⟨c, hc⟩ : ∃ c, cs[fd.offset]? = some c := ⟨cs[fd.offset], List.getElem?_eq_getElem (by omega)⟩
    have e1 : (cs.drop fd.offset).take 1 = [c] := by
      rw [List.take_one, List.head?_drop, hc]; rfl
    rw [e1] at hE
    simp only [List.headD_cons] at hE
    refine ⟨_, vs[fd.offset], w, hE, ?_, .refl w, by simpa [hlt] using h3 _ c hc⟩
    simp [execOp, hop, h1, Instr.field, run_underlying hu, hf, part, asAgg, run_agg w hg, hlt]

theorem good_iaddr {x y : Operand} {x' y' : TOpd} {t e tx ty : TypeId} {z : Nat} (hop : o.op = .indexAddr t x y) (hu : P.underlying t = some (.slice e)) (hz : tySize P e = some z)
    (hx : compOpd P tx x = some x') (hy : compOpd P ty y = some y')
    (hd : ∀ d, o.dst = some d → d < F.N) (hE : opW P st root (.iaddr z x' y') (· = E)) : Good P F o st E := by
  simp only [opW] at hE
  have run : ∀ (a : Act) (w : World) B off n c k (i : Int), a.eval x = .slice (some ⟨B, off, none⟩) n c → a.eval y = .int k i → 0 ≤ i → i < n →
      (execOp a.eval o).run P w = .ok (.value (.pointer (some ⟨B, off + i.toNat * z, none⟩))) w := by
    intro a w B off n c k i h1 h2 h3 h4
    simp [execOp, hop, h1, h2, Instr.indexAt, asIntOf, run_underlying hu, h3, h4, run_size w hz, add_mid]
  split at hE
  · rename_i z' es k i hb1 hb2
    split at hE
    case h_2 => exact hE.elim
    rename_i e1 he
    obtain ⟨rfl, rfl⟩ := hE
    split at he
    case isFalse => cases he
    rename_i h0
    refine good_val hd fun a w κ γ hh ht => ?_
    have hv := opd_rv hx ht; rw [hb1] at hv
    have hv2 := opd_rv hy ht; rw [hb2] at hv2
    have hlt := (List.getElem?_eq_some_iff.1 he).1
    generalize hev : a.eval x = v at hv
    cases hv with
    | pure u v h =>
      cases h with
      | sl0 => simp at hlt
      | sle => simp at hlt
      | sl z' n c B off es arr T fz hl hn hzz hbk hs hA hc =>
        have hi : i.toNat < n := by omega
        have hzt : e1.length = z' := hzz e1 (List.mem_of_getElem? he)
        refine ⟨_, w, run a w B off n c k i hev (rv_i hv2) h0 (by omega), .refl w, .pure _ _ ?_⟩
        have hb : i.toNat * z' + z' ≤ n * z' := by
          have h4 : (i.toNat + 1) * z' ≤ n * z' := Nat.mul_le_mul_right z' hi
          rw [Nat.add_mul] at h4; omega
        refine .po B (off + i.toNat * z') e1 arr T fz hbk (by omega) (fun j hj => ?_) fun f u hf => hc _ f e1 u he hf
        rw [Nat.add_assoc]; exact hA _ (by omega)
  · rename_i p off len k i hb1 hb2
    obtain ⟨h0, h1, h2, rfl⟩ := hE
    refine good_val hd fun a w κ γ hh ht => ?_
    have hv := opd_rv hx ht; rw [hb1] at hv
    have hv2 := opd_rv hy ht; rw [hb2] at hv2
    generalize hev : a.eval x = v at hv
    cases hv with
    | pure u v h => cases h
    | rf0 => omega
    | rfE => omega
    | rf p z' n c B o off len hk hc hb hn =>
      rw [hc] at h2
      simp only [Option.map_some, Option.some.injEq] at h2
      subst h2
      refine ⟨_, w, run a w B (o + off * z') len (c - off) k i hev (rv_i hv2) h0 (by omega), .refl w, ?_⟩
      have h3 := RV.ptS (w := w) (A := F.A) p z' n c B o (off + i.toNat) 0 hk hc (by omega) (by omega)
      rw [show o + off * z' + i.toNat * z' = o + (off + i.toNat) * z' + 0 by rw [Nat.add_mul]; omega]
      exact h3
  · exact hE.elim

theorem run_bound {x : Value} {k : IntKind} {i : Int} (hx : x = .int k i) {y : Nat} {c : BoundsCode} (h0 : 0 ≤ i) (h1 : i ≤ y) : (Instr.sliceBound x y c).run P w = .ok i.toNat w := by
  subst hx; simp [Instr.sliceBound, asIntOf, h0, h1]

/-- The bounds of a slice expression. -/
theorem optB_run {d : Int} {lo : Option Operand} {lo' : Option TOpd} {Kb : Int → Prop} {a : Act} {tx : TypeId} (h : optB st d lo' Kb) (ho : (lo = none ∧ lo' = none) ∨ ∃ x x', lo = some x ∧ lo' = some x' ∧ compOpd P tx x = some x')
    (ht : ∀ k, RV w κ st.H A (st.t k) ((a.tmps[k]?).getD undef)) : ∃ i, Kb i ∧ ((lo = none ∧ i = d) ∨ ∃ x k, lo = some x ∧ a.eval x = .int k i) := by
  rcases ho with ⟨rfl, rfl⟩ | ⟨x, x', rfl, rfl, hx⟩
  · exact ⟨d, h, .inl ⟨rfl, rfl⟩⟩
  · simp only [optB] at h
    split at h
    case h_2 => exact h.elim
    rename_i k n hb
    have hv := opd_rv (a := a) hx ht; rw [hb] at hv
    exact ⟨n, h, .inr ⟨x, k, rfl, rv_i hv⟩⟩

theorem run_bounds {isS : Bool} {len cap : Nat} {lo hi : Option Operand} {a : Act} {l h : Int} (hl : (lo = none ∧ l = 0) ∨ ∃ x k, lo = some x ∧ a.eval x = .int k l) (hh : (hi = none ∧ h = len) ∨ ∃ x k, hi = some x ∧ a.eval x = .int k h)
    (h0 : 0 ≤ l) (h1 : l ≤ h) (h2 : h ≤ cap) : (Instr.sliceBounds isS len cap (lo.map a.eval) (hi.map a.eval) none).run P w = .ok (l.toNat, h.toNat, cap) w := by
  have hy : h = ((h.toNat : Nat) : Int) := by omega
  have hlb : ∀ (x : Operand) (k : IntKind), a.eval x = .int k l → ∀ (y : Nat) (c : BoundsCode), h = y → (Instr.sliceBound (a.eval x) y c).run P w = .ok l.toNat w := fun x k hx y c hy => run_bound hx h0 (by omega)
  rcases hh with ⟨rfl, rfl⟩ | ⟨x, k, rfl, hx⟩ <;> rcases hl with ⟨rfl, rfl⟩ | ⟨x', k', rfl, hx'⟩
  · simp [Instr.sliceBounds]
  · simp only [Instr.sliceBounds, Option.map_none, Option.map_some, Sem.run_bind, Sem.run_pure, Result.andThen_ok, hlb x' k' hx' len _ rfl, Int.toNat_natCast]
  · simp only [Instr.sliceBounds, Option.map_none, Option.map_some, Sem.run_bind, Sem.run_pure, Result.andThen_ok, run_bound hx (by omega) h2, Int.toNat_zero]
  · simp only [Instr.sliceBounds, Option.map_some, Sem.run_bind, Sem.run_pure, Result.andThen_ok, run_bound hx (by omega) h2, hlb x' k' hx' h.toNat _ hy]

theorem good_slice {str : Bool} {x : Operand} {lo hi : Option Operand} {x' : TOpd} {lo' hi' : Option TOpd} {t tx tl th : TypeId} {z : Nat} (hop : o.op = .slice t x lo hi none)
    (hu : if str then P.underlying t = some .string else ∃ e, P.underlying t = some (.slice e) ∧ tySize P e = some z)
    (hx : compOpd P tx x = some x') (hlo : (lo = none ∧ lo' = none) ∨ ∃ x x', lo = some x ∧ lo' = some x' ∧ compOpd P tl x = some x') (hhi : (hi = none ∧ hi' = none) ∨ ∃ x x', hi = some x ∧ hi' = some x' ∧ compOpd P th x = some x')
    (hd : ∀ d, o.dst = some d → d < F.N) (hE : opW P st root (.slice str z x' lo' hi') (· = E)) : Good P F o st E := by
  cases str with
  | true =>
    simp only [opW] at hE
    split at hE
    case h_2 => exact hE.elim
    rename_i s hb
    refine good_val' hd fun a w κ γ hh ht => ?_
    have hv := opd_rv hx ht; rw [hb] at hv
    have h1 := rv_s hv
    obtain ⟨l, hE, hl⟩ := optB_run hE hlo ht
    obtain ⟨h, hE, hh'⟩ := optB_run hE hhi ht
    obtain ⟨g0, g1, g2, hE⟩ := hE
    refine ⟨_, .string (s.extract l.toNat h.toNat), w, hE, ?_, .refl w, .pure _ _ (.s _)⟩
    simp only [if_true] at hu
    simp [execOp, hop, h1, Instr.sliceAt, Instr.slice, run_underlying hu, run_bounds (P := P) (w := w) hl hh' g0 g1 g2]
  | false =>
    simp only [Bool.false_eq_true, if_false] at hu
    obtain ⟨e, hu, hz⟩ := hu
    have run : ∀ (a : Act) (w : World) ad n c (l h : Int), a.eval x = .slice ad n c → ((lo = none ∧ l = 0) ∨ ∃ x k, lo = some x ∧ a.eval x = .int k l) → ((hi = none ∧ h = n) ∨ ∃ x k, hi = some x ∧ a.eval x = .int k h) →
        0 ≤ l → l ≤ h → h ≤ c → (execOp a.eval o).run P w = .ok (.value (.slice (if c = l.toNat then ad else ad.map (·.add (l.toNat * z))) (h.toNat - l.toNat) (c - l.toNat))) w := by
      intro a w ad n c l h h1 hl hh' g0 g1 g2
      simp [execOp, hop, h1, Instr.sliceAt, Instr.slice, run_underlying hu, run_size w hz, run_bounds (P := P) (w := w) hl hh' g0 g1 g2]
    simp only [opW] at hE
    split at hE
    · rename_i z' es hb
      obtain ⟨rfl, hE⟩ := hE
      refine good_val' hd fun a w κ γ hh ht => ?_
      have hv := opd_rv hx ht; rw [hb] at hv
      obtain ⟨l, hE, hl⟩ := optB_run hE hlo ht
      obtain ⟨h, hE, hh'⟩ := optB_run hE hhi ht
      obtain ⟨g0, g1, g2, hE⟩ := hE
      generalize hev : a.eval x = v at hv
      cases hv with
      | pure u v hr =>
        cases hr with
        | sl0 z =>
          simp only [List.length_nil] at g2 hh'
          have e1 : l = 0 := by omega
          have e2 : h = 0 := by omega
          subst e1; subst e2
          refine ⟨_, _, w, hE, run a w none 0 0 0 0 hev hl hh' g0 g1 (by simp), .refl w, .pure _ _ ?_⟩
          simpa using RR.sl0 _
        | sle z c a' =>
          simp only [List.length_nil] at g2 hh'
          have e1 : l = 0 := by omega
          have e2 : h = 0 := by omega
          subst e1; subst e2
          refine ⟨_, _, w, hE, run a w (some a') 0 c 0 0 hev hl hh' g0 g1 (by simp), .refl w, .pure _ _ ?_⟩
          by_cases hc0 : c = 0 <;> simp [hc0] <;> exact RR.sle _ _ _
        | sl z' n c B off es arr T fz hlen hn hzz hbk hs hA hc =>
          refine ⟨_, _, w, hE, run a w _ n c l h hev hl (by rw [hlen] at hh'; exact hh') g0 g1 (by omega), .refl w, .pure _ _ ?_⟩
          obtain ⟨ln, rfl⟩ : ∃ ln : Nat, l = ln := ⟨l.toNat, by omega⟩
          obtain ⟨hn', rfl⟩ : ∃ hn' : Nat, h = hn' := ⟨h.toNat, by omega⟩
          simp only [Int.toNat_natCast]
          by_cases hcl : c = ln
          · subst hcl
            simp only [if_true]
            have e0 : hn' - c = 0 := by omega
            rw [e0, Nat.sub_self, List.take_zero]
            exact .sl _ 0 0 B off [] arr T fz rfl (by omega) (by simp) hbk (by omega) (by simp) (by simp)
          · simp only [hcl, if_false, Option.map_some, add_mid]
            have hle : ln * z' + (hn' - ln) * z' ≤ n * z' := by
              rw [← Nat.add_mul]; exact Nat.mul_le_mul_right _ (by omega)
            refine .sl _ _ _ B (off + ln * z') _ arr T fz (by simp; omega) (by omega) (fun e he => hzz e (List.mem_of_mem_drop (List.mem_of_mem_take he))) hbk (by omega) (fun k hk => ?_) (fun i f e u he hf => ?_)
            · rw [Nat.add_assoc]; exact hA _ (by omega)
            · rw [List.getElem?_take] at he
              split at he
              case isFalse => cases he
              rw [List.getElem?_drop] at he
              have := hc _ f e u he hf
              rwa [show off + (ln + i) * z' + f = off + ln * z' + i * z' + f by rw [Nat.add_mul]; omega] at this
    · rename_i z' hb
      refine good_val' hd fun a w κ γ hh ht => ?_
      have hv := opd_rv hx ht; rw [hb] at hv
      obtain ⟨l, hE, hl⟩ := optB_run hE hlo ht
      obtain ⟨h, hE, hh'⟩ := optB_run hE hhi ht
      obtain ⟨rfl, rfl, hE⟩ := hE
      generalize hev : a.eval x = v at hv
      cases hv with
      | pure u v hr => cases hr
      | nil =>
        refine ⟨_, _, w, hE, run a w none 0 0 0 0 hev hl (by simpa using hh') (by omega) (by omega) (by simp), .refl w, ?_⟩
        simpa using RV.nil _
    · rename_i p off len hb
      obtain ⟨hsz, hE⟩ := hE
      refine good_val' hd fun a w κ γ hh ht => ?_
      have hv := opd_rv hx ht; rw [hb] at hv
      obtain ⟨l, hE, hl⟩ := optB_run hE hlo ht
      obtain ⟨h, hE, hh'⟩ := optB_run hE hhi ht
      obtain ⟨g0, g1, g2, hE⟩ := hE
      obtain ⟨ln, rfl⟩ : ∃ ln : Nat, l = ln := ⟨l.toNat, by omega⟩
      obtain ⟨hn', rfl⟩ : ∃ hn' : Nat, h = hn' := ⟨h.toNat, by omega⟩
      simp only [Int.toNat_natCast] at hE
      generalize hev : a.eval x = v at hv
      cases hv with
      | pure u v hr => cases hr
      | rf0 p z' off hk hc =>
        have e1 : ln = 0 := by omega
        have e2 : hn' = 0 := by omega
        subst e1; subst e2
        refine ⟨_, _, w, hE, run a w none 0 0 _ _ hev hl hh' g0 g1 (by simp), .refl w, ?_⟩
        simpa using RV.rf0 (w := w) (A := F.A) p z' _ hk hc
      | rfE p z' n c B o off o1 c1 hk hc q1 q2 q3 =>
        have e1 : ln = 0 := by omega
        have e2 : hn' = 0 := by omega
        subst e1; subst e2
        refine ⟨_, _, w, hE, run a w _ 0 c1 _ _ hev hl hh' g0 g1 (by simp), .refl w, ?_⟩
        have := RV.rfE (w := w) (A := F.A) p z' n c B o (off + 1) o1 c1 hk hc q1 q2 (by omega)
        simpa [add_mid, offE] using this
      | rf p z' n c B o off len hk hc hb' hn =>
        rw [hc] at hsz
        simp only [Option.map_some, Option.some.injEq] at hsz
        subst hsz
        refine ⟨_, _, w, hE, run a w _ len (c - off) _ _ hev hl hh' g0 g1 (by omega), .refl w, ?_⟩
        simp only [Int.toNat_natCast]
        by_cases hcl : c - off = ln
        · have e0 : hn' - ln = 0 := by omega
          rw [if_pos hcl, e0]
          refine .rfE p z' n c B o _ _ _ hk hc (by omega) ?_ (by simp [offE])
          rw [hcl, Nat.sub_self]
          have : off * z' ≤ c * z' := Nat.mul_le_mul_right _ (by omega)
          omega
        · rw [if_neg hcl]
          simp only [Option.map_some, add_mid]
          by_cases he : hn' - ln = 0
          · rw [he]
            refine .rfE p z' n c B o _ _ _ hk hc (by omega) ?_ (by simp [offE])
            have e1 : off * z' + ln * z' + (c - off - ln) * z' = (off + ln + (c - off - ln)) * z' := by rw [← Nat.add_mul, ← Nat.add_mul]
            have e2 : off + ln + (c - off - ln) = c := by omega
            rw [e2] at e1; omega
          · have := RV.rf (w := w) (A := F.A) p z' n c B o (off + ln) (hn' - ln) hk hc (by omega) hn
            rw [show o + (off + ln) * z' = o + off * z' + ln * z' by rw [Nat.add_mul]; omega, show c - (off + ln) = c - off - ln by omega] at this
            simpa [offE, he] using this
    · exact hE.elim
end
end Go.Proofs.YtloodkhdngipbaaT
