/- Texts of this session's own, one behind the other: TmAi. -/
import Derived.Test.YtmedelmfkciblaaPk14
import Derived.ChangeArms
import Derived.Deep.Slices
import Derived.DataReads
import Derived.Below
namespace Go.Proofs.YtmedelmfkciblaaT
set_option linter.unusedVariables false
set_option linter.unusedSimpArgs false
open Go
def AllA (w : World) : Nat → Nat → Prop := fun b _ => b < w.heap.size
structure OpT {α : Type} (P : Program) (t : TypeId) (z : Nat) (en : α → List TV) (B : α → Prop) : Prop where
 len : ∀ a, (en a).length = z
 op : ∀ {H : Type} (enc : TypeId × Value → H) (w : World) (base : Nat) (spare : Nat → Bool) (held : Bool) (fuel : Nat) (cs : List Value) (x : DataW H × List MemPlace), DataW.trod enc P w base spare held fuel t cs = some x →
  cs.length = z ∧ ∃ a, B a ∧ ∀ (f : Nat) (u : TV), (en a)[f]? = some u → RR w (AllA w) u ((cs[f]?).getD undef)
def BI (k : IntKind) (x : Int) : Prop := (Lit.int k x).wf = true
def BN {α : Type} (_ : α) : Prop := True
def BL {α : Type} (B : α → Prop) (l : List α) : Prop := l.length ≤ 9223372036854775807 ∧ ∀ x ∈ l, B x
namespace OpT
variable {P : Program}
theorem int {k : IntKind} {t : TypeId} (ht : P.underlying t = some (.int k)) : OpT P t 1 (fun n => [.i k n]) (BI k) := ⟨fun _ => rfl, fun enc w base spare held fuel cs x h => by
 obtain ⟨n, rfl, _, hw⟩ := DataW.trod_int ht h
 refine ⟨rfl, n, hw, fun f u hf => ?_⟩
 cases f <;> simp at hf; subst hf; exact .i k n⟩
theorem bool {t : TypeId} (ht : P.underlying t = some .bool) : OpT P t 1 (fun b => [.b b]) BN := ⟨fun _ => rfl, fun enc w base spare held fuel cs x h => by
 obtain ⟨b, rfl, _⟩ := DataW.trod_bool ht h
 refine ⟨rfl, b, trivial, fun f u hf => ?_⟩
 cases f <;> simp at hf; subst hf; exact .b b⟩
theorem slice {α : Type} {en : α → List TV} {t e : TypeId} {z : Nat} {B : α → Prop} (he : OpT P e z en B) (ht : P.underlying t = some (.slice e)) (hc : P.cellsOf e = z) (hz : 0 < z) :
  OpT P t 1 (fun l => [.sl false z (l.map en)]) (BL B) := ⟨fun _ => rfl, fun enc w base spare held fuel cs x h => by
 rcases Go.Deep.open_slice ht h with ⟨rfl, _⟩ | ⟨a, len, cap, m, n, D, Pl, rfl, hb, hl, hm, hmm, _, hi⟩
 ·refine ⟨rfl, [], by simp [BL], fun f u hf => ?_⟩
  cases f <;> simp at hf; subst hf; exact .sl0 z
 refine ⟨rfl, ?_⟩
 have hlm : len ≤ m := by rw [hmm]; split <;> omega
 rw [hc] at hi
 have key : ∀ i, i < len → ∃ a', B a' ∧ ∀ f u, (en a')[f]? = some u → ∃ v, w.cell? ((a.add (i * z)).add f) = some v ∧ RR w (AllA w) u v := by
  intro i hlt
  obtain ⟨cs', h1, h2⟩ := hi i (by omega)
  obtain ⟨hl', a', hB, hR⟩ := he.op enc w base spare held n cs' _ h2
  obtain ⟨_, hcl, hat⟩ := World.cells?_some h1
  refine ⟨a', hB, fun f u hf => ?_⟩
  have hfz : f < z := by have := (List.getElem?_eq_some_iff.1 hf).1; rw [he.len] at this; exact this
  have h3 := hat f hfz
  have h4 := hR f u hf
  rw [h3]
  have hfl : f < cs'.length := by omega
  rw [List.getElem?_eq_getElem hfl] at h4 ⊢
  exact ⟨_, rfl, h4⟩
 have key2 : ∀ L, L ≤ len → ∃ xs : List α, xs.length = L ∧ ∀ i y, xs[i]? = some y → B y ∧ ∀ f u, (en y)[f]? = some u → ∃ v, w.cell? ((a.add (i * z)).add f) = some v ∧ RR w (AllA w) u v := by
  intro L
  induction L with
  | zero => exact fun _ => ⟨[], rfl, fun i y h => by simp at h⟩
  | succ L ih =>
   intro hL
   obtain ⟨xs, hx, hp⟩ := ih (by omega)
   obtain ⟨y, hy⟩ := key L (by omega)
   refine ⟨xs ++ [y], by simp [hx], fun i z' hz' => ?_⟩
   rcases Nat.lt_or_ge i xs.length with h1 | h1
   ·rw [List.getElem?_append_left h1] at hz'
    exact hp i z' hz'
   ·have h2 : i = xs.length := by
     have := (List.getElem?_eq_some_iff.1 hz').1
     simp at this
     omega
    subst h2
    obtain rfl : y = z' := by simpa using hz'
    rw [hx]
    exact hy
 obtain ⟨xs, hx, hp⟩ := key2 len (Nat.le_refl _)
 have hm' : len ≤ 9223372036854775807 := by simp only [maxLen] at hm; omega
 refine ⟨xs, ⟨by omega, fun y hy => ?_⟩, fun f u hf => ?_⟩
 ·obtain ⟨i, hi2⟩ := List.mem_iff_getElem?.1 hy
  exact (hp i y hi2).1
 cases f <;> simp at hf
 subst hf
 simp only [List.getElem?_cons_zero, Option.getD_some]
 rcases Nat.eq_zero_or_pos len with h0 | h0
 ·subst h0
  obtain rfl : xs = [] := List.length_eq_zero_iff.1 hx
  exact .sle z cap a
 have cellAt : ∀ i, i < len → ∀ f, f < z → ∃ v, w.cell? ((a.add (i * z)).add f) = some v := by
  intro i hil f hf
  obtain ⟨y, hy⟩ : ∃ y, xs[i]? = some y := ⟨_, List.getElem?_eq_getElem (by omega)⟩
  obtain ⟨u, hu⟩ : ∃ u, (en y)[f]? = some u := ⟨_, List.getElem?_eq_getElem (by rw [he.len]; exact hf)⟩
  obtain ⟨v, hv, _⟩ := (hp i y hy).2 f u hu
  exact ⟨v, hv⟩
 obtain ⟨v0, hv0⟩ := cellAt 0 h0 0 hz
 have a0 : (a.add (0 * z)).add 0 = a := by simp [Addr.add]
 rw [a0] at hv0
 obtain ⟨bk, off, spot⟩ := a
 unfold World.cell? at hv0
 split at hv0
 case h_2 => cases hv0
 rename_i arr T fz hbk
 split at hv0
 case isTrue => cases hv0
 rename_i hsp
 obtain rfl : spot = none := by cases spot <;> simp_all
 have at_ : ∀ i f v, w.cell? (((⟨bk, off, none⟩ : Addr).add (i * z)).add f) = some v → arr[off + i * z + f]? = some v := by
  intro i f v h
  have : (((⟨bk, off, none⟩ : Addr).add (i * z)).add f) = ⟨bk, off + (i * z + f), none⟩ := by
   unfold Addr.add
   by_cases h1 : i * z = 0 <;> by_cases h2 : f = 0 <;> simp [h1, h2, Nat.add_assoc]
  rw [this] at h
  unfold World.cell? at h
  simp only at hbk
  simp only [hbk] at h
  rw [← Nat.add_assoc] at h
  simpa using h
 have hlast : off + len * z ≤ arr.size := by
  obtain ⟨v, hv⟩ := cellAt (len - 1) (by omega) (z - 1) (by omega)
  have h1 := at_ _ _ _ hv
  have h2 := (Array.getElem?_eq_some_iff.1 h1).1
  have h3 : len * z = (len - 1) * z + z := by
   have : len = (len - 1) + 1 := by omega
   rw [this, Nat.add_mul, Nat.one_mul]; simp
  omega
 refine .sl z len cap bk off _ arr T fz (by simpa using hx) hl (fun e he' => ?_) hbk hlast (fun k _ => (Array.getElem?_eq_some_iff.1 hbk).1) (fun i f e u hi' hf => ?_)
 ·obtain ⟨y, _, rfl⟩ := List.mem_map.1 he'; exact he.len y
 ·rw [List.getElem?_map] at hi'
  obtain ⟨y, hy, rfl⟩ := Option.map_eq_some_iff.1 hi'
  obtain ⟨v, hv, hr⟩ := (hp i y hy).2 f u hf
  rw [at_ i f v hv]; exact hr⟩
def Fs {α : Type} (P : Program) (z : Nat) (en : α → List TV) (fs : List Field) (off : Nat) (B : α → Prop) : Prop := (∀ a, (en a).length = z) ∧
 ∀ {H : Type} (enc : TypeId × Value → H) (w : World) (base : Nat) (spare : Nat → Bool) (held : Bool) (fuel : Nat) (cs : List Value), cs.length = z →
  (∀ (i : Nat) (f : Field), fs[i]? = some f → ∃ x, DataW.trod enc P w base spare held fuel f.type ((cs.drop (f.offset - off)).take (P.cellsOf f.type)) = some x) →
  ∃ a, B a ∧ ∀ (f : Nat) (u : TV), (en a)[f]? = some u → RR w (AllA w) u ((cs[f]?).getD undef)
theorem cons {α β : Type} {z z' : Nat} {en : α → List TV} {en' : β → List TV} {f : Field} {fs : List Field} {off : Nat} {B : α → Prop} {B' : β → Prop} (hf : OpT P f.type z en B) (ho : f.offset = off) (hc : P.cellsOf f.type = z) (hr : Fs P z' en' fs (off + z) B')
  (hfs : (fs.all fun g => decide (off + z ≤ g.offset)) = true) : Fs P (z + z') (fun p : α × β => en p.1 ++ en' p.2) (f :: fs) off (fun p => B p.1 ∧ B' p.2) := ⟨fun a => by simp [hf.len, hr.1], fun enc w base spare held fuel cs hl h => by
 obtain ⟨x, hx⟩ := h 0 f rfl
 rw [ho, Nat.sub_self, List.drop_zero, hc] at hx
 obtain ⟨_, a, hB, hK⟩ := hf.op enc w base spare held fuel _ x hx
 obtain ⟨b, hB', hK'⟩ := hr.2 enc w base spare held fuel (cs.drop z) (by rw [List.length_drop, hl]; omega) (fun i g hg => by
  obtain ⟨y, hy⟩ := h (i + 1) g hg
  refine ⟨y, ?_⟩
  have : off + z ≤ g.offset := of_decide_eq_true (List.all_eq_true.1 hfs g (List.mem_of_getElem? hg))
  rw [List.drop_drop, show z + (g.offset - (off + z)) = g.offset - off by omega]
  exact hy)
 refine ⟨(a, b), ⟨hB, hB'⟩, fun f u hu => ?_⟩
 have hlen := hf.len a
 rcases Nat.lt_or_ge f z with hlt | hge
 ·have hu : (en a ++ en' b)[f]? = some u := hu
  rw [List.getElem?_append_left (by omega)] at hu
  have := hK f u hu
  rwa [List.getElem?_take_of_lt hlt] at this
 ·have hu : (en a ++ en' b)[f]? = some u := hu
  rw [List.getElem?_append_right (by omega), hlen] at hu
  have := hK' (f - z) u hu
  rwa [List.getElem?_drop, show z + (f - z) = f by omega] at this⟩
end OpT
theorem OpT.arg1 {α : Type} {P : Program} {en : α → List TV} {t : TypeId} {B : α → Prop} (ho : OpT P t 1 en B) {H : Type} {enc : TypeId × Value → H} {w : World} {base : Nat} {spare : Nat → Bool} {held : Bool} {v : Value} {dt : DataW H} {p : List MemPlace}
  (h : DataW.Trod enc P w base spare held t v dt p) (hv : v.cells.toList = [v]) : ∃ a, B a ∧ RR w (AllA w) ((en a).headD .junk) v := by
 obtain ⟨fuel, hf⟩ := h
 obtain ⟨_, a, hB, hK⟩ := ho.op enc w base spare held fuel _ _ hf
 refine ⟨a, hB, ?_⟩
 have hl := ho.len a
 match hm : en a, hl with
 | [u], _ =>
  have := hK 0 u (by rw [hm]; rfl)
  rw [hv] at this
  exact this
theorem argsR_ro {w : World} {κ : Path → Value} {γ : Nat → Nat → Option Path} {A : Nat → Nat → Prop} {ms : List Mode} {args : List TV} {vs : List Value} (hm : ∀ m ∈ ms, m = .ro) (hl : ms.length = args.length) (hl2 : args.length = vs.length)
  (h : ∀ (j : Nat) (u : TV) (v : Value), args[j]? = some u → vs[j]? = some v → RV w κ (fun _ => []) A u v) : ArgsR w κ γ A ms args vs := by
 have hms : ∀ (j : Nat) (u : TV), args[j]? = some u → ms[j]? = some .ro := by
  intro j u hu
  have hj : j < ms.length := by rw [hl]; exact (List.getElem?_eq_some_iff.1 hu).1
  rw [List.getElem?_eq_getElem hj, hm _ (List.getElem_mem hj)]
 have own0 : ∀ (ms : List Mode) (us : List TV), (∀ m ∈ ms, m = .ro) → ownCells ms us = [] := by
  intro ms
  induction ms with
  | nil => intro us _; cases us <;> rfl
  | cons m ms ih =>
   intro us h
   obtain rfl := h m (by simp)
   cases us with
   | nil => rfl
   | cons u us => exact ih us fun m hm => h m (by simp [hm])
 have own1 : ∀ (ms : List Mode) (us : List Value), (∀ m ∈ ms, m = .ro) → ownVals ms us = [] := by
  intro ms
  induction ms with
  | nil => intro us _; cases us <;> rfl
  | cons m ms ih =>
   intro us h
   obtain rfl := h m (by simp)
   cases us with
   | nil => rfl
   | cons u us => exact ih us fun m hm => h m (by simp [hm])
 refine ⟨hl2, hl, fun j u v hj hu _ => absurd (hms j u hu) hj, fun j u v _ hu hv => h j u v hu hv, fun m c hc => ?_, fun m v hv => ?_⟩
 ·rw [own0 ms args hm] at hc; simp at hc
 ·rw [own1 ms vs hm] at hv; simp at hv
theorem law_calls {P : Program} {al : Bool} {g : FuncId} {ms : List Mode} {args : List TV} {outs : List (Option TV)} (hC : Contract P al g ms args [.b true] outs) {w : World} {vs : List Value} (hm : ∀ m ∈ ms, m = .ro) (hl : ms.length = args.length) (hl2 : args.length = vs.length)
  (h : ∀ (j : Nat) (u : TV) (v : Value), args[j]? = some u → vs[j]? = some v → RV w (fun _ => undef) (fun _ => []) (AllA w) u v) :
  Calls P g vs.toArray w fun e w' => e = .returned (.bool true) ∧ Go.RowKit.Below w.heap.size w w' := by
 refine Calls.mono (hC w vs (fun _ => undef) (fun _ _ => none) (AllA w) (argsR_ro hm hl hl2 h) (fun _ _ _ h => by cases h) (fun b o h => ⟨h, rfl⟩)) fun e w' he => ?_
 obtain ⟨rs, κ', γ', rfl, hR, _, _, hc⟩ := he
 have hrs : rs = [.bool true] := by
  have hl := hR.len
  match rs, hl with
  | [r], _ =>
   have h1 := hR.cell 0 (.b true) rfl
   have h2 := hR.ag 0 (.b true) r rfl rfl
   have h3 : (cellsV r).length = 1 := h2.2.symm
   have h4 : r = κ' [(0, 0)] := by
    have hv := hR.val 0
    cases r with
    | agg cs => have := h2.1; simp [isAg, isAgV] at this
    | _ => exact (hv _ rfl).symm
   rw [h4]
   generalize κ' [(0, 0)] = y at h1
   cases h1 with
   | pure _ _ _ h => cases h; rfl
 subst hrs
 refine ⟨rfl, hc.os, hc.tape, hc.output, hc.keep.size, fun k hk => ?_⟩
 cases hb : w.heap[k]? with
 | none => rw [Array.getElem?_eq_getElem hk] at hb; cases hb
 | some o =>
  by_cases hcell : ∃ (arr : Array Value) (T : TypeId) (fz : Nat × Nat), o = .cells arr T fz
  ·obtain ⟨arr, T, fz, rfl⟩ := hcell
   obtain ⟨arr', h1, h2, h3⟩ := hc.keep.cells k arr T fz hb
   rw [h1]
   have : arr' = arr := Array.ext_getElem? fun i => h3 i (by rintro ⟨q, hq⟩; cases hq)
   rw [this]
  ·exact hc.keep.rest k o hb fun arr T fz h => hcell ⟨arr, T, fz, h⟩
theorem fa_nil {R : TV → Value → Prop} : ∀ (j : Nat) (u : TV) (v : Value), ([] : List TV)[j]? = some u → ([] : List Value)[j]? = some v → R u v := fun j u v h => by simp at h
theorem fa_cons {R : TV → Value → Prop} {u0 : TV} {v0 : Value} {us : List TV} {vs : List Value} (h0 : R u0 v0) (h : ∀ (j : Nat) (u : TV) (v : Value), us[j]? = some u → vs[j]? = some v → R u v) :
  ∀ (j : Nat) (u : TV) (v : Value), (u0 :: us)[j]? = some u → (v0 :: vs)[j]? = some v → R u v := fun j u v hu hv => by
 cases j with
 | zero => simp only [List.getElem?_cons_zero, Option.some.injEq] at hu hv; subst hu; subst hv; exact h0
 | succ j => exact h j u v (by simpa using hu) (by simpa using hv)
end Go.Proofs.YtmedelmfkciblaaT

