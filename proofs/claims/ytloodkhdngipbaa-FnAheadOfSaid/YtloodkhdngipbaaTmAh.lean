/- TM, part Ah: rounds counted upwards; rows of plain kinds. -/
import Derived.Test.YtloodkhdngipbaaTmAg
namespace Go.Proofs.YtloodkhdngipbaaT
set_option linter.unusedVariables false
set_option linter.unusedSimpArgs false
open Go

section
variable {P : Program} {st : St} {root : Nat} {K : Eff → Prop} {E : Eff}
theorem binT_mono {op : BinOp} {x y : TV} {K : TV → Prop} {v : TV} (h : binT op x y (· = v)) (hK : K v) : binT op x y K := by
  unfold binT at h ⊢
  split at h
  · cases op <;> simp only at h ⊢ <;> first
      | (obtain ⟨h1, h2, rfl⟩ := h; exact ⟨h1, h2, hK⟩)
      | (obtain ⟨h1, rfl⟩ := h; exact ⟨h1, hK⟩)
  · cases op <;> simp only at h ⊢ <;> first
      | (obtain ⟨h1, rfl⟩ := h; exact ⟨h1, hK⟩)
      | (subst h; exact hK)
      | exact h.elim
  · cases op <;> simp only at h ⊢ <;> first
      | (subst h; exact hK)
      | exact h.elim
  · exact h.elim
theorem callW_mono {g : FuncId} {as : List (TV × Nat)} (h : callW P st root g as (· = E)) (hK : K E) : callW P st root g as K := by
  obtain ⟨al, ms, args, res, outs, hc, hr1, hr2, tk, H1, ds, ps, ro, h1, h2, h3, h4, h5⟩ := h
  subst h5
  exact ⟨al, ms, args, res, outs, hc, hr1, hr2, tk, H1, ds, ps, ro, h1, h2, h3, h4, hK⟩
theorem opW_mono {op : TOp} (h : opW P st root op (· = E)) (hK : K E) : opW P st root op K := by
  cases op with
  | call g args => exact callW_mono h hK
  | callv f args =>
    simp only [opW] at h ⊢
    split at h
    · exact ⟨h.1, callW_mono h.2 hK⟩
    · exact h.elim
  | bin o x y =>
    simp only [opW] at h ⊢
    obtain ⟨v, h1, h2⟩ := binT_one h
    subst h2
    exact binT_mono h1 hK
  | slice str z x lo hi =>
    cases str with
    | true =>
      simp only [opW] at h ⊢
      split at h
      case h_2 => exact h.elim
      obtain ⟨l, _, h, hl⟩ := optB_one h
      obtain ⟨u, _, h, hu⟩ := optB_one h
      refine hl _ (hu _ ⟨h.1, h.2.1, h.2.2.1, ?_⟩)
      rw [h.2.2.2]; exact hK
    | false =>
      simp only [opW] at h ⊢
      split at h
      · obtain ⟨hz, h⟩ := h
        obtain ⟨l, _, h, hl⟩ := optB_one h
        obtain ⟨u, _, h, hu⟩ := optB_one h
        refine ⟨hz, hl _ (hu _ ⟨h.1, h.2.1, h.2.2.1, ?_⟩)⟩
        rw [h.2.2.2]; exact hK
      · obtain ⟨l, _, h, hl⟩ := optB_one h
        obtain ⟨u, _, h, hu⟩ := optB_one h
        refine hl _ (hu _ ⟨h.1, h.2.1, ?_⟩)
        rw [h.2.2]; exact hK
      · obtain ⟨hz, h⟩ := h
        obtain ⟨l, _, h, hl⟩ := optB_one h
        obtain ⟨u, _, h, hu⟩ := optB_one h
        refine ⟨hz, hl _ (hu _ ⟨h.1, h.2.1, h.2.2.1, ?_⟩)⟩
        rw [h.2.2.2]; exact hK
      · exact h.elim
  | load g n a =>
    simp only [opW] at h ⊢
    split at h
    · split at h
      · obtain ⟨h1, h⟩ := h
        refine ⟨h1, ?_⟩
        cases g with
        | true => simp only [if_true] at h ⊢; rw [h]; exact hK
        | false => simp only [Bool.false_eq_true, if_false] at h ⊢; refine ⟨h.1, ?_⟩; rw [h.2]; exact hK
      · exact h.elim
    · obtain ⟨h1, h⟩ := h
      refine ⟨h1, ?_⟩
      cases g with
      | true => simp only [if_true] at h ⊢; rw [h]; exact hK
      | false => simp only [Bool.false_eq_true, if_false] at h ⊢; refine ⟨h.1, ?_⟩; rw [h.2]; exact hK
    · exact h.elim
  | fld g off n x =>
    simp only [opW] at h ⊢
    split at h
    · obtain ⟨h1, h⟩ := h
      refine ⟨h1, ?_⟩
      cases g with
      | true => simp only [if_true] at h ⊢; rw [h]; exact hK
      | false => simp only [Bool.false_eq_true, if_false] at h ⊢; refine ⟨h.1, ?_⟩; rw [h.2]; exact hK
    · exact h.elim
  | pick c a b =>
    simp only [opW] at h ⊢
    split at h
    · subst h; exact hK
    · exact h.elim
  | maxi x y =>
    simp only [opW] at h ⊢
    split at h
    · subst h; exact hK
    · exact h.elim
  | box n x =>
    simp only [opW] at h ⊢
    split at h
    · obtain ⟨h1, h2, h3, rfl⟩ := h; exact ⟨h1, h2, h3, hK⟩
    · exact h.elim
  | bslice z len zero parts =>
    simp only [opW] at h ⊢
    split at h
    · split at h
      · obtain ⟨h1, h2, h3, rfl⟩ := h; exact ⟨h1, h2, h3, hK⟩
      · exact h.elim
    · exact h.elim
  | app z bytes s x =>
    simp only [opW] at h ⊢
    split at h
    · split at h
      · obtain ⟨h1, h2, h3, h4, h5, rfl⟩ := h; exact ⟨h1, h2, h3, h4, h5, hK⟩
      · exact h.elim
    · exact h.elim
  | _ =>
    simp only [opW] at h ⊢
    repeat' split at h
    all_goals first
      | exact h.elim
      | (subst h; exact hK)
      | (obtain ⟨h1, rfl⟩ := h; exact ⟨h1, hK⟩)
      | (obtain ⟨h1, h2, rfl⟩ := h; exact ⟨h1, h2, hK⟩)
      | (obtain ⟨h1, h2, h3, rfl⟩ := h; exact ⟨h1, h2, h3, hK⟩)
      | (obtain ⟨h1, h2, h3, h4, rfl⟩ := h; exact ⟨h1, h2, h3, h4, hK⟩)
      | (obtain ⟨h1, h2, h3, h4, h5, rfl⟩ := h; exact ⟨h1, h2, h3, h4, h5, hK⟩)
      | (obtain ⟨h1, h2, h3, h4, h5, h6, rfl⟩ := h; exact ⟨h1, h2, h3, h4, h5, h6, hK⟩)
      | (obtain ⟨h1, h2, h3, h4, h5, h6, h7, rfl⟩ := h; exact ⟨h1, h2, h3, h4, h5, h6, h7, hK⟩)
end

section
variable {P : Program} {TQ : TExit → St → Prop}
/-- Rounds, counted upwards to N. -/
def forK (I : Nat → St → Prop) (rs : List Nat) (N j : Nat) (TQ : TExit → St → Prop) : TExit → St → Prop := fun e s' => match e with | .normal => j < N ∧ I (j + 1) (s'.drop rs) | e => TQ e s'
@[simp] theorem forK_n (I : Nat → St → Prop) (rs : List Nat) (N j : Nat) (s : St) : forK I rs N j TQ .normal s = (j < N ∧ I (j + 1) (s.drop rs)) := nrfl rfl
@[simp] theorem forK_e (I : Nat → St → Prop) (rs : List Nat) (N j i : Nat) (s : St) : forK I rs N j TQ (.exit i) s = TQ (.exit i) s := nrfl rfl
@[simp] theorem forK_r (I : Nat → St → Prop) (rs : List Nat) (N j : Nat) (s : St) : forK I rs N j TQ .ret s = TQ .ret s := nrfl rfl
theorem twp_forR {a : TCode} {st : St} (N : Nat) (I : Nat → St → Prop) (rs : List Nat) (mv : List (Nat × Nat)) (h0 : 0 ∉ rs) (hm : renOk (st.drop rs) mv) (hi : I 0 ((st.drop rs).rens mv)) (h : ∀ j s, j ≤ N → I j s → twp P a (forK I rs N j TQ) s) : twp P (.loop a) TQ st := by
  have mono : ∀ (a : TCode) (Q Q' : TExit → St → Prop) (s : St), (∀ e s, Q e s → Q' e s) → twp P a Q s → twp P a Q' s := by
    intro a
    induction a with
    | skip => intro Q Q' s h h1; exact h _ _ h1
    | ops l =>
      intro Q Q' s h h1
      simp only [twp] at h1 ⊢
      induction l generalizing s with
      | nil => exact h _ _ h1
      | cons o os ih =>
        simp only [opsW] at h1 ⊢
        have key : ∀ b, ((b = true → opW P s o.root o.op fun E => opsW P os (s.put o.dst E) (Q .normal)) ∧ (b = false → opsW P os (s.undef o.dst) (Q .normal))) →
            ((b = true → opW P s o.root o.op fun E => opsW P os (s.put o.dst E) (Q' .normal)) ∧ (b = false → opsW P os (s.undef o.dst) (Q' .normal))) := by
          rintro b ⟨h2, h3⟩
          refine ⟨fun hb => ?_, fun hb => ih _ (h3 hb)⟩
          obtain ⟨E, h4, h5⟩ := opW_one (h2 hb)
          exact opW_mono h4 (ih _ h5)
        cases hg : o.guard with
        | none => rw [hg] at h1; exact key true h1
        | some tw =>
          obtain ⟨t, w⟩ := tw
          rw [hg] at h1
          simp only [wantW] at h1 ⊢
          split at h1
          case h_2 => exact h1.elim
          rename_i x hx
          exact key _ h1
    | draw l =>
      intro Q Q' s h h1
      simp only [twp] at h1 ⊢
      generalize ([] : List Foot) = fs at h1 ⊢
      induction l generalizing s fs with
      | nil => exact h _ _ h1
      | cons o os ih =>
        simp only [drawW] at h1 ⊢
        have key : ∀ b, ((b = true → opW P s o.root o.op fun E => chk fs o.free (footOf s o E) = true ∧ drawW P os (fs ++ [footOf s o E]) (s.put o.dst E) (Q .normal)) ∧ (b = false → chk fs o.free (foot0 o) = true ∧ drawW P os (fs ++ [foot0 o]) (s.undef o.dst) (Q .normal))) →
            ((b = true → opW P s o.root o.op fun E => chk fs o.free (footOf s o E) = true ∧ drawW P os (fs ++ [footOf s o E]) (s.put o.dst E) (Q' .normal)) ∧ (b = false → chk fs o.free (foot0 o) = true ∧ drawW P os (fs ++ [foot0 o]) (s.undef o.dst) (Q' .normal))) := by
          rintro b ⟨h2, h3⟩
          refine ⟨fun hb => ?_, fun hb => ⟨(h3 hb).1, ih _ _ (h3 hb).2⟩⟩
          obtain ⟨E, h4, h5, h6⟩ := opW_one (h2 hb)
          exact opW_mono h4 ⟨h5, ih _ _ h6⟩
        cases hg : o.guard with
        | none => rw [hg] at h1; exact key true h1
        | some tw =>
          obtain ⟨t, w⟩ := tw
          rw [hg] at h1
          simp only [wantW] at h1 ⊢
          split at h1
          case h_2 => exact h1.elim
          exact key _ h1
    | seq a b iha ihb =>
      intro Q Q' s h h1
      refine iha _ _ s (fun e s h2 => ?_) h1
      cases e with
      | normal => exact ihb _ _ s h h2
      | exit i => exact h _ _ h2
      | ret => exact h _ _ h2
    | cond c a b iha ihb =>
      intro Q Q' s h h1
      simp only [twp] at h1 ⊢
      split at h1
      case h_2 => exact h1.elim
      exact ⟨fun hx => iha _ _ s h (h1.1 hx), fun hx => ihb _ _ s h (h1.2 hx)⟩
    | block id a ih =>
      intro Q Q' s h h1
      refine ih _ _ s (fun e s h2 => ?_) h1
      cases e with
      | normal => exact h _ _ h2
      | ret => exact h _ _ h2
      | exit i =>
        simp only at h2 ⊢
        split <;> rename_i hi
        · rw [if_pos hi] at h2; exact h _ _ h2
        · rw [if_neg hi] at h2; exact h _ _ h2
    | loop a ih =>
      intro Q Q' s h h1
      obtain ⟨I, rs, mv, h0, hm, hi, hr⟩ := h1
      refine ⟨I, rs, mv, h0, hm, hi, fun n s hs => ih _ _ s (fun e s h2 => ?_) (hr n s hs)⟩
      cases e with
      | normal => exact h2
      | exit i => exact h _ _ h2
      | ret => exact h _ _ h2
    | exit i => intro Q Q' s h h1; exact h _ _ h1
    | ret => intro Q Q' s h h1; exact h _ _ h1
  refine twp_loopR (fun n s => ∃ j, j ≤ N ∧ n = N - j ∧ I j s) rs mv h0 hm N ⟨0, by omega, by omega, hi⟩ ?_
  rintro n s ⟨j, hj, rfl, hI⟩
  refine mono _ _ _ s (fun e s h2 => ?_) (h j s hj hI)
  cases e with
  | normal => exact ⟨N - (j + 1), by have := h2.1; omega, j + 1, by have := h2.1; omega, rfl, h2.2⟩
  | exit i => exact h2
  | ret => exact h2
theorem twp_for {a : TCode} {st : St} (N : Nat) (I : Nat → St → Prop) (rs : List Nat) (h0 : 0 ∉ rs) (hi : I 0 (st.drop rs)) (h : ∀ j s, j ≤ N → I j s → twp P a (forK I rs N j TQ) s) : twp P (.loop a) TQ st :=
  twp_forR N I rs [] h0 trivial hi h
end

theorem guard_cases {P : Program} {o : TOper} {os : List TOper} {st : St} {Q : St → Prop} {w x : Bool} (h1 : x = true → guardS P o os st Q w true) (h2 : x = false → guardS P o os st Q w false) : guardS P o os st Q w x := by
  cases x
  · exact h2 rfl
  · exact h1 rfl
theorem guardD_cases {P : Program} {o : TOper} {os : List TOper} {fs : List Foot} {st : St} {Q : St → Prop} {w x : Bool} (h1 : x = true → guardD P o os fs st Q w true) (h2 : x = false → guardD P o os fs st Q w false) : guardD P o os fs st Q w x := by
  cases x
  · exact h2 rfl
  · exact h1 rfl

attribute [simp] putParts putElems fitB chunk fz fzL fzLL
def srcV (H : Hp) (p : Path) (off len : Nat) : Option TV → Option (Nat × List (List TV) × Hp × List Path)
  | some (.sl true z es) => if ((es.drop off).take len).all (·.all noref) then some (z, (es.drop off).take len, H, []) else (takeRows p off ((es.drop off).take len) H).map fun x => (z, x)
  | _ => none
@[simp] theorem srcT_rf (H : Hp) (p : Path) (off len : Nat) : srcT H (.rf p off len) = srcV H p off len (cellAt H p) := by unfold srcV; simp only [srcT]; rfl
@[simp] theorem srcV_s (H : Hp) (p : Path) (off len z : Nat) (es : List (List TV)) : srcV H p off len (some (.sl true z es)) = if ((es.drop off).take len).all (·.all noref) then some (z, (es.drop off).take len, H, []) else (takeRows p off ((es.drop off).take len) H).map fun x => (z, x) := nrfl rfl
@[simp] theorem srcT_n (H : Hp) (z : Nat) : srcT H (.sl true z []) = some (z, [], H, []) := nrfl rfl
@[simp] theorem srcT_r0 (H : Hp) (z : Nat) : srcT H (.sl false z []) = some (z, [], H, []) := nrfl rfl

/-! rows of plain kinds -/
@[simp] def iT (n : Int) : List TV := [.i .i64 n]
@[simp] def bT (b : Bool) : List TV := [.b b]
@[simp] theorem fzL_iT (n : Int) : fzL (iT n) = iT n := rfl
@[simp] theorem fzL_bT (n : Bool) : fzL (bT n) = bT n := rfl
theorem fzLL_map {α : Type} {f : α → List TV} (h : ∀ x, fzL (f x) = f x) (l : List α) : fzLL (l.map f) = l.map f := by
  induction l with
  | nil => rfl
  | cons a l ih => simp [fzLL, h, ih]
@[simp] theorem fzLL_iT (l : List Int) : fzLL (l.map iT) = l.map iT := fzLL_map fzL_iT l
@[simp] theorem fzLL_bT (l : List Bool) : fzLL (l.map bT) = l.map bT := fzLL_map fzL_bT l
theorem noref_map {α : Type} {f : α → List TV} (h : ∀ x, (f x).all noref = true) (l : List α) : (l.map f).all (·.all noref) = true := by
  induction l with
  | nil => rfl
  | cons a l ih => simp only [List.map_cons, List.all_cons, h, ih, Bool.and_self]
theorem noROLL_map {α : Type} {f : α → List TV} (h : ∀ x, noROL (f x) = true) (l : List α) : noROLL (l.map f) = true := by
  induction l with
  | nil => rfl
  | cons a l ih => simp [noROLL, h, ih]
@[simp] theorem noROLL_iT (l : List Int) : noROLL (l.map iT) = true := noROLL_map (fun _ => rfl) l
@[simp] theorem noROLL_bT (l : List Bool) : noROLL (l.map bT) = true := noROLL_map (fun _ => rfl) l
@[simp] theorem noref_iT (l : List Int) : (l.map iT).all (·.all noref) = true := noref_map (fun _ => rfl) l
@[simp] theorem srcT_iT (H : Hp) (z : Nat) (l : List Int) : srcT H (.sl false z (l.map iT)) = some (z, l.map iT, H, []) := by simp only [srcT, noref_iT, if_true]
@[simp] theorem mapO_iT (o : Option Int) (n : Int) (h : o = some n) : o.map iT = some [.i .i64 n] := by rw [h]; rfl
theorem wrap_id {n : Int} (h1 : -2^63 ≤ n) (h2 : n < 2^63) : IntKind.i64.wrap n = n := by rw [IntKind.wrap_i64]; omega
@[simp] theorem take_map_self {α β : Type} (f : α → β) (l : List α) : List.take l.length (List.map f l) = List.map f l := by
  rw [List.take_of_length_le]; simp
attribute [simp] zeroOk noref norefL drop_nf

theorem fill_modify {L : List (List TV)} {z : List TV} {φ : List TV → List TV} {j N : Nat} (hN : L.length = N) (h : L[j]? = some (φ z)) :
    (L.take j ++ List.replicate (N - j) z).modify j φ = L.take (j + 1) ++ List.replicate (N - (j + 1)) z := by
  subst hN
  have hj : j < L.length := (List.getElem?_eq_some_iff.1 h).1
  apply List.ext_getElem?
  intro i
  rw [List.getElem?_modify]
  rcases Nat.lt_trichotomy i j with hi | hi | hi
  · rw [List.getElem?_append_left (by simp; omega), List.getElem?_append_left (by simp; omega), List.getElem?_take_of_lt hi, List.getElem?_take_of_lt (by omega)]
    simp [show ¬ j = i by omega]
  · subst hi
    rw [List.getElem?_append_right (by simp; omega), List.getElem?_append_left (by simp; omega), List.getElem?_take_of_lt (by omega), h]
    simp only [List.length_take, Nat.min_eq_left (Nat.le_of_lt hj), Nat.sub_self, List.getElem?_replicate]
    simp [show 0 < L.length - i by omega]
  · rw [List.getElem?_append_right (by simp; omega), List.getElem?_append_right (by simp; omega)]
    simp only [List.length_take, List.getElem?_replicate]
    simp only [show ¬ j = i by omega, if_false]
    have e1 : (i - min j L.length < L.length - j) ↔ (i - min (j + 1) L.length < L.length - (j + 1)) := by omega
    simp [e1]
@[simp] theorem fzL_nil : fzL [] = [] := rfl

theorem fill_get {L : List (List TV)} {z : List TV} {j N : Nat} (hN : L.length = N) (hj : j < N) : (L.take j ++ List.replicate (N - j) z)[j]? = some z := by
  rw [List.getElem?_append_right (by simp; omega)]
  simp only [List.length_take, hN, Nat.min_eq_left (Nat.le_of_lt hj), Nat.sub_self, List.getElem?_replicate]
  simp [show 0 < N - j by omega]
def rowOkV (m : Nat) : Option (List TV) → Prop
  | some cs => m ≤ cs.length
  | none => False
@[simp] theorem rowOk_lk (hs : HL) (p : Path) (i m : Nat) : rowOk (lk hs) p i m = rowOkV m (rowAt (lk hs) p i) := by unfold rowOk rowOkV; cases rowAt (lk hs) p i <;> rfl
@[simp] theorem rowOkV_s (m : Nat) (cs : List TV) : rowOkV m (some cs) = (m ≤ cs.length) := rfl
theorem get_some {α : Type} {l : List α} {j : Nat} (h : j < l.length) : ∃ x, l[j]? = some x := ⟨l[j], by simp [h]⟩
/-- Row j of what is half done. -/
theorem upd_get {A L : List (List TV)} {x : List TV} {j : Nat} (hA : A.length = j) (hx : L[j]? = some x) : (A ++ L.drop j)[j]? = some x := by
  rw [List.getElem?_append_right (by omega), hA, Nat.sub_self, List.getElem?_drop]; simpa using hx
theorem upd_modify {A L : List (List TV)} {x : List TV} {φ : List TV → List TV} {j : Nat} (hA : A.length = j) (hx : L[j]? = some x) : (A ++ L.drop j).modify j φ = A ++ φ x :: L.drop (j + 1) := by
  have hj : j < L.length := (List.getElem?_eq_some_iff.1 hx).1
  have hd : L.drop j = x :: L.drop (j + 1) := by
    rw [List.drop_eq_getElem_cons hj, (List.getElem?_eq_some_iff.1 hx).2]
  rw [hd]
  apply List.ext_getElem?
  intro i
  rw [List.getElem?_modify]
  rcases Nat.lt_trichotomy i j with hi | hi | hi
  · rw [List.getElem?_append_left (by omega), List.getElem?_append_left (by omega)]
    simp [show ¬ j = i by omega]
  · subst hi
    rw [List.getElem?_append_right (by omega), List.getElem?_append_right (by omega)]
    simp [hA]
  · rw [List.getElem?_append_right (by omega), List.getElem?_append_right (by omega)]
    obtain ⟨m, hm⟩ : ∃ m, i - A.length = m + 1 := ⟨i - A.length - 1, by omega⟩
    simp [show ¬ j = i by omega, hm]

/-- Counted upwards from k. -/
def cnt (k : Int) : Nat → List Int
  | 0 => []
  | n + 1 => cnt k n ++ [k + n]
@[simp] theorem cnt_len (k : Int) (n : Nat) : (cnt k n).length = n := by induction n with
  | zero => rfl
  | succ n ih => simp [cnt, ih]
theorem cnt_get (k : Int) {n j : Nat} (h : j < n) : (cnt k n)[j]? = some (k + j) := by
  induction n with
  | zero => omega
  | succ n ih =>
    simp only [cnt]
    rcases Nat.lt_or_ge j n with h' | h'
    · rw [List.getElem?_append_left (by simpa using h')]; exact ih h'
    · obtain rfl : j = n := by omega
      rw [List.getElem?_append_right (by simp)]; simp
@[simp] theorem cnt_zero (k : Int) : cnt k 0 = [] := rfl
theorem modify_map {α : Type} {f : α → List TV} {φ : List TV → List TV} {g : α → α} (h : ∀ x, φ (f x) = f (g x)) : ∀ (l : List α) (i : Nat), (l.map f).modify i φ = (l.modify i g).map f
  | [], i => by cases i <;> rfl
  | a :: l, 0 => by simp [h]
  | a :: l, i + 1 => by simp [modify_map h l i]
theorem modify_set {α : Type} (y : α) : ∀ (l : List α) (i : Nat), l.modify i (fun _ => y) = l.set i y
  | [], i => by cases i <;> rfl
  | a :: l, 0 => rfl
  | a :: l, i + 1 => by simp [modify_set y l i]
@[simp] theorem modify_iT (l : List Int) (i : Nat) (y : Int) : (l.map iT).modify i (fun e => e.modify 0 fun _ => .i .i64 y) = (l.set i y).map iT := by
  rw [modify_map (g := fun _ => y) (fun _ => rfl), modify_set]
@[simp] theorem modify_bT (l : List Bool) (i : Nat) (y : Bool) : (l.map bT).modify i (fun e => e.modify 0 fun _ => .b y) = (l.set i y).map bT := by
  rw [modify_map (g := fun _ => y) (fun _ => rfl), modify_set]
theorem noROLL_all (es : List (List TV)) : noROLL es = es.all (fun e => noROL e) := by
  induction es with
  | nil => rfl
  | cons e es ih => simp [noROLL, ih]
@[simp] theorem noROLL_app (a b : List (List TV)) : noROLL (a ++ b) = (noROLL a && noROLL b) := by simp only [noROLL_all, List.all_append]
theorem fzLL_eqm (es : List (List TV)) : fzLL es = es.map fzL := by
  induction es with
  | nil => rfl
  | cons e es ih => simp [fzLL, ih]
@[simp] theorem fzLL_app (a b : List (List TV)) : fzLL (a ++ b) = fzLL a ++ fzLL b := by simp only [fzLL_eqm, List.map_append]
@[simp] theorem fzLL_set (a : List (List TV)) (i : Nat) (e : List TV) : fzLL (a.set i e) = (fzLL a).set i (fzL e) := by simp only [fzLL_eqm, List.map_set]
theorem all_set {α : Type} {p : α → Bool} {l : List α} {i : Nat} {e : α} (h : l.all p = true) (he : p e = true) : (l.set i e).all p = true := by
  rw [List.all_eq_true] at h ⊢
  intro x hx
  rcases List.mem_or_eq_of_mem_set hx with hx | rfl
  · exact h x hx
  · exact he
@[simp] theorem noROLL_set {a : List (List TV)} {i : Nat} {e : List TV} (h : noROLL a = true) (he : noROL e = true) : noROLL (a.set i e) = true := by
  rw [noROLL_all] at h ⊢; exact all_set h he
@[simp] theorem noref_set {a : List (List TV)} {i : Nat} {e : List TV} (h : a.all (·.all noref) = true) (he : e.all noref = true) : (a.set i e).all (·.all noref) = true := all_set h he
@[simp] theorem modify_set_self {α : Type} (l : List α) (i : Nat) (e : α) (φ : α → α) : (l.set i e).modify i φ = l.set i (φ e) := by
  apply List.ext_getElem?; intro j
  rw [List.getElem?_modify, List.getElem?_set, List.getElem?_set]
  by_cases h : i = j
  · subst h; by_cases h2 : i < l.length <;> simp [h2]
  · simp [h]
theorem rep_bT (n : Nat) (x : Bool) : List.replicate n [TV.b x] = (List.replicate n x).map bT := by simp [bT]
theorem rep_iT (n : Nat) (x : Int) : List.replicate n [TV.i .i64 x] = (List.replicate n x).map iT := by simp [iT]
theorem Contract.t {P : Program} {al : Bool} {g : FuncId} {ms : List Mode} {args : List TV} {outs : List (Option TV)} {p : Prop} [Decidable p] (h : Contract P al g ms args [.b (decide p)] outs) (hp : p) : Contract P al g ms args [.b true] outs := by
  simpa [hp] using h
theorem Contract.f {P : Program} {al : Bool} {g : FuncId} {ms : List Mode} {args : List TV} {outs : List (Option TV)} {p : Prop} [Decidable p] (h : Contract P al g ms args [.b (decide p)] outs) (hp : ¬ p) : Contract P al g ms args [.b false] outs := by
  simpa [hp] using h
attribute [simp] List.take_of_length_le
theorem bT_false : [TV.b false] = bT false := rfl
theorem take_snoc {α : Type} {l : List α} {j : Nat} {x : α} (h : l[j]? = some x) : l.take (j + 1) = l.take j ++ [x] := by
  rw [List.take_add_one, h]; rfl
@[simp] theorem range_5 : List.range 5 = [0, 1, 2, 3, 4] := rfl
@[simp] theorem range_6 : List.range 6 = [0, 1, 2, 3, 4, 5] := rfl
@[simp] theorem range_7 : List.range 7 = [0, 1, 2, 3, 4, 5, 6] := rfl
@[simp] theorem range_8 : List.range 8 = [0, 1, 2, 3, 4, 5, 6, 7] := rfl
@[simp] theorem range_9 : List.range 9 = [0, 1, 2, 3, 4, 5, 6, 7, 8] := rfl
@[simp] theorem range_10 : List.range 10 = [0, 1, 2, 3, 4, 5, 6, 7, 8, 9] := rfl
@[simp] theorem range_11 : List.range 11 = [0, 1, 2, 3, 4, 5, 6, 7, 8, 9, 10] := rfl
@[simp] theorem range_12 : List.range 12 = [0, 1, 2, 3, 4, 5, 6, 7, 8, 9, 10, 11] := rfl
@[simp] theorem range_13 : List.range 13 = [0, 1, 2, 3, 4, 5, 6, 7, 8, 9, 10, 11, 12] := rfl
@[simp] theorem range_14 : List.range 14 = [0, 1, 2, 3, 4, 5, 6, 7, 8, 9, 10, 11, 12, 13] := rfl
@[simp] theorem range_15 : List.range 15 = [0, 1, 2, 3, 4, 5, 6, 7, 8, 9, 10, 11, 12, 13, 14] := rfl
@[simp] theorem range_16 : List.range 16 = [0, 1, 2, 3, 4, 5, 6, 7, 8, 9, 10, 11, 12, 13, 14, 15] := rfl
@[simp] theorem range_17 : List.range 17 = [0, 1, 2, 3, 4, 5, 6, 7, 8, 9, 10, 11, 12, 13, 14, 15, 16] := rfl
@[simp] theorem range_18 : List.range 18 = [0, 1, 2, 3, 4, 5, 6, 7, 8, 9, 10, 11, 12, 13, 14, 15, 16, 17] := rfl
@[simp] theorem range_19 : List.range 19 = [0, 1, 2, 3, 4, 5, 6, 7, 8, 9, 10, 11, 12, 13, 14, 15, 16, 17, 18] := rfl
@[simp] theorem range_20 : List.range 20 = [0, 1, 2, 3, 4, 5, 6, 7, 8, 9, 10, 11, 12, 13, 14, 15, 16, 17, 18, 19] := rfl
/-! rows of any kind -/
@[simp] theorem modify_mid {α : Type} {A B : List α} {y : α} {j : Nat} {φ : α → α} (h : A.length = j) : (A ++ y :: B).modify j φ = A ++ φ y :: B := by
  subst h
  induction A with
  | nil => rfl
  | cons a A ih => simp [ih]
@[simp] theorem get_mid {α : Type} {A B : List α} {y : α} {j : Nat} (h : A.length = j) : (A ++ y :: B)[j]? = some y := by
  subst h; simp
theorem drop_at {α β : Type} {f : α → β} {l : List α} {j : Nat} {x : α} (h : l[j]? = some x) : (l.map f).drop j = f x :: (l.map f).drop (j + 1) := by
  have hj := (List.getElem?_eq_some_iff.1 h).1
  have hx := (List.getElem?_eq_some_iff.1 h).2
  rw [List.drop_eq_getElem_cons (by simpa using hj)]
  simp [hx]
theorem rep_at {α : Type} {z : α} {n j : Nat} (h : j < n) : List.replicate (n - j) z = z :: List.replicate (n - (j + 1)) z := by
  rw [show n - j = (n - (j + 1)) + 1 by omega, List.replicate_succ]
theorem mapsnoc {α β : Type} {f : α → β} {l : List α} {j : Nat} {x : α} (h : l[j]? = some x) : (l.map f).take (j + 1) = (l.map f).take j ++ [f x] := by
  rw [← List.map_take, ← List.map_take, take_snoc h]; simp
/-- Counted upwards from k, by m. -/
def mkL {α : Type} (m : Int) (f : Int → α) (k : Int) : Nat → List α
  | 0 => []
  | n + 1 => mkL m f k n ++ [f (k + m * n)]
@[simp] theorem mkL_len {α : Type} (m : Int) (f : Int → α) (k : Int) (n : Nat) : (mkL m f k n).length = n := by induction n with
  | zero => rfl
  | succ n ih => simp [mkL, ih]
theorem mkL_get {α : Type} (m : Int) (f : Int → α) (k : Int) {n j : Nat} (h : j < n) : (mkL m f k n)[j]? = some (f (k + m * j)) := by
  induction n with
  | zero => omega
  | succ n ih =>
    simp only [mkL]
    rcases Nat.lt_or_ge j n with h' | h'
    · rw [List.getElem?_append_left (by simpa using h')]; exact ih h'
    · obtain rfl : j = n := by omega
      rw [List.getElem?_append_right (by simp)]; simp
@[simp] theorem mkL_zero {α : Type} (m : Int) (f : Int → α) (k : Int) : mkL m f k 0 = [] := rfl
@[simp] theorem mkL_succ {α : Type} (m : Int) (f : Int → α) (k : Int) (n : Nat) : mkL m f k (n + 1) = mkL m f k n ++ [f (k + m * n)] := rfl
theorem mapmkL {α β : Type} (g : α → β) (m : Int) (f : Int → α) (k : Int) (n : Nat) : (mkL m f k n).map g = mkL m (fun x => g (f x)) k n := by
  induction n with
  | zero => rfl
  | succ n ih => simp [ih]
end Go.Proofs.YtloodkhdngipbaaT
