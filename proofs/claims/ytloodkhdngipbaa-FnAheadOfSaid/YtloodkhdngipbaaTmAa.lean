/- TM, part Aa: the machine's states in a normal form; its steps as rules for 'simp'. -/
import Derived.Test.YtloodkhdngipbaaTmZ
namespace Go.Proofs.YtloodkhdngipbaaT
set_option linter.unusedVariables false
set_option linter.unusedSimpArgs false
open Go

/-! ### states -/
inductive TE where
  | set (d : Nat) (v : TV)
  | kill (d : Path → Bool)

def T : List TE → (Nat → TV) → Nat → TV
  | [], tb, k => tb k
  | .set d v :: ts, tb, k => if d = k then v else T ts tb k
  | .kill d :: ts, tb, k => killT d (T ts tb k)

structure OE where
  nr : Option Nat
  norg : List (Option Nat)
  dead : Option (Path → Bool)

def O : List OE → (Path → Option Nat) → Path → Option Nat
  | [], ob, q => ob q
  | e :: os, ob, q => match q with
    | [] => O os ob []
    | s :: r => if e.nr = some s.1 then (match r with
        | [t] => if s.2 = 0 ∧ t.1 = 0 then (e.norg[t.2]?).bind id else none
        | _ => none) else if deadB e.dead (s :: r) = true then none else O os ob (s :: r)

abbrev HL := List (Nat × List TV)
def lk : HL → Nat → List TV
  | [], _ => []
  | (r, c) :: hs, k => if r = k then c else lk hs k
def up : HL → Nat → List TV → HL
  | [], r, c => [(r, c)]
  | (r', c') :: hs, r, c => if r' = r then (r, c) :: hs else (r', c') :: up hs r c
def dropH : HL → List Nat → HL
  | [], _ => []
  | (r, c) :: hs, rs => if r ∈ rs then dropH hs rs else (r, c) :: dropH hs rs

theorem lk_up (hs : HL) (r : Nat) (c : List TV) (k : Nat) : lk (up hs r c) k = if k = r then c else lk hs k := by
  induction hs with
  | nil =>
    simp only [up, lk]
    by_cases h : k = r
    · subst h; simp
    · simp [h, Ne.symm h]
  | cons x hs ih =>
    obtain ⟨r', c'⟩ := x
    simp only [up]
    by_cases h : r' = r
    · subst h
      simp only [if_true, lk]
      by_cases h2 : r' = k
      · subst h2; simp
      · simp [h2, Ne.symm h2]
    · simp only [h, if_false, lk, ih]
      by_cases h2 : r' = k
      · subst h2; simp [h]
      · simp [h2]

@[simp] theorem setRoot_lk (hs : HL) (r : Nat) (c : List TV) : setRoot (lk hs) r c = lk (up hs r c) := by
  funext k; rw [lk_up]; rfl
@[simp] theorem modH_lk (hs : HL) (φ : TV → TV) (s : Nat × Nat) (r : Path) : modH (lk hs) φ (s :: r) = lk (up hs s.1 ((lk hs s.1).modify s.2 (modd φ r))) := by
  funext k; rw [lk_up]; simp only [modH]; split
  · rename_i h; rw [h]
  · rfl
theorem drop_lk (hs : HL) (rs : List Nat) : (fun y => if rs.contains y then [] else lk hs y) = lk (dropH hs rs) := by
  funext k
  induction hs with
  | nil => simp [lk, dropH]
  | cons x hs ih =>
    obtain ⟨r, c⟩ := x
    simp only [dropH]
    by_cases hr : r ∈ rs
    · rw [if_pos hr, ← ih]
      by_cases hk : k ∈ rs
      · simp [hk]
      · have : r ≠ k := by rintro rfl; exact hk hr
        simp [lk, this]
    · rw [if_neg hr]
      by_cases h2 : r = k
      · subst h2; simp [lk, hr]
      · simp only [lk, h2, if_false]; exact ih

@[simp] theorem lk_nil (k : Nat) : lk [] k = [] := rfl
@[simp] theorem lk_cons (r : Nat) (c : List TV) (hs : HL) (k : Nat) : lk ((r, c) :: hs) k = if r = k then c else lk hs k := rfl
@[simp] theorem T_nil (tb : Nat → TV) (k : Nat) : T [] tb k = tb k := rfl
@[simp] theorem T_set (d : Nat) (v : TV) (ts : List TE) (tb : Nat → TV) (k : Nat) : T (.set d v :: ts) tb k = if d = k then v else T ts tb k := rfl
@[simp] theorem T_kill (d : Path → Bool) (ts : List TE) (tb : Nat → TV) (k : Nat) : T (.kill d :: ts) tb k = killT d (T ts tb k) := rfl
attribute [simp] up dropH

def St.set (st : St) (d : Nat) (v : TV) : St where
  t := fun k => if d = k then v else st.t k
  H := st.H
  org := st.org

theorem put_val (st : St) (d : Nat) (v : TV) : st.put (some d) (val st v) = st.set d v := by
  unfold St.put St.set val
  congr 1
  · funext k; simp [deadT]
  · funext q; cases q <;> simp [orgPut, deadB]

theorem put_val_none (st : St) (v : TV) : st.put none (val st v) = st := by
  cases st with
  | mk t H org =>
    unfold St.put val
    congr 1
    funext q; cases q <;> simp [orgPut, deadB]

@[simp] theorem set_nf (ts : List TE) (tb : Nat → TV) (h : Hp) (o : Path → Option Nat) (d : Nat) (v : TV) : (St.mk (T ts tb) h o).set d v = St.mk (T (.set d v :: ts) tb) h o := by
  unfold St.set; congr 1

@[simp] theorem undef_nf (ts : List TE) (tb : Nat → TV) (h : Hp) (o : Path → Option Nat) (d : Nat) : (St.mk (T ts tb) h o).undef (some d) = St.mk (T (.set d (.tu []) :: ts) tb) h o := by
  unfold St.undef; congr 1; funext k; simp [T]
@[simp] theorem undef_none (st : St) : st.undef none = st := by cases st; simp [St.undef]

/-- Behind an operation that turns the heap. -/
def St.eff (st : St) (dst : Option Nat) (v : TV) (dead : Option (Path → Bool)) (H : Hp) (nr : Option Nat) (norg : List (Option Nat)) : St :=
  st.put dst { v, dead, H, wr := [], nr, norg }

@[simp] theorem eff_nf1 (ts : List TE) (tb : Nat → TV) (h H : Hp) (os : List OE) (ob : Path → Option Nat) (d : Nat) (v : TV) (nr : Option Nat) (norg : List (Option Nat)) :
    (St.mk (T ts tb) h (O os ob)).eff (some d) v none H nr norg = St.mk (T (.set d v :: ts) tb) H (O (⟨nr, norg, none⟩ :: os) ob) := by
  unfold St.eff St.put; congr 1
  · funext k; simp [T, deadT]
  · funext q; cases q <;> rfl
@[simp] theorem eff_nf2 (ts : List TE) (tb : Nat → TV) (h H : Hp) (os : List OE) (ob : Path → Option Nat) (d : Nat) (v : TV) (dd : Path → Bool) (nr : Option Nat) (norg : List (Option Nat)) :
    (St.mk (T ts tb) h (O os ob)).eff (some d) v (some dd) H nr norg = St.mk (T (.set d v :: .kill dd :: ts) tb) H (O (⟨nr, norg, some dd⟩ :: os) ob) := by
  unfold St.eff St.put; congr 1
  · funext k; simp [T, deadT]
  · funext q; cases q <;> rfl
@[simp] theorem eff_nf3 (ts : List TE) (tb : Nat → TV) (h H : Hp) (os : List OE) (ob : Path → Option Nat) (v : TV) (nr : Option Nat) (norg : List (Option Nat)) :
    (St.mk (T ts tb) h (O os ob)).eff none v none H nr norg = St.mk (T ts tb) H (O (⟨nr, norg, none⟩ :: os) ob) := by
  unfold St.eff St.put; congr 1
  funext q; cases q <;> rfl
@[simp] theorem eff_nf4 (ts : List TE) (tb : Nat → TV) (h H : Hp) (os : List OE) (ob : Path → Option Nat) (v : TV) (dd : Path → Bool) (nr : Option Nat) (norg : List (Option Nat)) :
    (St.mk (T ts tb) h (O os ob)).eff none v (some dd) H nr norg = St.mk (T (.kill dd :: ts) tb) H (O (⟨nr, norg, some dd⟩ :: os) ob) := by
  unfold St.eff St.put; congr 1
  · funext q; cases q <;> rfl

/-- Any state is in the normal form, over its heap told by a list. -/
theorem nf_of {s : St} {hs : HL} (h : s.H = lk hs) : s = St.mk (T [] s.t) (lk hs) (O [] s.org) := by
  cases s; simp only at h; subst h; rfl

theorem drop_nf (ts : List TE) (tb : Nat → TV) (hs : HL) (o : Path → Option Nat) (rs : List Nat) :
    (St.mk (T ts tb) (lk hs) o).drop rs = St.mk (T (.kill (fun q => match q.head? with | some s => rs.contains s.1 | none => false) :: ts) tb) (lk (dropH hs rs)) o := by
  unfold St.drop
  simp only
  congr 1
  exact drop_lk hs rs

/-- A fact that is no mere unfolding to 'simp'. -/
theorem nrfl {α : Sort _} {a b : α} (h : a = b) : a = b := h
/-! ### steps -/
section
variable {P : Program} {Q : St → Prop} {TQ : TExit → St → Prop}

def contE (P : Program) (os : List TOper) (st : St) (dst : Option Nat) (Q : St → Prop) : Eff → Prop := fun E => opsW P os (st.put dst E) Q
@[simp] theorem contE_val (os : List TOper) (st : St) (d : Nat) (v : TV) : contE P os st (some d) Q (val st v) = opsW P os (st.set d v) Q := by
  unfold contE; rw [put_val]
@[simp] theorem contE_val_none (os : List TOper) (st : St) (v : TV) : contE P os st none Q (val st v) = opsW P os st Q := by
  unfold contE; rw [put_val_none]
@[simp] theorem contE_eff (os : List TOper) (st : St) (dst : Option Nat) (v : TV) (dead : Option (Path → Bool)) (H : Hp) (wr : List Nat) (nr : Option Nat) (norg : List (Option Nat)) :
    contE P os st dst Q ⟨v, dead, H, wr, nr, norg⟩ = opsW P os (st.eff dst v dead H nr norg) Q := nrfl rfl

def guardS (P : Program) (o : TOper) (os : List TOper) (st : St) (Q : St → Prop) (want x : Bool) : Prop :=
  ((x == want) = true → opW P st o.root o.op (contE P os st o.dst Q)) ∧ ((x == want) = false → opsW P os (st.undef o.dst) Q)
@[simp] theorem guardS_tt (o : TOper) (os : List TOper) (st : St) : guardS P o os st Q true true = opW P st o.root o.op (contE P os st o.dst Q) := by simp [guardS]
@[simp] theorem guardS_ff (o : TOper) (os : List TOper) (st : St) : guardS P o os st Q false false = opW P st o.root o.op (contE P os st o.dst Q) := by simp [guardS]
@[simp] theorem guardS_tf (o : TOper) (os : List TOper) (st : St) : guardS P o os st Q true false = opsW P os (st.undef o.dst) Q := by simp [guardS]
@[simp] theorem guardS_ft (o : TOper) (os : List TOper) (st : St) : guardS P o os st Q false true = opsW P os (st.undef o.dst) Q := by simp [guardS]

@[simp] theorem opsW_nil (st : St) : opsW P [] st Q = Q st := nrfl rfl
@[simp] theorem opsW_none (dst : Option Nat) (root : Nat) (op : TOp) (pr : List Nat) (os : List TOper) (st : St) :
    opsW P (⟨dst, root, op, none, pr⟩ :: os) st Q = opW P st root op (contE P os st dst Q) := by
  unfold contE; simp [opsW, wantW]
theorem opsW_some (dst : Option Nat) (root : Nat) (op : TOp) (t : Nat) (w : Bool) (pr : List Nat) (os : List TOper) (st : St) (x : Bool) (h : st.t t = .b x) :
    opsW P (⟨dst, root, op, some (t, w), pr⟩ :: os) st Q = guardS P ⟨dst, root, op, some (t, w), pr⟩ os st Q w x := by
  unfold guardS contE; simp [opsW, wantW, gB, h]

def gv (P : Program) (o : TOper) (os : List TOper) (st : St) (Q : St → Prop) (w : Bool) : TV → Prop
  | .b x => guardS P o os st Q w x
  | .tu _ => opsW P os (st.undef o.dst) Q
  | _ => False
@[simp] theorem opsW_guard (dst : Option Nat) (root : Nat) (op : TOp) (t : Nat) (w : Bool) (pr : List Nat) (os : List TOper) (st : St) :
    opsW P (⟨dst, root, op, some (t, w), pr⟩ :: os) st Q = gv P ⟨dst, root, op, some (t, w), pr⟩ os st Q w (st.t t) := by
  unfold gv guardS contE
  simp only [opsW, wantW]
  cases st.t t <;> simp [gB]
@[simp] theorem gv_b (o : TOper) (os : List TOper) (st : St) (w x : Bool) : gv P o os st Q w (.b x) = guardS P o os st Q w x := nrfl rfl

@[simp] theorem gv_tu (o : TOper) (os : List TOper) (st : St) (w : Bool) (vs : List TV) : gv P o os st Q w (.tu vs) = opsW P os (st.undef o.dst) Q := nrfl rfl
/-! ### regions in any order -/
def contD (P : Program) (o : TOper) (os : List TOper) (fs : List Foot) (st : St) (Q : St → Prop) : Eff → Prop := fun E =>
  chk fs o.free (footOf st o E) = true ∧ drawW P os (fs ++ [footOf st o E]) (st.put o.dst E) Q
@[simp] theorem contD_val (d root : Nat) (op : TOp) (g : Option (Nat × Bool)) (fr : List Nat) (os : List TOper) (fs : List Foot) (st : St) (v : TV) :
    contD P ⟨some d, root, op, g, fr⟩ os fs st Q (val st v) = (chk fs fr ⟨rootsL (opT st op), [], rootsT v, root, njL (opT st op), voOf st v op, none⟩ = true ∧
      drawW P os (fs ++ [⟨rootsL (opT st op), [], rootsT v, root, njL (opT st op), voOf st v op, none⟩]) (st.set d v) Q) := by
  unfold contD; rw [put_val]; rfl
@[simp] theorem contD_val_none (root : Nat) (op : TOp) (g : Option (Nat × Bool)) (fr : List Nat) (os : List TOper) (fs : List Foot) (st : St) (v : TV) :
    contD P ⟨none, root, op, g, fr⟩ os fs st Q (val st v) = (chk fs fr ⟨rootsL (opT st op), [], rootsT v, root, njL (opT st op), voOf st v op, none⟩ = true ∧
      drawW P os (fs ++ [⟨rootsL (opT st op), [], rootsT v, root, njL (opT st op), voOf st v op, none⟩]) st Q) := by
  unfold contD; rw [put_val_none]; rfl
@[simp] theorem contD_eff (dst : Option Nat) (root : Nat) (op : TOp) (g : Option (Nat × Bool)) (fr : List Nat) (os : List TOper) (fs : List Foot) (st : St) (v : TV) (dead : Option (Path → Bool)) (H : Hp) (wr : List Nat) (nr : Option Nat) (norg : List (Option Nat)) :
    contD P ⟨dst, root, op, g, fr⟩ os fs st Q ⟨v, dead, H, wr, nr, norg⟩ = (chk fs fr ⟨rootsL (opT st op), wr, rootsT v, root, njL (opT st op), voOf st v op, dead⟩ = true ∧
      drawW P os (fs ++ [⟨rootsL (opT st op), wr, rootsT v, root, njL (opT st op), voOf st v op, dead⟩]) (st.eff dst v dead H nr norg) Q) := rfl

@[simp] theorem drawW_nil (fs : List Foot) (st : St) : drawW P [] fs st Q = Q st := nrfl rfl
@[simp] theorem drawW_none (dst : Option Nat) (root : Nat) (op : TOp) (fr : List Nat) (os : List TOper) (fs : List Foot) (st : St) :
    drawW P (⟨dst, root, op, none, fr⟩ :: os) fs st Q = opW P st root op (contD P ⟨dst, root, op, none, fr⟩ os fs st Q) := by
  unfold contD; simp [drawW, wantW]
def guardD (P : Program) (o : TOper) (os : List TOper) (fs : List Foot) (st : St) (Q : St → Prop) (want x : Bool) : Prop :=
  ((x == want) = true → opW P st o.root o.op (contD P o os fs st Q)) ∧ ((x == want) = false → chk fs o.free (foot0 o) = true ∧ drawW P os (fs ++ [foot0 o]) (st.undef o.dst) Q)
@[simp] theorem guardD_tt (o : TOper) (os : List TOper) (fs : List Foot) (st : St) : guardD P o os fs st Q true true = opW P st o.root o.op (contD P o os fs st Q) := by simp [guardD]
@[simp] theorem guardD_ff (o : TOper) (os : List TOper) (fs : List Foot) (st : St) : guardD P o os fs st Q false false = opW P st o.root o.op (contD P o os fs st Q) := by simp [guardD]
@[simp] theorem guardD_tf (o : TOper) (os : List TOper) (fs : List Foot) (st : St) : guardD P o os fs st Q true false = (chk fs o.free (foot0 o) = true ∧ drawW P os (fs ++ [foot0 o]) (st.undef o.dst) Q) := by simp [guardD]
@[simp] theorem guardD_ft (o : TOper) (os : List TOper) (fs : List Foot) (st : St) : guardD P o os fs st Q false true = (chk fs o.free (foot0 o) = true ∧ drawW P os (fs ++ [foot0 o]) (st.undef o.dst) Q) := by simp [guardD]
def gvD (P : Program) (o : TOper) (os : List TOper) (fs : List Foot) (st : St) (Q : St → Prop) (w : Bool) : TV → Prop
  | .b x => guardD P o os fs st Q w x
  | .tu _ => chk fs o.free (foot0 o) = true ∧ drawW P os (fs ++ [foot0 o]) (st.undef o.dst) Q
  | _ => False
@[simp] theorem drawW_guard (dst : Option Nat) (root : Nat) (op : TOp) (t : Nat) (w : Bool) (fr : List Nat) (os : List TOper) (fs : List Foot) (st : St) :
    drawW P (⟨dst, root, op, some (t, w), fr⟩ :: os) fs st Q = gvD P ⟨dst, root, op, some (t, w), fr⟩ os fs st Q w (st.t t) := by
  unfold gvD guardD contD
  simp only [drawW, wantW]
  cases st.t t <;> simp [gB]
@[simp] theorem gvD_tu (o : TOper) (os : List TOper) (fs : List Foot) (st : St) (w : Bool) (vs : List TV) : gvD P o os fs st Q w (.tu vs) = (chk fs o.free (foot0 o) = true ∧ drawW P os (fs ++ [foot0 o]) (st.undef o.dst) Q) := nrfl rfl
@[simp] theorem gvD_b (o : TOper) (os : List TOper) (fs : List Foot) (st : St) (w x : Bool) : gvD P o os fs st Q w (.b x) = guardD P o os fs st Q w x := nrfl rfl

def chk1 (g : Foot) : Option Foot → Bool
  | some f => pairOk f g
  | none => false
@[simp] theorem chk_nil (fs : List Foot) (g : Foot) : chk fs [] g = true := nrfl rfl
@[simp] theorem chkA_nil (fs : List Foot) (g : Foot) : chkA fs [] g = true := nrfl rfl
@[simp] theorem chkA_cons (fs : List Foot) (k : Nat) (ks : List Nat) (g : Foot) : chkA fs (k :: ks) g = (chk1 g fs[k]? && chkA fs ks g) := nrfl rfl
def chk2 (g : Foot) : Option Foot → Bool
  | some f => pair1 f (lateFoot g)
  | none => false
@[simp] theorem chkL_nil (fs : List Foot) (g : Foot) : chkL fs [] g = true := nrfl rfl
@[simp] theorem chkL_cons (fs : List Foot) (k : Nat) (ks : List Nat) (g : Foot) : chkL fs (k :: ks) g = (chk2 g fs[k]? && chkL fs ks g) := nrfl rfl
@[simp] theorem chk2_some (a b c : List Nat) (r : Nat) (n : Bool) (vo : Option (List TV)) (dd : Option (Path → Bool)) (a2 b2 c2 : List Nat) (r2 : Nat) (n2 : Bool) (vo2 : Option (List TV)) (dd2 : Option (Path → Bool)) :
    chk2 ⟨a2, b2, c2, r2, n2, vo2, dd2⟩ (some ⟨a, b, c, r, n, vo, dd⟩) = ((b.isEmpty || (disj b (r2 :: (a2.take 1 ++ b2.take 1 ++ [])) && true)) && ((b2.take 1).isEmpty || disj (b2.take 1) (r :: (a ++ c)))) := nrfl rfl
@[simp] theorem chkB_mk (fs : List Foot) (ks : List Nat) (a2 b2 c2 : List Nat) (r2 : Nat) (n2 : Bool) (vo2 : Option (List TV)) (dd2 : Option (Path → Bool)) :
    chkB fs ks ⟨a2, b2, c2, r2, n2, vo2, dd2⟩ = (disj (b2.take 1) (a2.drop 1) && chkL fs ks ⟨a2, b2, c2, r2, n2, vo2, dd2⟩) := nrfl rfl
@[simp] theorem chk_cons (fs : List Foot) (k : Nat) (ks : List Nat) (g : Foot) : chk fs (k :: ks) g = if k = 1000000 then chkA fs ks g || chkB fs ks g else chk1 g fs[k]? && chkA fs ks g := by
  unfold chk unmark marked
  by_cases h : k = 1000000
  · simp [h]
  · simp [h]
@[simp] theorem chk1_some (f g : Foot) : chk1 g (some f) = pairOk f g := nrfl rfl
@[simp] theorem pairOk_mk (a b c : List Nat) (r : Nat) (n : Bool) (vo : Option (List TV)) (dd : Option (Path → Bool)) (a2 b2 c2 : List Nat) (r2 : Nat) (n2 : Bool) (vo2 : Option (List TV)) (dd2 : Option (Path → Bool)) :
    pairOk ⟨a, b, c, r, n, vo, dd⟩ ⟨a2, b2, c2, r2, n2, vo2, dd2⟩ = pair2 ⟨a, b, c, r, n, vo, dd⟩ ⟨a2, b2, c2, r2, n2, vo2, dd2⟩ ((b.isEmpty || (disj b (r2 :: (a2 ++ b2 ++ c2)) && n2)) && (b2.isEmpty || disj b2 (r :: (a ++ c)))) := nrfl rfl
@[simp] theorem pair2_t (f g : Foot) : pair2 f g true = true := nrfl rfl
@[simp] theorem pair2_f (f g : Foot) : pair2 f g false = (vo1 g.dd f.vo || (g.nj && vo1 f.dd g.vo)) := nrfl rfl
@[simp] theorem vo1_s (d : Option (Path → Bool)) (us : List TV) : vo1 d (some us) = liveL d us := nrfl rfl
@[simp] theorem vo1_n (d : Option (Path → Bool)) : vo1 d none = false := nrfl rfl
@[simp] theorem liveB_s (d : Path → Bool) (p : Path) : liveB (some d) p = !d p := nrfl rfl
@[simp] theorem liveB_n (p : Path) : liveB none p = true := nrfl rfl
@[simp] theorem disj_nil (b : List Nat) : disj [] b = true := nrfl rfl
@[simp] theorem disj_cons (r : Nat) (a b : List Nat) : disj (r :: a) b = (!b.contains r && disj a b) := nrfl rfl
@[simp] theorem foot0_mk (dst : Option Nat) (root : Nat) (op : TOp) (g : Option (Nat × Bool)) (fr : List Nat) : foot0 ⟨dst, root, op, g, fr⟩ = ⟨[], [], [], root, true, none, none⟩ := nrfl rfl
attribute [simp] opT evO rootsT rootsL njT njL extT voOf liveT liveL

def seqK (P : Program) (b : TCode) (TQ : TExit → St → Prop) : TExit → St → Prop := fun e s => match e with | .normal => twp P b TQ s | e => TQ e s
def blkK (id : Nat) (TQ : TExit → St → Prop) : TExit → St → Prop := fun e s => match e with | .exit i => if i = id then TQ .normal s else TQ (.exit i) s | e => TQ e s
def condS (P : Program) (a b : TCode) (TQ : TExit → St → Prop) (st : St) (x : Bool) : Prop := (x = true → twp P a TQ st) ∧ (x = false → twp P b TQ st)
def condV (P : Program) (a b : TCode) (TQ : TExit → St → Prop) (st : St) : TV → Prop
  | .b x => condS P a b TQ st x
  | _ => False

@[simp] theorem seqK_n (b : TCode) (s : St) : seqK P b TQ .normal s = twp P b TQ s := nrfl rfl
@[simp] theorem seqK_e (b : TCode) (s : St) (i : Nat) : seqK P b TQ (.exit i) s = TQ (.exit i) s := nrfl rfl
@[simp] theorem seqK_r (b : TCode) (s : St) : seqK P b TQ .ret s = TQ .ret s := nrfl rfl
@[simp] theorem blkK_n (id : Nat) (s : St) : blkK id TQ .normal s = TQ .normal s := nrfl rfl
@[simp] theorem blkK_e (id i : Nat) (s : St) : blkK id TQ (.exit i) s = if i = id then TQ .normal s else TQ (.exit i) s := nrfl rfl
@[simp] theorem blkK_r (id : Nat) (s : St) : blkK id TQ .ret s = TQ .ret s := nrfl rfl
@[simp] theorem condS_t (a b : TCode) (st : St) : condS P a b TQ st true = twp P a TQ st := by simp [condS]
@[simp] theorem condS_f (a b : TCode) (st : St) : condS P a b TQ st false = twp P b TQ st := by simp [condS]
@[simp] theorem condV_b (a b : TCode) (st : St) (x : Bool) : condV P a b TQ st (.b x) = condS P a b TQ st x := nrfl rfl

@[simp] theorem twp_skip (st : St) : twp P .skip TQ st = TQ .normal st := nrfl rfl
@[simp] theorem twp_ops (l : List TOper) (st : St) : twp P (.ops l) TQ st = opsW P l st (TQ .normal) := nrfl rfl
@[simp] theorem twp_draw (l : List TOper) (st : St) : twp P (.draw l) TQ st = drawW P l [] st (TQ .normal) := nrfl rfl
@[simp] theorem twp_seq (a b : TCode) (st : St) : twp P (.seq a b) TQ st = twp P a (seqK P b TQ) st := nrfl rfl
@[simp] theorem twp_cond (c : TOpd) (a b : TCode) (st : St) : twp P (.cond c a b) TQ st = condV P a b TQ st (c.ev st) := by
  unfold condV condS; simp only [twp]; cases c.ev st <;> rfl
@[simp] theorem twp_block (id : Nat) (a : TCode) (st : St) : twp P (.block id a) TQ st = twp P a (blkK id TQ) st := nrfl rfl
@[simp] theorem twp_exit (id : Nat) (st : St) : twp P (.exit id) TQ st = TQ (.exit id) st := nrfl rfl
@[simp] theorem twp_ret (st : St) : twp P .ret TQ st = TQ .ret st := nrfl rfl

@[simp] theorem ev_t (ts : List TE) (tb : Nat → TV) (h : Hp) (o : Path → Option Nat) (n : Nat) : TOpd.ev (St.mk (T ts tb) h o) (.t n) = T ts tb n := rfl
@[simp] theorem ev_c (st : St) (v : TV) : TOpd.ev st (.c v) = v := rfl

/-- A round loop: what holds at its head. -/
def loopK (I : Nat → St → Prop) (rs : List Nat) (n : Nat) (TQ : TExit → St → Prop) : TExit → St → Prop := fun e s' => match e with | .normal => ∃ m, m < n ∧ I m (s'.drop rs) | e => TQ e s'
@[simp] theorem loopK_n (I : Nat → St → Prop) (rs : List Nat) (n : Nat) (s : St) : loopK I rs n TQ .normal s = ∃ m, m < n ∧ I m (s.drop rs) := nrfl rfl
@[simp] theorem loopK_e (I : Nat → St → Prop) (rs : List Nat) (n i : Nat) (s : St) : loopK I rs n TQ (.exit i) s = TQ (.exit i) s := nrfl rfl
@[simp] theorem loopK_r (I : Nat → St → Prop) (rs : List Nat) (n : Nat) (s : St) : loopK I rs n TQ .ret s = TQ .ret s := nrfl rfl
theorem twp_loop {a : TCode} {st : St} (I : Nat → St → Prop) (rs : List Nat) (h0 : 0 ∉ rs) (n0 : Nat) (hi : I n0 (st.drop rs)) (h : ∀ n s, I n s → twp P a (loopK I rs n TQ) s) : twp P (.loop a) TQ st :=
  ⟨I, rs, [], h0, trivial, ⟨n0, hi⟩, h⟩
theorem twp_loopR {a : TCode} {st : St} (I : Nat → St → Prop) (rs : List Nat) (mv : List (Nat × Nat)) (h0 : 0 ∉ rs) (hm : renOk (st.drop rs) mv) (n0 : Nat) (hi : I n0 ((st.drop rs).rens mv)) (h : ∀ n s, I n s → twp P a (loopK I rs n TQ) s) : twp P (.loop a) TQ st :=
  ⟨I, rs, mv, h0, hm, ⟨n0, hi⟩, h⟩
def renL (a b : Nat) : HL → HL
  | [] => []
  | (r, c) :: hs => ((if r = a then b else r), c) :: renL a b hs
def hasK (b : Nat) : HL → Bool
  | [] => false
  | (r, _) :: hs => r == b || hasK b hs
attribute [simp] renL hasK renP renT renTL
theorem ren_lk {a b : Nat} : ∀ {hs : HL}, hasK b hs = false → renH a b (lk hs) = lk (renL a b hs)
  | [], _ => by funext y; simp [renH, lk]
  | (r, c) :: hs, h => by
    simp only [hasK, Bool.or_eq_false_iff, beq_eq_false_iff_ne, ne_eq] at h
    have ih := ren_lk (a := a) (b := b) h.2
    funext y
    have ihy := congrFun ih y
    simp only [renH] at ihy ⊢
    simp only [renL, lk]
    by_cases hy : y = b
    · subst hy
      simp only [if_true] at ihy ⊢
      by_cases hr : r = a
      · simp [hr]
      · simp only [hr, if_false, h.1]; exact ihy
    · simp only [hy, if_false] at ihy ⊢
      by_cases hya : y = a
      · subst hya
        simp only [if_true] at ihy ⊢
        by_cases hr : r = y
        · simp only [hr, if_true, show ¬ b = y from fun h => hy h.symm, if_false]; exact ihy
        · simp only [hr, if_false]; exact ihy
      · simp only [hya, if_false] at ihy ⊢
        by_cases hr : r = a
        · subst hr
          simp only [if_true, show ¬ b = y from fun h => hy h.symm, show ¬ r = y from fun h => hya h.symm, if_false]; exact ihy
        · simp only [hr, if_false]
          by_cases hry : r = y
          · simp [hry]
          · simp only [hry, if_false]; exact ihy
@[simp] theorem ren_nf (t : Nat → TV) (hs : HL) (o : Path → Option Nat) (a b : Nat) (h : hasK b hs = false) :
    (St.mk t (lk hs) o).ren a b = St.mk (fun k => renT a b (t k)) (lk (renL a b hs)) (renO a b o) := by
  unfold St.ren; rw [ren_lk h]
@[simp] theorem rens_nil (st : St) : st.rens [] = st := nrfl rfl
@[simp] theorem rens_cons (st : St) (a b : Nat) (mv : List (Nat × Nat)) : st.rens ((a, b) :: mv) = (st.ren a b).rens mv := nrfl rfl
@[simp] theorem renOk_nil (st : St) : renOk st [] = True := nrfl rfl
@[simp] theorem renOk_cons (st : St) (a b : Nat) (mv : List (Nat × Nat)) : renOk st ((a, b) :: mv) = ((2 ≤ a ∧ 2 ≤ b ∧ a ≠ b ∧ st.H b = []) ∧ renOk (st.ren a b) mv) := nrfl rfl
end

/-! ### initial states -/
@[simp] theorem init_nf (ms : List Mode) (args : List TV) : initSt ms args = St.mk (T [] fun k => ((initT 0 ms args)[k]?).getD .junk) (lk [(1, ownCells ms args)]) (O [] fun _ => none) := by
  unfold initSt
  congr 1
  funext r; simp [eq_comm]
attribute [simp] initT ownCells refArg refsFrom toRef cellsT isAg
end Go.Proofs.YtloodkhdngipbaaT
