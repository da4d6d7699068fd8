/- Texts of this session's own, one behind the other: TmAf, TmAg, TmAh, TmAm. -/
import Derived.Test.YtmedelmfkciblaaPk7
namespace Go.Proofs.YtmedelmfkciblaaT
set_option linter.unusedVariables false
set_option linter.unusedSimpArgs false
open Go
section
variable {P : Program} {F : Fr} {st st' : St} {root : Nat} {E : Eff}
theorem compOps_get {N rid : Nat} {ops : Array Oper} : ∀ {l : List Oper} {k : Nat} {tl : List TOper}, compOps P N rid ops k l = some tl → tl.length = l.length ∧
  ∀ (i : Nat) (o : Oper), l[i]? = some o → ∃ to : TOper, tl[i]? = some to ∧ compOp P o = some to.op ∧ compGuard ops o.guard = some to.guard ∧ dstOk N o.dst = true ∧ to.dst = o.dst
 | [], k, tl, h => by simp only [compOps, Option.some.injEq] at h; subst h; simp
 | o :: os, k, tl, h => by
  simp only [compOps, Option.bind_eq_some_iff] at h
  obtain ⟨top, h1, tg, h2, h⟩ := h
  split at h
  case isFalse => cases h
  rename_i hd
  simp only [Option.bind_eq_some_iff, Option.some.injEq] at h
  obtain ⟨tl', h3, rfl⟩ := h
  obtain ⟨g1, g2⟩ := compOps_get h3
  refine ⟨by simp [g1], fun i o' hi => ?_⟩
  cases i with
  | zero =>
   simp only [List.getElem?_cons_zero, Option.some.injEq] at hi; subst hi
   exact ⟨_, rfl, h1, h2, hd, rfl⟩
  | succ i => simpa using g2 i o' (by simpa using hi)
theorem drawW_run : ∀ (os : List TOper) (fs : List Foot) (st : St) (Q : St → Prop), drawW P os fs st Q → ∃ (gs : List Foot) (st' : St), gs.length = os.length ∧ Q st' ∧
  (∀ it : Nat → TOper × Foot, (∀ i o, os[i]? = some o → (it (fs.length + i)).1 = o) → (∀ i g, gs[i]? = some g → (it (fs.length + i)).2 = g) → Run P it (List.range' fs.length os.length) st st') ∧
  ∀ (i : Nat) (o : TOper) (g : Foot), os[i]? = some o → gs[i]? = some g → (∀ k ∈ unmark o.free, ∃ f, (fs ++ gs)[k]? = some f ∧ pairOk f g = true) ∨
   (marked o.free = true ∧ disj (g.wr.take 1) (g.rd.drop 1) = true ∧ ∀ k ∈ unmark o.free, ∃ f, (fs ++ gs)[k]? = some f ∧ pair1 f (lateFoot g) = true)
 | [], fs, st, Q, h => ⟨[], st, rfl, h, fun _ _ _ => rfl, fun i o g h => by simp at h⟩
 | o :: os, fs, st, Q, h => by
  have step : ∀ b, ((b = true → opW P st o.root o.op fun E => chk fs o.free (footOf st o E) = true ∧ drawW P os (fs ++ [footOf st o E]) (st.put o.dst E) Q) ∧
    (b = false → chk fs o.free (foot0 o) = true ∧ drawW P os (fs ++ [foot0 o]) (st.undef o.dst) Q)) →
    ∃ E f, ((b = true → opW P st o.root o.op (· = E) ∧ f = footOf st o E) ∧ (b = false → E = val st (.tu []) ∧ f = foot0 o)) ∧ chk fs o.free f = true ∧ drawW P os (fs ++ [f]) (st.put o.dst E) Q := by
   intro b hb
   cases b with
   | true =>
    obtain ⟨E, h1, h2, h3⟩ := opW_one (hb.1 rfl)
    exact ⟨E, _, ⟨fun _ => ⟨h1, rfl⟩, fun h => by cases h⟩, h2, h3⟩
   | false =>
    obtain ⟨h2, h3⟩ := hb.2 rfl
    exact ⟨_, _, ⟨fun h => (by cases h), fun _ => ⟨rfl, rfl⟩⟩, h2, by rw [undef_put]; exact h3⟩
  have hstep : ∃ E f, StepF P st o E f ∧ chk fs o.free f = true ∧ drawW P os (fs ++ [f]) (st.put o.dst E) Q := by
   simp only [drawW] at h
   unfold StepF
   cases hg : o.guard with
   | none => rw [hg] at h; exact step true h
   | some tw =>
    obtain ⟨t, w⟩ := tw
    rw [hg] at h
    simp only [wantW] at h ⊢
    split at h
    case h_2 => exact h.elim
    rename_i x hx
    first
     | exact step _ h
     | (rw [hx]; exact step _ h)
  obtain ⟨E, f, h1, h2, h3⟩ := hstep
  obtain ⟨gs, st', g1, g2, g3, g4⟩ := drawW_run os _ _ _ h3
  refine ⟨f :: gs, st', by simp [g1], g2, fun it i1 i2 => ?_, fun i o' g hi hgi => ?_⟩
  ·rw [List.length_cons, List.range'_succ]
   have e1 : (it fs.length).1 = o := i1 0 o rfl
   have e2 : (it fs.length).2 = f := i2 0 f rfl
   refine ⟨E, by rw [e1, e2]; exact h1, ?_⟩
   rw [e1]
   have := g3 it (fun i o' hi => by
     have := i1 (i + 1) o' (by simpa using hi)
     rw [show (fs ++ [f]).length + i = fs.length + (i + 1) by simp; omega]; exact this) (fun i g hi => by
     have := i2 (i + 1) g (by simpa using hi)
     rw [show (fs ++ [f]).length + i = fs.length + (i + 1) by simp; omega]; exact this)
   simpa using this
  ·cases i with
   | zero =>
    simp only [List.getElem?_cons_zero, Option.some.injEq] at hi hgi; subst hi; subst hgi
    have up : ∀ (k : Nat) (f' : Foot), fs[k]? = some f' → (fs ++ f :: gs)[k]? = some f' := fun k f' hf => by
     rw [List.getElem?_append_left (List.getElem?_eq_some_iff.1 hf).1]; exact hf
    simp only [chk, Bool.or_eq_true, Bool.and_eq_true, chkB] at h2
    rcases h2 with h2 | ⟨hm, hd, h2⟩
    ·refine .inl fun k hk => ?_
     have := List.all_eq_true.1 h2 k hk
     split at this
     ·rename_i f' hf; exact ⟨f', up k f' hf, this⟩
     ·cases this
    ·refine .inr ⟨hm, hd, fun k hk => ?_⟩
     have := List.all_eq_true.1 h2 k hk
     split at this
     ·rename_i f' hf; exact ⟨f', up k f' hf, this⟩
     ·cases this
   | succ i =>
    rcases g4 i o' g (by simpa using hi) (by simpa using hgi) with hh | ⟨hm, hd, hh⟩
    ·exact .inl fun k hk => by obtain ⟨f', q1, q2⟩ := hh k hk; exact ⟨f', by simpa using q1, q2⟩
    ·exact .inr ⟨hm, hd, fun k hk => by obtain ⟨f', q1, q2⟩ := hh k hk; exact ⟨f', by simpa using q1, q2⟩⟩
theorem run_steps {it : Nat → TOper × Foot} : ∀ {L : List Nat} {st st' : St}, Run P it L st st' → ∀ i ∈ L, ∃ st E, StepF P st (it i).1 E (it i).2
 | _ :: _, st, _, ⟨E, h, h2⟩, i, hi => by
  rcases List.mem_cons.1 hi with rfl | hi
  ·exact ⟨st, E, h⟩
  ·exact run_steps h2 i hi
theorem step_ok (hall : AllGood P) {ops : Array Oper} {i : Nat} {o : Oper} {to : TOper} {f : Foot} {a : Act} {w : World} {Q : Exit → Act → World → Prop} {K : Act → World → Prop}
  (ho : ops[i]? = some o) (h1 : compOp P o = some to.op) (h2 : compGuard ops o.guard = some to.guard) (h3 : dstOk F.N o.dst = true) (h4 : to.dst = o.dst)
  (hS : StepF P st to E f) (hR : Rel F st a w) (hK : ∀ a' w', Rel F (st.put to.dst E) a' w' → K a' w') : wpOp P ops Q i K a w := by
 have hd : ∀ d, o.dst = some d → d < F.N := by
  intro d hd
  rw [hd] at h3
  simpa [dstOk] using h3
 rw [h4] at hK
 have hwant : ∃ b, Region.wanted o (yielded ops a.tmps) = b ∧ ((b = true → opW P st to.root to.op (· = E) ∧ f = footOf st to E) ∧ (b = false → E = val st (.tu []) ∧ f = foot0 to)) := by
  unfold StepF at hS
  unfold compGuard at h2
  split at h2
  ·rename_i hg
   simp only [Option.some.injEq] at h2
   rw [← h2] at hS
   exact ⟨true, by simp [Region.wanted, hg], hS⟩
  ·rename_i j want hg
   simp only [Option.bind_eq_some_iff, Option.some.injEq] at h2
   obtain ⟨t, ⟨oj, hoj, htj⟩, hgd⟩ := h2
   rw [← hgd] at hS
   simp only [wantW] at hS
   split at hS
   case h_2 => exact hS.elim
   rename_i x hx
   obtain ⟨κ, γ, r1, r2, r3, r4, r5, r6, r7⟩ := hR
   have hv := r4 t
   refine ⟨x, ?_, hS⟩
   simp only [Region.wanted, hg, yielded, hoj, htj, Option.bind_some]
   exact gB_ok hx hv
 obtain ⟨b, hb, ht1, ht2⟩ := hwant
 unfold wpOp
 simp only [ho, hb]
 cases b with
 | true =>
  simp only [if_true]
  exact .inl (hall F o to.op st to.root E h1 hd (ht1 rfl).1 a w _ _ hR hK)
 | false =>
  simp only [Bool.false_eq_true, if_false]
  refine hK _ _ ?_
  rw [(ht2 rfl).1, undef_put]
  exact rel_undef hR hd
structure DrawF (ops : Array Oper) (masks : List Nat) (l : List TOper) : Prop where
 lt : ∀ i o, i < l.length → ops[i]? = some o → ∀ p ∈ predsOf o, p < i
 anc : ∀ i o j, i < l.length → ops[i]? = some o → j < l.length → ((masks[i]?).getD 0).testBit j = true → ∃ p ∈ predsOf o, p = j ∨ ((masks[p]?).getD 0).testBit j = true
 pair : ∀ i j y, l[i]? = some y → j < i → ∃ x, l[j]? = some x ∧ (((masks[i]?).getD 0).testBit j = true ∨ apartT x y = true ∧ (j ∈ unmark y.free ∨ canWr x.op = false ∧ canWr y.op = false))
 late : ∀ i y, l[i]? = some y → marked y.free = true → ∃ o t x z, ops[i]? = some o ∧ o.op = .store t x z ∧ o.guard = none ∧ o.dst = none ∧
  ∀ j, j < l.length → i < j → ((masks[j]?).getD 0).testBit i = true ∧ ∀ k, k < i → ((masks[i]?).getD 0).testBit k = true ∨ ((masks[j]?).getD 0).testBit k = true
theorem drawF_of {ops : Array Oper} {masks : List Nat} {l : List TOper} (h : drawOk ops masks l = true) : DrawF ops masks l := by
 have key : ∀ i, i < l.length → ∃ o y, ops[i]? = some o ∧ l[i]? = some y ∧ ((predsOf o).all (fun p => decide (p < i)) &&
   (List.range l.length).all (fun j => !((masks[i]?).getD 0).testBit j || (predsOf o).any fun p => p == j || ((masks[p]?).getD 0).testBit j) &&
   (List.range i).all (fun j => match l[j]? with
    | some x => ((masks[i]?).getD 0).testBit j || (apartT x y && ((unmark y.free).contains j || (!canWr x.op && !canWr y.op)))
    | none => false) && (!marked y.free || lateOk ops masks l.length i)) = true := by
  intro i hi
  have := List.all_eq_true.1 h i (List.mem_range.2 hi)
  split at this
  ·rename_i o y h1 h2
   exact ⟨o, y, h1, h2, this⟩
  ·cases this
 refine ⟨fun i o hi ho p hp => ?_, fun i o j hi ho hj hb => ?_, fun i j y hy hj => ?_, fun i y hy hm => ?_⟩
 ·obtain ⟨o', y, h1, h2, h3⟩ := key i hi
  rw [ho] at h1; cases h1
  simp only [Bool.and_eq_true, List.all_eq_true, decide_eq_true_eq] at h3
  exact h3.1.1.1 p hp
 ·obtain ⟨o', y, h1, h2, h3⟩ := key i hi
  rw [ho] at h1; cases h1
  simp only [Bool.and_eq_true] at h3
  have := List.all_eq_true.1 h3.1.1.2 j (List.mem_range.2 hj)
  simp only [hb, Bool.not_true, Bool.false_or, List.any_eq_true, Bool.or_eq_true, beq_iff_eq] at this
  exact this
 ·obtain ⟨o', y', h1, h2, h3⟩ := key i (List.getElem?_eq_some_iff.1 hy).1
  rw [hy] at h2; cases h2
  simp only [Bool.and_eq_true] at h3
  have := List.all_eq_true.1 h3.1.2 j (List.mem_range.2 hj)
  split at this
  ·rename_i x hx
   refine ⟨x, hx, ?_⟩
   simpa [Bool.or_eq_true, Bool.and_eq_true] using this
  ·cases this
 ·obtain ⟨o', y', h1, h2, h3⟩ := key i (List.getElem?_eq_some_iff.1 hy).1
  rw [hy] at h2; cases h2
  simp only [Bool.and_eq_true, hm, Bool.not_true, Bool.false_or] at h3
  have hL := h3.2
  unfold lateOk at hL
  rw [h1] at hL
  simp only [Bool.and_eq_true, Option.isNone_iff_eq_none] at hL
  obtain ⟨⟨⟨g1, g2⟩, g3⟩, g4⟩ := hL
  split at g1
  case h_2 => cases g1
  rename_i t x z hop
  refine ⟨o', t, x, z, h1, hop, g2, g3, fun j hj hij => ?_⟩
  have := List.all_eq_true.1 g4 j (List.mem_range.2 hj)
  simp only [Bool.or_eq_true, decide_eq_true_eq, Bool.and_eq_true, List.all_eq_true, List.mem_range] at this
  rcases this with h | ⟨h, h'⟩
  ·omega
  ·exact ⟨h, h'⟩
theorem unl {ops : Array Oper} {masks : List Nat} {l : List TOper} {listed : Array Bool} (hF : DrawF ops masks l) (hlen : l.length = ops.size) (hsz : listed.size = ops.size) (hr : Region.ready .any ops listed = []) :
  ∀ L : List Nat, L.Pairwise (· < ·) → (∀ i, i ∈ L ↔ i < ops.size ∧ listed.getD i true = false) → L = [] := by
 intro L hL hmem
 cases L with
 | nil => rfl
 | cons i L =>
  exfalso
  obtain ⟨hi1, hi2⟩ := (hmem i).1 List.mem_cons_self
  have : i ∈ Region.ready .any ops listed := by
   refine mem_ready.2 ⟨hi2, ops[i], by simp [hi1], fun e he hb => ?_⟩
   have hp : e.on < i := hF.lt i ops[i] (by rw [hlen]; exact hi1) (by simp [hi1]) e.on (List.mem_map.2 ⟨e, List.mem_filter.2 ⟨by simpa using he, hb⟩, rfl⟩)
   have hel : e.on < listed.size := by rw [hsz]; omega
   cases hx : listed.getD e.on true with
   | true => simpa [hel] using hx
   | false =>
    rcases List.mem_cons.1 ((hmem e.on).2 ⟨by omega, hx⟩) with h | h
    ·omega
    ·have := (List.pairwise_cons.1 hL).1 _ h; omega
  rw [hr] at this; cases this
def Waits (P : Program) (ops : Array Oper) (l : List TOper) (it : Nat → TOper × Foot) (s : Nat) (st : St) (a : Act) : Prop :=
 ∃ o to t x y x' y' n p i f cs, ops[s]? = some o ∧ l[s]? = some to ∧ marked to.free = true ∧ Late P it o s t x y x' y' n ∧ Pinned it s y x' st a p i f cs ∧
  ∀ k ∈ unmark to.free, pair1 (it k).2 (lateFoot (it s).2) = true
theorem any_ok (hall : AllGood P) {ops : Array Oper} {masks : List Nat} {l : List TOper} {it : Nat → TOper × Foot} {Q : Exit → Act → World → Prop} {st' : St}
  (hF : DrawF ops masks l) (hlen : l.length = ops.size)
  (hget : ∀ (i : Nat) (o : Oper), ops[i]? = some o → ∃ to : TOper, l[i]? = some to ∧ compOp P o = some to.op ∧ compGuard ops o.guard = some to.guard ∧ dstOk F.N o.dst = true ∧ to.dst = o.dst)
  (hit : ∀ i to, l[i]? = some to → (it i).1 = to)
  (hfr : ∀ i to, l[i]? = some to → (∀ k ∈ unmark to.free, pairOk (it k).2 (it i).2 = true) ∨
   (marked to.free = true ∧ disj ((it i).2.wr.take 1) ((it i).2.rd.drop 1) = true ∧ ∀ k ∈ unmark to.free, pair1 (it k).2 (lateFoot (it i).2) = true))
  (hpure : ∀ i to, l[i]? = some to → canWr to.op = false → (it i).2.wr = [])
  (hQ : ∀ a w, Rel F st' a w → Q .normal a w) :
  ∀ (fuel : Nat) (listed : Array Bool) (pend : Option Nat) (L : List Nat) (st : St) (a : Act) (w : World), listed.size = ops.size → L.Pairwise (· < ·) → (∀ i, i ∈ L ↔ i < ops.size ∧ (listed.getD i true = false ∨ pend = some i)) →
   (∀ i, i < ops.size → listed.getD i true = true → ∀ j, j < ops.size → ((masks[i]?).getD 0).testBit j = true → listed.getD j true = true) → L.length ≤ fuel + pend.toList.length →
   (∀ s, pend = some s → listed.getD s true = true ∧ Waits P ops l it s st a) →
   Run P it L st st' → Rel F st a w → wpAny P .any ops Q fuel listed a w := by
 have commit : ∀ (s : Nat) (L : List Nat) (st : St) (a : Act) (w : World), Waits P ops l it s st a → Run P it (s :: L) st st' → Rel F st a w → ∃ st2, Run P it L st2 st' ∧ Rel F st2 a w := by
  rintro s L st a w ⟨o, to, t, x, y, x', y', n, p, i, f, cs, _, _, _, hl, hp, _⟩ ⟨E, hS, hr⟩ hR
  exact ⟨_, hr, late_commit hl hp hS hR⟩
 have nil : ∀ (listed : Array Bool) (pend : Option Nat) (L : List Nat) (st : St) (a : Act) (w : World), listed.size = ops.size → L.Pairwise (· < ·) → (∀ i, i ∈ L ↔ i < ops.size ∧ (listed.getD i true = false ∨ pend = some i)) →
   (∀ s, pend = some s → listed.getD s true = true ∧ Waits P ops l it s st a) →
   Run P it L st st' → Rel F st a w → Region.ready .any ops listed = [] → Q .normal a w := by
  intro listed pend L st a w hsz hL hmem hpd hrun hR hr
  cases pend with
  | none =>
   have : L = [] := unl hF hlen hsz hr L hL fun i => by rw [hmem i]; simp
   subst this
   have : st = st' := hrun
   subst this; exact hQ a w hR
  | some s =>
   obtain ⟨hs, hw⟩ := hpd s rfl
   obtain ⟨o, to, _, _, _, _, _, _, _, _, _, _, ho, _⟩ := hw
   have hsL : s ∈ L := (hmem s).2 ⟨(Array.getElem?_eq_some_iff.1 ho).1, .inr rfl⟩
   obtain ⟨pre, post, rfl⟩ := List.append_of_mem hsL
   have hns : ∀ j, j ∈ pre ++ post → j ≠ s := by
    intro j hj
    rcases List.mem_append.1 hj with h | h
    ·have := (List.pairwise_append.1 hL).2.2 j h s List.mem_cons_self; omega
    ·have := (List.pairwise_cons.1 (List.pairwise_append.1 hL).2.1).1 j h; omega
   have he : pre ++ post = [] := unl hF hlen hsz hr _ (hL.sublist ((List.Sublist.refl pre).append (List.sublist_cons_self s post))) fun j => by
    constructor
    ·intro hj
     have := (hmem j).1 (by simp only [List.mem_append, List.mem_cons] at hj ⊢; rcases hj with h | h <;> simp [h])
     refine ⟨this.1, this.2.resolve_right fun h => hns j hj (by simpa using h.symm)⟩
    ·rintro ⟨h1, h2⟩
     have := (hmem j).2 ⟨h1, .inl h2⟩
     simp only [List.mem_append, List.mem_cons] at this ⊢
     rcases this with h | rfl | h
     ·exact .inl h
     ·rw [hs] at h2; cases h2
     ·exact .inr h
   obtain ⟨rfl, rfl⟩ := List.append_eq_nil_iff.1 he
   obtain ⟨st2, h1, h2⟩ := commit s [] st a w (hpd s rfl).2 hrun hR
   have : st2 = st' := h1
   subst this; exact hQ a w h2
 intro fuel
 induction fuel with
 | zero =>
  intro listed pend L st a w hsz hL hmem hcl hfu hpd hrun hR
  have hnone : ∀ i, i < ops.size → listed.getD i true = true := by
   intro i hi
   cases hx : listed.getD i true with
   | true => rfl
   | false =>
    exfalso
    have hiL := (hmem i).2 ⟨hi, .inl hx⟩
    cases pend with
    | none =>
     have : L = [] := List.length_eq_zero_iff.1 (by simpa using hfu)
     rw [this] at hiL; cases hiL
    | some s =>
     obtain ⟨hs, hw⟩ := hpd s rfl
     obtain ⟨o, to, _, _, _, _, _, _, _, _, _, _, ho, _⟩ := hw
     have hsL : s ∈ L := (hmem s).2 ⟨(Array.getElem?_eq_some_iff.1 ho).1, .inr rfl⟩
     simp only [Option.toList_some, List.length_singleton] at hfu
     cases L with
     | nil => cases hsL
     | cons x L =>
      have : L = [] := List.length_eq_zero_iff.1 (by simp only [List.length_cons] at hfu; omega)
      subst this
      simp only [List.mem_singleton] at hiL hsL
      subst hiL; subst hsL
      rw [hs] at hx; cases hx
  have hready : Region.ready .any ops listed = [] := by
   cases hr : Region.ready .any ops listed with
   | nil => rfl
   | cons i r =>
    have hi : i ∈ Region.ready .any ops listed := by rw [hr]; exact List.mem_cons_self
    obtain ⟨h0, o, ho, _⟩ := mem_ready.1 hi
    rw [hnone i (Array.getElem?_eq_some_iff.1 ho).1] at h0; cases h0
  exact ⟨hready, nil listed pend L st a w hsz hL hmem hpd hrun hR hready⟩
 | succ fuel ih =>
  intro listed pend L st a w hsz hL hmem hcl hfu hpd hrun hR
  refine ⟨fun hr => nil listed pend L st a w hsz hL hmem hpd hrun hR hr, fun i hi => ?_⟩
  obtain ⟨h0, o, ho, hall'⟩ := mem_ready.1 hi
  have hin : i < ops.size := (Array.getElem?_eq_some_iff.1 ho).1
  obtain ⟨to, t1, t2, t3, t4, t5⟩ := hget i o ho
  have hanc : ∀ j, j < ops.size → ((masks[i]?).getD 0).testBit j = true → listed.getD j true = true := by
   intro j hj hb
   obtain ⟨p, hp, h⟩ := hF.anc i o j (by rw [hlen]; exact hin) ho (by rw [hlen]; exact hj) hb
   obtain ⟨e, he, rfl⟩ := List.mem_map.1 hp
   obtain ⟨he1, he2⟩ := List.mem_filter.1 he
   have hpl := hall' e (by simpa using he1) he2
   have hlt' := hF.lt i o (by rw [hlen]; exact hin) ho e.on hp
   have hpl' : listed.getD e.on true = true := by
    have : e.on < listed.size := by rw [hsz]; omega
    simpa [this] using hpl
   rcases h with rfl | h
   ·exact hpl'
   ·exact hcl e.on (by omega) hpl' j hj h
  have hgd : ∀ j, (listed.setIfInBounds i true).getD j true = if j = i then true else listed.getD j true := by
   intro j
   split
   ·rename_i h; subst h; simp [hsz, hin]
   ·rename_i h; exact getD_set_ne true (Ne.symm h)
  have hcl' : ∀ k, k < ops.size → (listed.setIfInBounds i true).getD k true = true → ∀ j, j < ops.size → ((masks[k]?).getD 0).testBit j = true → (listed.setIfInBounds i true).getD j true = true := by
   intro k hk hkl j hj hb
   rw [hgd] at hkl ⊢
   split
   ·rfl
   ·split at hkl
    ·rename_i h; subst h; exact hanc j hj hb
    ·exact hcl k hk hkl j hj hb
  have key : ∀ (pend : Option Nat) (L : List Nat) (st : St), L.Pairwise (· < ·) → (∀ i, i ∈ L ↔ i < ops.size ∧ (listed.getD i true = false ∨ pend = some i)) → L.length ≤ fuel + 1 + pend.toList.length →
    (∀ s, pend = some s → i < s ∧ listed.getD s true = true ∧ Waits P ops l it s st a) → Run P it L st st' → Rel F st a w →
    wpOp P ops Q i (wpAny P .any ops Q fuel (listed.setIfInBounds i true)) a w := by
   clear hL hmem hfu hpd hrun hR L st pend
   intro pend L st hL hmem hfu hpd hrun hR
   have hiL : i ∈ L := (hmem i).2 ⟨hin, .inl h0⟩
   obtain ⟨pre, post, rfl⟩ := List.append_of_mem hiL
   have hlt : ∀ j ∈ pre, j < i := fun j hj => (List.pairwise_append.1 hL).2.2 j hj i List.mem_cons_self
   have hpre : ∀ j ∈ pre, j < ops.size ∧ listed.getD j true = false := by
    intro j hj
    obtain ⟨h1, h2⟩ := (hmem j).1 (List.mem_append_left _ hj)
    refine ⟨h1, h2.resolve_right fun h => ?_⟩
    have := (hpd j h).1
    have := hlt j hj
    omega
   have hnd : i ∉ pre ∧ i ∉ post := by
    refine ⟨fun h => by have := hlt i h; omega, fun h => ?_⟩
    have := (List.pairwise_cons.1 (List.pairwise_append.1 hL).2.1).1 i h
    omega
   have hpair : ∀ j ∈ pre, IndT (it j).1 (it i).1 ∧ (j ∈ unmark to.free ∨ (it j).2.wr = [] ∧ (it i).2.wr = []) := by
    intro j hj
    obtain ⟨hj1, hj2⟩ := hpre j hj
    obtain ⟨x, hx, hp⟩ := hF.pair i j to t1 (hlt j hj)
    have hnb : ¬ ((masks[i]?).getD 0).testBit j = true := fun hb => by rw [hanc j hj1 hb] at hj2; cases hj2
    rcases hp with hp | ⟨hap, hp⟩
    ·exact absurd hp hnb
    ·rw [hit i to t1, hit j x hx]
     refine ⟨indT_of hap, ?_⟩
     rcases hp with hp | ⟨hp1, hp2⟩
     ·exact .inl hp
     ·exact .inr ⟨hpure j x hx hp1, hpure i to t1 hp2⟩
   have path1 : (∀ j ∈ pre, IndT (it j).1 (it i).1 ∧ ((it j).2.wr = [] ∧ (it i).2.wr = [] ∨ PairF (it j).2 (it i).2)) → wpOp P ops Q i (wpAny P .any ops Q fuel (listed.setIfInBounds i true)) a w := by
    intro hind
    obtain ⟨E, hS, hrun'⟩ := run_pull pre st st' hrun hind
    have hS0 := hS
    rw [hit i to t1] at hS hrun'
    have hstep := wpOp_put (P := P) (Q := Q) ho (step_ok (Q := Q) hall ho t2 t3 t4 t5 hS hR (K := fun a' w' => Rel F (st.put to.dst E) a' w') fun a' w' h => h)
    refine wpOp_mono (fun a' w' hh => ?_) hstep
    obtain ⟨hR', v, ds, ha'⟩ := hh
    refine ih (listed.setIfInBounds i true) pend (pre ++ post) _ a' w' (by simpa using hsz) ?_ (fun j => ?_) hcl' ?_ (fun s hs => ?_) hrun' hR'
    ·exact hL.sublist ((List.Sublist.refl pre).append (List.sublist_cons_self i post))
    ·rw [hgd]
     constructor
     ·intro hj
      have hj' := (hmem j).1 (by simp only [List.mem_append, List.mem_cons] at hj ⊢; rcases hj with h | h <;> simp [h])
      refine ⟨hj'.1, ?_⟩
      have : j ≠ i := by
       rintro rfl
       rcases List.mem_append.1 hj with h | h
       ·exact hnd.1 h
       ·exact hnd.2 h
      simpa [this] using hj'.2
     ·rintro ⟨hj1, hj2⟩
      by_cases hne : j = i
      ·subst hne
       simp only [if_true, Bool.true_eq_false, false_or] at hj2
       have := (hpd j hj2).1; omega
      ·simp only [hne, if_false] at hj2
       have := (hmem j).2 ⟨hj1, hj2⟩
       simp only [List.mem_append, List.mem_cons, hne, false_or] at this ⊢
       exact this
    ·simp only [List.length_append, List.length_cons] at hfu ⊢; omega
    ·obtain ⟨his, hsl, so, sto, t, x, y, x', y', n, p, ri, f, cs, w1, w2, w3, w4, w5, w6⟩ := hpd s hs
     have hne : s ≠ i := by omega
     refine ⟨by rw [hgd]; simp [hne, hsl], so, sto, t, x, y, x', y', n, p, ri, f, cs, w1, w2, w3, w4, ?_, w6⟩
     have hss : s < ops.size := (Array.getElem?_eq_some_iff.1 w1).1
     obtain ⟨x2, hx2, hp2⟩ := hF.pair s i sto w2 his
     rw [t1] at hx2; cases hx2
     have hnb : ¬ ((masks[s]?).getD 0).testBit i = true := fun hb => by rw [hcl s hss hsl i hin hb] at h0; cases h0
     have hcan : canWr sto.op = true := by
      have := w4.top; rw [hit s sto w2] at this; rw [this]; rfl
     rcases hp2 with hp2 | ⟨hap, hp2⟩
     ·exact absurd hp2 hnb
     ·have hk : i ∈ unmark sto.free := hp2.resolve_right fun h => by rw [hcan] at h; cases h.2
      have hT : IndT to (it s).1 := by rw [hit s sto w2]; exact indT_of hap
      refine pinned_step w4 w5 hS hT (indF_of (w6 i hk)) ?_
      rw [ha']
      refine eval_put w4.cy fun d hd hm => ?_
      refine (hT.a d (by rw [t5]; exact hd)).1 ?_
      simp [lookT, w4.top, opTm, hm]
   by_cases hpe : pre = []
   ·exact path1 fun j hj => by rw [hpe] at hj; cases hj
   rcases hfr i to t1 with hp | ⟨hm, hd, hp⟩
   ·refine path1 fun j hj => ⟨(hpair j hj).1, ?_⟩
    rcases (hpair j hj).2 with h | h
    ·exact .inr (pairF_of (hp j h))
    ·exact .inl h
   obtain ⟨o', t, x, y, ho', hop, hg, hdst, hord⟩ := hF.late i to t1 hm
   rw [ho] at ho'; cases ho'
   have hpn : pend = none := by
    cases pend with
    | none => rfl
    | some s =>
     exfalso
     obtain ⟨his, hsl, so, _, _, _, _, _, _, _, _, _, _, _, w1, _⟩ := hpd s rfl
     have hss : s < ops.size := (Array.getElem?_eq_some_iff.1 w1).1
     rw [hcl s hss hsl i hin (hord s (by rw [hlen]; exact hss) his).1] at h0; cases h0
   subst hpn
   rw [compOp_eq (by rw [hop]; rfl)] at t2
   simp only [compOp0, hop, Option.bind_eq_some_iff, Option.some.injEq] at t2
   obtain ⟨n, hn, x', hx, y', hy, htop⟩ := t2
   have hgd' : to.guard = none := by
    rw [hg] at t3
    simpa [compGuard] using t3.symm
   have hlate : Late P it o i t x y x' y' n := ⟨hop, hdst, hg, by rw [hit i to t1, t5, hdst], by rw [hit i to t1, hgd'], by rw [hit i to t1]; exact htop.symm, hn, hx, hy, hd⟩
   have hcan : canWr to.op = true := by rw [← htop]; rfl
   refine late_early (N := ops.size) ho hlate hrun (fun j hj => ?_) (fun j hj => ⟨(hpair j hj).1, ?_⟩) hR fun st2 w2 p ri f cs hR2 hrun2 hpin => ?_
   ·have := ((hmem j).1 hj).1; omega
   ·rcases (hpair j hj).2 with h | h
    ·exact indF_of (hp j h)
    ·exfalso
     obtain ⟨st1, hr1, E, hS, _⟩ := run_app.1 hrun
     obtain ⟨_, hf⟩ := (stepF_plain hlate.tguard).1 hS
     have hE := ((stepF_plain hlate.tguard).1 hS).1
     rw [hlate.top] at hE
     simp only [opW] at hE
     split at hE
     case h_2 => exact hE.elim
     rename_i pp ii ff hpt
     split at hE
     case h_2 => exact hE.elim
     obtain ⟨_, hrow, rfl⟩ := hE
     split at hrow
     case h_2 => exact hrow.elim
     rename_i hr
     have hp0 := node_ne hr
     have := h.2
     rw [hf] at this
     cases pp with
     | nil => exact hp0 rfl
     | cons s t => simp [footOf] at this
   ·refine ih (listed.setIfInBounds i true) (some i) (pre ++ i :: post) st2 a w2 (by simpa using hsz) hL (fun j => ?_) hcl' (by simpa using hfu) (fun s hs => ?_) hrun2 hR2
    ·rw [hgd, hmem j]
     by_cases hne : j = i
     ·subst hne; simp [h0]
     ·have : ¬ i = j := fun h => hne h.symm
      simp [hne, this]
    ·simp only [Option.some.injEq] at hs; subst hs
     exact ⟨by rw [hgd]; simp, o, to, t, x, y, x', y', n, p, ri, f, cs, ho, t1, hm, hlate, hpin, hp⟩
  cases pend with
  | none => exact key none L st hL hmem (by simpa using hfu) (fun s hs => by cases hs) hrun hR
  | some s =>
   obtain ⟨hsl, hw⟩ := hpd s rfl
   have hw0 := hw
   obtain ⟨so, sto, _, _, _, _, _, _, _, _, _, _, w1, w2, w3, _⟩ := hw0
   have hss : s < ops.size := (Array.getElem?_eq_some_iff.1 w1).1
   rcases Nat.lt_trichotomy i s with h | h | h
   ·refine key (some s) L st hL hmem (by simpa using hfu) (fun s' hs' => ?_) hrun hR
    simp only [Option.some.injEq] at hs'; subst hs'
    exact ⟨h, hsl, hw⟩
   ·subst h; rw [hsl] at h0; cases h0
   ·
    obtain ⟨_, _, _, _, _, _, _, _, hord⟩ := hF.late s sto w2 w3
    obtain ⟨_, hord2⟩ := hord i (by rw [hlen]; exact hin) h
    have hsL : s ∈ L := (hmem s).2 ⟨hss, .inr rfl⟩
    obtain ⟨pre, post, rfl⟩ := List.append_of_mem hsL
    have hpe : pre = [] := by
     cases pre with
     | nil => rfl
     | cons k pre =>
      exfalso
      have hks : k < s := (List.pairwise_append.1 hL).2.2 k List.mem_cons_self s List.mem_cons_self
      obtain ⟨hk1, hk2⟩ := (hmem k).1 (by simp)
      have hk3 : listed.getD k true = false := hk2.resolve_right fun h => by simp only [Option.some.injEq] at h; omega
      rcases hord2 k hks with hb | hb
      ·rw [hcl s hss hsl k hk1 hb] at hk3; cases hk3
      ·rw [hanc k hk1 hb] at hk3; cases hk3
    subst hpe
    obtain ⟨st2, h1, h2⟩ := commit s post st a w hw hrun hR
    have hns : ∀ j ∈ post, j ≠ s := fun j hj => by have := (List.pairwise_cons.1 hL).1 j hj; omega
    refine key none post st2 (List.pairwise_cons.1 hL).2 (fun j => ?_) (by simp only [List.nil_append, List.length_cons, Option.toList_some, List.length_nil] at hfu; simp; omega) (fun s hs => by cases hs) h1 h2
    constructor
    ·intro hj
     obtain ⟨q1, q2⟩ := (hmem j).1 (by simp [hj])
     exact ⟨q1, .inl (q2.resolve_right fun h => hns j hj (by simpa using h.symm))⟩
    ·rintro ⟨q1, q2⟩
     have q3 : listed.getD j true = false := q2.resolve_right (by simp)
     have := (hmem j).2 ⟨q1, .inl q3⟩
     simp only [List.nil_append, List.mem_cons] at this
     rcases this with rfl | h
     ·rw [hsl] at q3; cases q3
     ·exact h
theorem drawsGood_of (hall : AllGood P) : DrawsGood P := by
 intro F rid ops l st a w TQ Q hc hR hT hQ
 simp only [compDraw, Option.bind_eq_some_iff] at hc
 obtain ⟨tl, h1, hc⟩ := hc
 split at hc
 case isFalse => cases hc
 rename_i hmo
 simp only [Option.some.injEq] at hc
 obtain ⟨hmix, hok⟩ := hmo
 rw [hc] at hok
 have hF := drawF_of hok
 obtain ⟨g1, g2⟩ := compOps_get h1
 have hlen : l.length = ops.size := by rw [← hc]; simpa using g1
 have hget : ∀ (i : Nat) (o : Oper), ops[i]? = some o → ∃ to : TOper, l[i]? = some to ∧ compOp P o = some to.op ∧ compGuard ops o.guard = some to.guard ∧ dstOk F.N o.dst = true ∧ to.dst = o.dst := by
  intro i o ho
  obtain ⟨to, q1, q2, q3, q4, q5⟩ := g2 i o (by simpa using ho)
  exact ⟨{ to with free := freeOf ops (ancGo (ops.toList.map predsOf) []) tl i to }, by rw [← hc, List.getElem?_mapIdx, q1]; rfl, q2, q3, q4, q5⟩
 obtain ⟨gs, st', k1, k2, k3, k4⟩ := drawW_run l [] st TQ hT
 let it : Nat → TOper × Foot := fun i => ((l[i]?).getD default, (gs[i]?).getD ⟨[], [], [], 0, true, none, none⟩)
 have hit : ∀ i to, l[i]? = some to → (it i).1 = to := fun i to h => by simp [it, h]
 have hrun := k3 it (fun i o h => by simp [it, h]) (fun i g h => by simp [it, h])
 simp only [List.length_nil, List.nil_append] at hrun k4
 have hgs : ∀ i to, l[i]? = some to → ∃ g, gs[i]? = some g ∧ (it i).2 = g := by
  intro i to h
  have : i < gs.length := by rw [k1]; exact (List.getElem?_eq_some_iff.1 h).1
  exact ⟨gs[i], by simp [this], by simp [it, this]⟩
 refine wp_region_any hmix ?_
 have hR' : Rel F st a { w with drawn := w.drawn + 1 } := by
  obtain ⟨κ, γ, r1, r2, r3, r4, r5, r6, r7⟩ := hR
  have hs : Same w { w with drawn := w.drawn + 1 } := ⟨rfl, rfl, rfl, rfl⟩
  exact ⟨κ, γ, r1.same hs, r2, r3, fun k => (r4 k).same hs, r5, r6, r7⟩
 refine any_ok hall (it := it) hF hlen hget hit (fun i to h => ?_) (fun i to h hw => ?_) (fun a w hR => hQ st' a w hR k2) ops.size _ none (List.range' 0 l.length) st a _ (by simp) ?_ (fun i => ?_) (fun i hi hl => ?_) (by simp [hlen]) (fun s hs => by cases hs) hrun hR'
 ·obtain ⟨g, e1, e2⟩ := hgs i to h
  rw [e2]
  rcases k4 i to g h e1 with hh | ⟨hm, hd, hh⟩
  ·refine .inl fun k hk => ?_
   obtain ⟨f, e3, e4⟩ := hh k hk
   have : (it k).2 = f := by simp [it, e3]
   rw [this]; exact e4
  ·refine .inr ⟨hm, hd, fun k hk => ?_⟩
   obtain ⟨f, e3, e4⟩ := hh k hk
   have : (it k).2 = f := by simp [it, e3]
   rw [this]; exact e4
 ·obtain ⟨s, E, hS⟩ := run_steps hrun i (by simp; exact (List.getElem?_eq_some_iff.1 h).1)
  exact step_pure hS (by rw [hit i to h]; exact hw)
 ·exact List.pairwise_lt_range'
 ·simp only [List.mem_range', hlen]
  constructor
  ·rintro ⟨j, hj, rfl⟩
   refine ⟨by omega, ?_⟩
   simp [hj]
  ·rintro ⟨h1, _⟩
   exact ⟨i, h1, by omega⟩
 ·rw [← hlen] at hi; simp [hlen ▸ hi] at hl
theorem drawsGood (P : Program) : DrawsGood P := drawsGood_of (allGood P)
theorem mk_contract {al : Bool} {g : FuncId} {fn : Func} {c : Code} {tc : TCode} {ms : List Mode} {args res : List TV} {outs : List (Option TV)} (gq : List (Option Path)) {rt : List TRes}
  (hf : P.funcs[g]? = some fn) (hb : fn.body = some c) (hc : compCode P fn.ntmps c = some tc) (hr : resTmps P fn.results.toList = some rt) (hn : args.length ≤ fn.ntmps)
  (hT : ms.length = args.length → twp P tc (endW al res outs gq rt) (initSt ms args)) : Contract P al g ms args res outs :=
 contract_of (allGood P) (drawsGood P) gq hf hb hc hr hn hT
end
end Go.Proofs.YtmedelmfkciblaaT


namespace Go.Proofs.YtmedelmfkciblaaT
set_option linter.unusedVariables false
set_option linter.unusedSimpArgs false
open Go
section
variable {P : Program} {st : St} {root : Nat} {K : Eff → Prop}
def underB (ds : List Path) (bs : List (Option Path)) (q : Path) : Bool := under ds q && !(bs.any (· == some q))
@[simp] theorem underB_app (ds : List Path) (bs : List (Option Path)) (q : Path) : underB ds bs q = (under ds q && !(bs.any (· == some q))) := nrfl rfl
def deadC (ds : List Path) (bs : List (Option Path)) : Option (Path → Bool) := if ds = [] then none else some (underB ds bs)
@[simp] theorem deadC_nil (bs : List (Option Path)) : deadC [] bs = none := nrfl rfl
@[simp] theorem deadC_cons (p : Path) (ds : List Path) (bs : List (Option Path)) : deadC (p :: ds) bs = some (underB (p :: ds) bs) := nrfl rfl
def callE (root : Nat) (res : List TV) (outs : List (Option TV)) (H1 : Hp) (ds : List Path) (ps : List (Option Path)) (K : Eff → Prop) : Bool → Prop
 | true => K ⟨resT (refTu root 0 res), deadC ds (backsOf ps outs), setRoot (putBack H1 (backsOf ps outs) (outsT outs)) root (res.flatMap cellsT), root :: prs ds, some root, []⟩
 | false => K ⟨resT res, deadC ds (backsOf ps outs), putBack H1 (backsOf ps outs) (outsT outs), prs ds, none, []⟩
@[simp] theorem callE_t (res : List TV) (outs : List (Option TV)) (H1 : Hp) (ds : List Path) (ps : List (Option Path)) :
  callE root res outs H1 ds ps K true = K ⟨resT (refTu root 0 res), deadC ds (backsOf ps outs), setRoot (putBack H1 (backsOf ps outs) (outsT outs)) root (res.flatMap cellsT), root :: prs ds, some root, []⟩ := nrfl rfl
@[simp] theorem callE_f (res : List TV) (outs : List (Option TV)) (H1 : Hp) (ds : List Path) (ps : List (Option Path)) :
  callE root res outs H1 ds ps K false = K ⟨resT res, deadC ds (backsOf ps outs), putBack H1 (backsOf ps outs) (outsT outs), prs ds, none, []⟩ := nrfl rfl
def callK (st : St) (root : Nat) (H1 : Hp) (ds : List Path) (ps : List (Option Path)) (K : Eff → Prop) (res : List TV) (outs : List (Option TV)) : Prop :=
 backOk st.H H1 ps outs ∧ callE root res outs H1 ds ps K ((res.flatMap cellsT).any isOwn)
@[simp] theorem callK_app (H1 : Hp) (ds : List Path) (ps : List (Option Path)) (res : List TV) (outs : List (Option TV)) :
  callK st root H1 ds ps K res outs = (backOk st.H H1 ps outs ∧ callE root res outs H1 ds ps K ((res.flatMap cellsT).any isOwn)) := nrfl rfl
def callX (P : Program) (g : FuncId) (ms : List Mode) (nn : List Bool) (args : List TV) (ro : Bool) (C : List TV → List (Option TV) → Prop) : Prop :=
 ∃ al res outs, ContractA P nn al g ms args res outs ∧ (al = true → ro = false) ∧ C res outs
theorem callX_nil {al ro : Bool} {g : FuncId} {ms : List Mode} {nn : List Bool} {args res : List TV} {outs : List (Option TV)} {C : List TV → List (Option TV) → Prop} (h : ContractA P nn al g ms args res outs) (hal : al = false ∨ ro = false) (hC : C res outs) : callX P g ms nn args ro C :=
 ⟨al, res, outs, h, fun h => by rcases hal with h' | h' <;> simp_all, hC⟩
theorem callX_of {al ro : Bool} {g : FuncId} {ms : List Mode} {nn : List Bool} {args res : List TV} {outs : List (Option TV)} {C : List TV → List (Option TV) → Prop} (h : Contract P al g ms args res outs) (hal : al = false ∨ ro = false) (hC : C res outs) : callX P g ms nn args ro C :=
 callX_nil (h.toA nn) hal hC
def callB (P : Program) (g : FuncId) (ms : List Mode) (nn : List Bool) (C : List TV → List (Option TV) → Prop) : Option (List TV × Bool) → Prop
 | some (args, ro) => callX P g ms nn args ro C
 | none => False
@[simp] theorem callB_s (g : FuncId) (ms : List Mode) (nn : List Bool) (C : List TV → List (Option TV) → Prop) (args : List TV) (ro : Bool) : callB P g ms nn C (some (args, ro)) = callX P g ms nn args ro C := nrfl rfl
def callA (P : Program) (st : St) (root : Nat) (g : FuncId) (ms : List Mode) (as : List (TV × Nat)) (K : Eff → Prop) : Option (List TV × Hp × List Path × List (Option Path)) → Prop
 | some (tk, H1, ds, ps) => callB P g ms (as.map fun a => nilT a.1) (callK st root H1 ds ps K) (roArgs H1 ms as tk)
 | none => False
@[simp] theorem callA_s (g : FuncId) (ms : List Mode) (as : List (TV × Nat)) (tk : List TV) (H1 : Hp) (ds : List Path) (ps : List (Option Path)) :
  callA P st root g ms as K (some (tk, H1, ds, ps)) = callB P g ms (as.map fun a => nilT a.1) (callK st root H1 ds ps K) (roArgs H1 ms as tk) := nrfl rfl
theorem callW_ms {g : FuncId} {as : List (TV × Nat)} (ms : List Mode) (h : st.H root = [] ∧ 2 ≤ root ∧ callA P st root g ms as K (takeArgs st.H ms as)) : callW P st root g as K := by
 obtain ⟨h1, h2, h⟩ := h
 cases ht : takeArgs st.H ms as with
 | none => rw [ht] at h; exact h.elim
 | some x =>
  obtain ⟨tk, H1, ds, ps⟩ := x
  rw [ht] at h
  simp only [callA_s] at h
  cases hr : roArgs H1 ms as tk with
  | none => rw [hr] at h; exact h.elim
  | some y =>
   obtain ⟨args, ro⟩ := y
   rw [hr] at h
   obtain ⟨al, res, outs, hC, hal, hb, hK⟩ := h
   refine ⟨al, ms, args, res, outs, hC, h1, h2, tk, H1, ds, ps, ro, ht, hr, hal, hb, ?_⟩
   by_cases ho : (res.flatMap cellsT).any isOwn = true
   ·rw [ho] at hK
    simp only [ho, if_true]; exact hK
   ·simp only [Bool.not_eq_true] at ho
    rw [ho] at hK
    simp only [ho, Bool.false_eq_true, if_false]; exact hK
def tkA (ms : List Mode) (as : List (TV × Nat)) (u : TV) : Option (List TV × Hp × List Path) → Option (List TV × Hp × List Path × List (Option Path))
 | some (us, H1, ds) => (takeArgs H1 ms as).bind fun y => some (tkOf u us :: y.1, y.2.1, ds ++ y.2.2.1, (cellsT u).map pathOf ++ y.2.2.2)
 | none => none
@[simp] theorem takeArgs_nil' (H : Hp) : takeArgs H [] [] = some ([], H, [], []) := nrfl rfl
@[simp] theorem takeArgs_ro (H : Hp) (ms : List Mode) (a : TV × Nat) (as : List (TV × Nat)) : takeArgs H (.ro :: ms) (a :: as) = (takeArgs H ms as).bind fun y => some (.junk :: y.1, y.2.1, y.2.2.1, y.2.2.2) := nrfl rfl
@[simp] theorem takeArgs_own (H : Hp) (ms : List Mode) (u : TV) (n : Nat) (as : List (TV × Nat)) : takeArgs H (.own :: ms) ((u, n) :: as) = tkA ms as u (takeL (cellsT u) H) := by
 unfold tkA; simp only [takeArgs]; cases takeL (cellsT u) H <;> rfl
@[simp] theorem tkA_s (ms : List Mode) (as : List (TV × Nat)) (u : TV) (us : List TV) (H1 : Hp) (ds : List Path) :
  tkA ms as u (some (us, H1, ds)) = (takeArgs H1 ms as).bind fun y => some (tkOf u us :: y.1, y.2.1, ds ++ y.2.2.1, (cellsT u).map pathOf ++ y.2.2.2) := nrfl rfl
@[simp] theorem roArgs_nil' (H : Hp) : roArgs H [] [] [] = some ([], false) := nrfl rfl
@[simp] theorem roArgs_ro (H : Hp) (ms : List Mode) (u t : TV) (n : Nat) (as : List (TV × Nat)) (ts : List TV) : roArgs H (.ro :: ms) ((u, n) :: as) (t :: ts) = (roT H n u).bind fun x => (roArgs H ms as ts).bind fun y => some (x.1 :: y.1, x.2 || y.2) := nrfl rfl
@[simp] theorem roArgs_own (H : Hp) (ms : List Mode) (a : TV × Nat) (t : TV) (as : List (TV × Nat)) (ts : List TV) : roArgs H (.own :: ms) (a :: as) (t :: ts) = (roArgs H ms as ts).bind fun y => some (t :: y.1, y.2) := nrfl rfl
def roV (off len : Nat) : Option TV → Option (TV × Bool)
 | some (.sl true z es) => some (.sl false z (fzLL ((es.drop off).take len)), true)
 | _ => none
@[simp] theorem roT_rf' (H : Hp) (n : Nat) (p : Path) (off len : Nat) : roT H n (.rf p off len) = roV off len (cellAt H p) := by unfold roV; simp only [roT] <;> rfl
@[simp] theorem roV_s (off len z : Nat) (es : List (List TV)) : roV off len (some (.sl true z es)) = some (.sl false z (fzLL ((es.drop off).take len)), true) := nrfl rfl
@[simp] theorem roT_ag (H : Hp) (n : Nat) (cs : List TV) : roT H n (.ag cs) = (roL H n cs).bind fun x => some (.ag x.1, x.2) := nrfl rfl
@[simp] theorem roT_r (H : Hp) (n z : Nat) (es : List (List TV)) : roT H n (.sl false z es) = some (.sl false z es, false) := nrfl rfl
@[simp] theorem roT_i (H : Hp) (n : Nat) (k : IntKind) (m : Int) : roT H n (.i k m) = some (.i k m, false) := nrfl rfl
@[simp] theorem roT_f (H : Hp) (n : Nat) (x : Nat) : roT H n (.f x) = some (.f x, false) := nrfl rfl
@[simp] theorem roT_s (H : Hp) (n : Nat) (x : ByteArray) : roT H n (.s x) = some (.s x, false) := nrfl rfl
@[simp] theorem roL_nil (H : Hp) (n : Nat) : roL H n [] = some ([], false) := nrfl rfl
@[simp] theorem roL_cons (H : Hp) (n : Nat) (u : TV) (us : List TV) : roL H n (u :: us) = (roT H n u).bind fun x => (roL H n us).bind fun y => some (x.1 :: y.1, x.2 || y.2) := nrfl rfl
@[simp] theorem resT_1 (u : TV) : resT [u] = u := nrfl rfl
@[simp] theorem resT_0 : resT [] = .tu [] := nrfl rfl
@[simp] theorem resT_2 (u v : TV) (us : List TV) : resT (u :: v :: us) = .tu (u :: v :: us) := nrfl rfl
@[simp] theorem refTu_nil (r k : Nat) : refTu r k [] = [] := nrfl rfl
@[simp] theorem refTu_ag (r k : Nat) (cs us : List TV) : refTu r k (.ag cs :: us) = .ag (refsFrom [] r k cs) :: refTu r (k + cs.length) us := nrfl rfl
@[simp] theorem refTu_sl (r k z : Nat) (o : Bool) (es : List (List TV)) (us : List TV) : refTu r k (.sl o z es :: us) = toRef [(r, k)] (.sl o z es) :: refTu r (k + 1) us := nrfl rfl
@[simp] theorem refTu_po (r k : Nat) (o : Bool) (cs : List TV) (us : List TV) : refTu r k (.po o cs :: us) = toRef [(r, k)] (.po o cs) :: refTu r (k + 1) us := nrfl rfl
@[simp] theorem refTu_b (r k : Nat) (x : Bool) (us : List TV) : refTu r k (.b x :: us) = .b x :: refTu r (k + 1) us := nrfl rfl
@[simp] theorem refTu_i (r k : Nat) (kk : IntKind) (x : Int) (us : List TV) : refTu r k (.i kk x :: us) = .i kk x :: refTu r (k + 1) us := nrfl rfl
@[simp] theorem backsOf_nil (os : List (Option TV)) : backsOf [] os = [] := by cases os <;> rfl
@[simp] theorem backsOf_s (p : Option Path) (ps : List (Option Path)) (u : TV) (os : List (Option TV)) : backsOf (p :: ps) (some u :: os) = p :: backsOf ps os := nrfl rfl
@[simp] theorem backsOf_n (p : Option Path) (ps : List (Option Path)) (os : List (Option TV)) : backsOf (p :: ps) (none :: os) = none :: backsOf ps os := by cases p <;> rfl
@[simp] theorem outsT_nil : outsT [] = [] := nrfl rfl
@[simp] theorem outsT_s (u : TV) (os : List (Option TV)) : outsT (some u :: os) = u :: outsT os := nrfl rfl
@[simp] theorem outsT_n (os : List (Option TV)) : outsT (none :: os) = .junk :: outsT os := nrfl rfl
@[simp] theorem putBack_nil' (H : Hp) (us : List TV) : putBack H [] us = H := by cases us <;> rfl
@[simp] theorem putBack_s (H : Hp) (p : Path) (bs : List (Option Path)) (u : TV) (us : List TV) : putBack H (some p :: bs) (u :: us) = putBack (modH H (fun _ => u) p) bs us := nrfl rfl
@[simp] theorem putBack_n (H : Hp) (bs : List (Option Path)) (u : TV) (us : List TV) : putBack H (none :: bs) (u :: us) = putBack H bs us := nrfl rfl
@[simp] theorem backOk_nil (H H1 : Hp) : backOk H H1 [] [] = True := nrfl rfl
@[simp] theorem backOk_ss (H H1 : Hp) (p : Path) (ps : List (Option Path)) (u : TV) (os : List (Option TV)) : backOk H H1 (some p :: ps) (some u :: os) = ((shape u = shapeAt H p ∧ (cellAt H1 p).isSome = true ∧ some p ∉ backsOf ps os) ∧ backOk H H1 ps os) := nrfl rfl
@[simp] theorem backOk_n (H H1 : Hp) (p : Option Path) (ps : List (Option Path)) (os : List (Option TV)) : backOk H H1 (p :: ps) (none :: os) = backOk H H1 ps os := by cases p <;> rfl
attribute [simp] tkOf pathOf isOwn prs_nil prs_cons
section
variable {al : Bool} {res : List TV} {outs : List (Option TV)} {gq : List (Option Path)} {rt : List TRes}
def endV3 (st : St) (outs : List (Option TV)) (gq : List (Option Path)) : Option (List TV × Hp × List Path) → Prop
 | some (ls, _, _) => backs st 0 gq ls outs
 | none => False
@[simp] theorem endV3_s (ls : List TV) (H2 : Hp) (ds : List Path) : endV3 st outs gq (some (ls, H2, ds)) = backs st 0 gq ls outs := nrfl rfl
def endV2 (al : Bool) (st : St) (res : List TV) (outs : List (Option TV)) (gq : List (Option Path)) : Option (List TV × Hp × List Path) → Prop
 | some (us, H1, _) => us = res.flatMap cellsT ∧ (al = false → us.all noRO = true ∧ outsNoRO outs = true) ∧ endV3 st outs gq (takeL (gq.map (ghostRef H1)) H1)
 | none => False
@[simp] theorem endV2_s (us : List TV) (H1 : Hp) (ds : List Path) : endV2 al st res outs gq (some (us, H1, ds)) = (us = res.flatMap cellsT ∧ (al = false → us.all noRO = true ∧ outsNoRO outs = true) ∧ endV3 st outs gq (takeL (gq.map (ghostRef H1)) H1)) := nrfl rfl
def endV1 (al : Bool) (st : St) (res : List TV) (outs : List (Option TV)) (gq : List (Option Path)) : Option (List TV) → Prop
 | some tvs => tvs.map isAg = res.map isAg ∧ tvs.map (fun u => (cellsT u).length) = res.map (fun u => (cellsT u).length) ∧ endV2 al st res outs gq (takeL (tvs.flatMap cellsT) st.H)
 | none => False
@[simp] theorem endV1_s (tvs : List TV) : endV1 al st res outs gq (some tvs) = (tvs.map isAg = res.map isAg ∧ tvs.map (fun u => (cellsT u).length) = res.map (fun u => (cellsT u).length) ∧ endV2 al st res outs gq (takeL (tvs.flatMap cellsT) st.H)) := nrfl rfl
theorem endV_eq : endV1 al st res outs gq (optAll (rt.map (resTV st))) = ∃ tvs us H1 ds ls H2 ds2, optAll (rt.map (resTV st)) = some tvs ∧ takeL (tvs.flatMap cellsT) st.H = some (us, H1, ds) ∧ us = res.flatMap cellsT ∧
   tvs.map isAg = res.map isAg ∧ tvs.map (fun u => (cellsT u).length) = res.map (fun u => (cellsT u).length) ∧
   takeL (gq.map (ghostRef H1)) H1 = some (ls, H2, ds2) ∧ backs st 0 gq ls outs ∧ (al = false → us.all noRO = true ∧ outsNoRO outs = true) := by
 apply propext
 cases h1 : optAll (rt.map (resTV st)) with
 | none => simp [endV1]
 | some tvs =>
  simp only [endV1]
  cases h2 : takeL (tvs.flatMap cellsT) st.H with
  | none =>
   simp only [endV2]
   constructor
   ·rintro ⟨_, _, h⟩; exact h.elim
   ·rintro ⟨tvs', us, H1, ds, ls, H2, ds2, e, h, _⟩; cases e; rw [h2] at h; cases h
  | some x =>
   obtain ⟨us, H1, ds⟩ := x
   simp only [endV2]
   cases h3 : takeL (gq.map (ghostRef H1)) H1 with
   | none =>
    simp only [endV3]
    constructor
    ·rintro ⟨_, _, _, _, h⟩; exact h.elim
    ·rintro ⟨tvs', us', H1', ds', ls, H2, ds2, e, h, _, _, _, h4, _⟩; cases e; rw [h2] at h; cases h; rw [h3] at h4; cases h4
   | some y =>
    obtain ⟨ls, H2, ds2⟩ := y
    simp only [endV3]
    constructor
    ·rintro ⟨a, b, c, d, e⟩
     exact ⟨tvs, us, H1, ds, ls, H2, ds2, rfl, h2, c, a, b, h3, e, d⟩
    ·rintro ⟨tvs', us', H1', ds', ls', H2', ds2', e, h, c, a, b, h4, e2, d⟩
     cases e; rw [h2] at h; cases h; rw [h3] at h4; cases h4
     exact ⟨a, b, c, d, e2⟩
@[simp] theorem endW_r : endW al res outs gq rt .ret st = endV1 al st res outs gq (optAll (rt.map (resTV st))) := by rw [endV_eq]; rfl
@[simp] theorem resTV_tmp (t : Nat) : resTV st (.tmp t) = some (st.t t) := nrfl rfl
@[simp] theorem resTV_cell (t : Nat) (g : Bool) (n : Nat) : resTV st (.cell t g n) = loadT st.H g n (st.t t) := nrfl rfl
def loadTV (p : Path) (i f : Nat) (g : Bool) (n : Nat) : Option (List TV) → Option TV
 | some cs => if f + n ≤ cs.length then
   if g then some (.ag (refsFrom p i f ((cs.drop f).take n))) else some ((refsFrom p i f ((cs.drop f).take 1)).headD .junk) else none
 | none => none
@[simp] theorem loadT_pt (H : Hp) (g : Bool) (n : Nat) (p : Path) (i f : Nat) : loadT H g n (.pt p i f) = loadTV p i f g n (rowAt H p i) := by
 unfold loadTV; simp only [loadT]; cases rowAt H p i <;> rfl
@[simp] theorem loadTV_s (p : Path) (i f : Nat) (g : Bool) (n : Nat) (cs : List TV) : loadTV p i f g n (some cs) = if f + n ≤ cs.length then
   if g then some (.ag (refsFrom p i f ((cs.drop f).take n))) else some ((refsFrom p i f ((cs.drop f).take 1)).headD .junk) else none := nrfl rfl
@[simp] theorem optAll_nil {α : Type} : optAll ([] : List (Option α)) = some [] := nrfl rfl
@[simp] theorem optAll_cons {α : Type} (x : α) (xs : List (Option α)) : optAll (some x :: xs) = (optAll xs).bind fun ys => some (x :: ys) := by simp [optAll]
def ghostV (q : Path) : Option TV → TV
 | some (.sl true _ es) => .rf q 0 es.length
 | some (.po true _) => .pt q 0 0
 | _ => .junk
@[simp] theorem ghost_n (H : Hp) : ghostRef H none = .np := nrfl rfl
@[simp] theorem ghost_s (H : Hp) (q : Path) : ghostRef H (some q) = ghostV q (cellAt H q) := nrfl rfl
@[simp] theorem ghostV_s (q : Path) (z : Nat) (es : List (List TV)) : ghostV q (some (.sl true z es)) = .rf q 0 es.length := nrfl rfl
@[simp] theorem ghostV_p (q : Path) (cs : List TV) : ghostV q (some (.po true cs)) = .pt q 0 0 := nrfl rfl
@[simp] theorem backs_nil (m : Nat) : backs st m [] [] [] = True := nrfl rfl
@[simp] theorem backs_s (m : Nat) (q : Path) (gq : List (Option Path)) (l u : TV) (ls : List TV) (os : List (Option TV)) : backs st m (some q :: gq) (l :: ls) (some u :: os) = (l = u ∧ (shape u).isSome = true ∧ (q = [(1, m)] ∨ st.org q = some m) ∧ backs st (m + 1) gq ls os) := nrfl rfl
@[simp] theorem backs_n (m : Nat) (gq : List (Option Path)) (l : TV) (ls : List TV) (os : List (Option TV)) : backs st m (none :: gq) (l :: ls) (none :: os) = backs st (m + 1) gq ls os := nrfl rfl
@[simp] theorem outsNoRO_nil : outsNoRO [] = true := nrfl rfl
@[simp] theorem outsNoRO_s (u : TV) (os : List (Option TV)) : outsNoRO (some u :: os) = (noRO u && outsNoRO os) := nrfl rfl
@[simp] theorem outsNoRO_n (os : List (Option TV)) : outsNoRO (none :: os) = outsNoRO os := nrfl rfl
attribute [simp] noRO noROL noROLL
@[simp] theorem O_nil (ob : Path → Option Nat) (q : Path) : O [] ob q = ob q := nrfl rfl
@[simp] theorem O_cons (nr : Option Nat) (norg : List (Option Nat)) (dead : Option (Path → Bool)) (os : List OE) (ob : Path → Option Nat) (s : Nat × Nat) (r : Path) : O (⟨nr, norg, dead⟩ :: os) ob (s :: r) = if nr = some s.1 then (match r with
    | [t] => if s.2 = 0 ∧ t.1 = 0 then (norg[t.2]?).bind id else none
    | _ => none) else if deadB dead (s :: r) = true then none else O os ob (s :: r) := nrfl rfl
attribute [simp] deadB norgOf orgOf
end
@[simp] theorem condS_dec {a b : TCode} {TQ : TExit → St → Prop} (p : Prop) [Decidable p] : condS P a b TQ st (decide p) = ((p → twp P a TQ st) ∧ (¬ p → twp P b TQ st)) := by
 unfold condS; simp
@[simp] theorem condS_not {a b : TCode} {TQ : TExit → St → Prop} (x : Bool) : condS P a b TQ st (!x) = condS P b a TQ st x := by
 cases x <;> simp
end
end Go.Proofs.YtmedelmfkciblaaT


namespace Go.Proofs.YtmedelmfkciblaaT
set_option linter.unusedVariables false
set_option linter.unusedSimpArgs false
open Go
section
variable {P : Program} {st : St} {root : Nat} {K : Eff → Prop} {E : Eff}
theorem binT_mono {op : BinOp} {x y : TV} {K : TV → Prop} {v : TV} (h : binT op x y (· = v)) (hK : K v) : binT op x y K := by
 unfold binT at h ⊢
 split at h
 ·cases op <;> simp only at h ⊢ <;> first
   | (obtain ⟨h1, h2, rfl⟩ := h; exact ⟨h1, h2, hK⟩)
   | (obtain ⟨h1, rfl⟩ := h; exact ⟨h1, hK⟩)
 ·cases op <;> simp only at h ⊢ <;> first
   | (obtain ⟨h1, rfl⟩ := h; exact ⟨h1, hK⟩)
   | (subst h; exact hK)
   | exact h.elim
 ·cases op <;> simp only at h ⊢ <;> first
   | (subst h; exact hK)
   | exact h.elim
 ·exact h.elim
theorem callW_mono {g : FuncId} {as : List (TV × Nat)} (h : callW P st root g as (· = E)) (hK : K E) : callW P st root g as K := by
 obtain ⟨al, ms, args, res, outs, hc, hr1, hr2, tk, H1, ds, ps, ro, h1, h2, h3, h4, h5⟩ := h
 subst h5
 exact ⟨al, ms, args, res, outs, hc, hr1, hr2, tk, H1, ds, ps, ro, h1, h2, h3, h4, hK⟩
theorem opW_mono {op : TOp} (h : opW P st root op (· = E)) (hK : K E) : opW P st root op K := by
 cases op with
 | call g args => exact callW_mono h hK
 | callv f args =>
  simp only [opW] at h ⊢
  split at h
  ·exact ⟨h.1, callW_mono h.2 hK⟩
  ·exact h.elim
 | bin o x y =>
  simp only [opW] at h ⊢
  obtain ⟨v, h1, h2⟩ := binT_one h
  subst h2
  exact binT_mono h1 hK
 | slice str z x lo hi =>
  cases str with
  | true =>
   simp only [opW] at h ⊢
   split at h
   case h_2 => exact h.elim
   obtain ⟨l, _, h, hl⟩ := optB_one h
   obtain ⟨u, _, h, hu⟩ := optB_one h
   refine hl _ (hu _ ⟨h.1, h.2.1, h.2.2.1, ?_⟩)
   rw [h.2.2.2]; exact hK
  | false =>
   simp only [opW] at h ⊢
   split at h
   ·obtain ⟨hz, h⟩ := h
    obtain ⟨l, _, h, hl⟩ := optB_one h
    obtain ⟨u, _, h, hu⟩ := optB_one h
    refine ⟨hz, hl _ (hu _ ⟨h.1, h.2.1, h.2.2.1, ?_⟩)⟩
    rw [h.2.2.2]; exact hK
   ·obtain ⟨l, _, h, hl⟩ := optB_one h
    obtain ⟨u, _, h, hu⟩ := optB_one h
    refine hl _ (hu _ ⟨h.1, h.2.1, ?_⟩)
    rw [h.2.2]; exact hK
   ·obtain ⟨hz, h⟩ := h
    obtain ⟨l, _, h, hl⟩ := optB_one h
    obtain ⟨u, _, h, hu⟩ := optB_one h
    refine ⟨hz, hl _ (hu _ ⟨h.1, h.2.1, h.2.2.1, ?_⟩)⟩
    rw [h.2.2.2]; exact hK
   ·exact h.elim
 | load g n a =>
  simp only [opW] at h ⊢
  split at h
  ·split at h
   ·obtain ⟨h1, h⟩ := h
    refine ⟨h1, ?_⟩
    cases g with
    | true => simp only [if_true] at h ⊢; rw [h]; exact hK
    | false => simp only [Bool.false_eq_true, if_false] at h ⊢; refine ⟨h.1, ?_⟩; rw [h.2]; exact hK
   ·exact h.elim
  ·obtain ⟨h1, h⟩ := h
   refine ⟨h1, ?_⟩
   cases g with
   | true => simp only [if_true] at h ⊢; rw [h]; exact hK
   | false => simp only [Bool.false_eq_true, if_false] at h ⊢; refine ⟨h.1, ?_⟩; rw [h.2]; exact hK
  ·exact h.elim
 | fld g off n x =>
  simp only [opW] at h ⊢
  split at h
  ·obtain ⟨h1, h⟩ := h
   refine ⟨h1, ?_⟩
   cases g with
   | true => simp only [if_true] at h ⊢; rw [h]; exact hK
   | false => simp only [Bool.false_eq_true, if_false] at h ⊢; refine ⟨h.1, ?_⟩; rw [h.2]; exact hK
  ·exact h.elim
 | pick c a b =>
  simp only [opW] at h ⊢
  split at h
  ·subst h; exact hK
  ·exact h.elim
 | maxi x y =>
  simp only [opW] at h ⊢
  split at h
  ·subst h; exact hK
  ·exact h.elim
 | box n x =>
  simp only [opW] at h ⊢
  split at h
  ·obtain ⟨h1, h2, h3, rfl⟩ := h; exact ⟨h1, h2, h3, hK⟩
  ·exact h.elim
 | bslice z len zero parts =>
  simp only [opW] at h ⊢
  split at h
  ·split at h
   ·obtain ⟨h1, h2, h3, rfl⟩ := h; exact ⟨h1, h2, h3, hK⟩
   ·exact h.elim
  ·exact h.elim
 | app z bytes s x =>
  simp only [opW] at h ⊢
  split at h
  ·split at h
   ·obtain ⟨h1, h2, h3, h4, h5, rfl⟩ := h; exact ⟨h1, h2, h3, h4, h5, hK⟩
   ·exact h.elim
  ·exact h.elim
 | _ =>
  simp only [opW] at h ⊢
  repeat' split at h
  all_goals first
   | exact h.elim
   | (subst h; exact hK)
   | (obtain ⟨h1, rfl⟩ := h; exact ⟨h1, hK⟩)
   | (obtain ⟨h1, h2, rfl⟩ := h; exact ⟨h1, h2, hK⟩)
   | (obtain ⟨h1, h2, h3, rfl⟩ := h; exact ⟨h1, h2, h3, hK⟩)
   | (obtain ⟨h1, h2, h3, h4, rfl⟩ := h; exact ⟨h1, h2, h3, h4, hK⟩)
   | (obtain ⟨h1, h2, h3, h4, h5, rfl⟩ := h; exact ⟨h1, h2, h3, h4, h5, hK⟩)
   | (obtain ⟨h1, h2, h3, h4, h5, h6, rfl⟩ := h; exact ⟨h1, h2, h3, h4, h5, h6, hK⟩)
   | (obtain ⟨h1, h2, h3, h4, h5, h6, h7, rfl⟩ := h; exact ⟨h1, h2, h3, h4, h5, h6, h7, hK⟩)
end
section
variable {P : Program} {TQ : TExit → St → Prop}
def forK (I : Nat → St → Prop) (rs : List Nat) (N j : Nat) (TQ : TExit → St → Prop) : TExit → St → Prop := fun e s' => match e with | .normal => j < N ∧ I (j + 1) (s'.drop rs) | e => TQ e s'
@[simp] theorem forK_n (I : Nat → St → Prop) (rs : List Nat) (N j : Nat) (s : St) : forK I rs N j TQ .normal s = (j < N ∧ I (j + 1) (s.drop rs)) := nrfl rfl
@[simp] theorem forK_e (I : Nat → St → Prop) (rs : List Nat) (N j i : Nat) (s : St) : forK I rs N j TQ (.exit i) s = TQ (.exit i) s := nrfl rfl
@[simp] theorem forK_r (I : Nat → St → Prop) (rs : List Nat) (N j : Nat) (s : St) : forK I rs N j TQ .ret s = TQ .ret s := nrfl rfl
theorem twp_forR {a : TCode} {st : St} (N : Nat) (I : Nat → St → Prop) (rs : List Nat) (mv : List (Nat × Nat)) (h0 : 0 ∉ rs) (hm : renOk (st.drop rs) mv) (hi : I 0 ((st.drop rs).rens mv)) (h : ∀ j s, j ≤ N → I j s → twp P a (forK I rs N j TQ) s) : twp P (.loop a) TQ st := by
 have mono : ∀ (a : TCode) (Q Q' : TExit → St → Prop) (s : St), (∀ e s, Q e s → Q' e s) → twp P a Q s → twp P a Q' s := by
  intro a
  induction a with
  | skip => intro Q Q' s h h1; exact h _ _ h1
  | ops l =>
   intro Q Q' s h h1
   simp only [twp] at h1 ⊢
   induction l generalizing s with
   | nil => exact h _ _ h1
   | cons o os ih =>
    simp only [opsW] at h1 ⊢
    have key : ∀ b, ((b = true → opW P s o.root o.op fun E => opsW P os (s.put o.dst E) (Q .normal)) ∧ (b = false → opsW P os (s.undef o.dst) (Q .normal))) →
      ((b = true → opW P s o.root o.op fun E => opsW P os (s.put o.dst E) (Q' .normal)) ∧ (b = false → opsW P os (s.undef o.dst) (Q' .normal))) := by
     rintro b ⟨h2, h3⟩
     refine ⟨fun hb => ?_, fun hb => ih _ (h3 hb)⟩
     obtain ⟨E, h4, h5⟩ := opW_one (h2 hb)
     exact opW_mono h4 (ih _ h5)
    cases hg : o.guard with
    | none => rw [hg] at h1; exact key true h1
    | some tw =>
     obtain ⟨t, w⟩ := tw
     rw [hg] at h1
     simp only [wantW] at h1 ⊢
     split at h1
     case h_2 => exact h1.elim
     rename_i x hx
     exact key _ h1
  | draw l =>
   intro Q Q' s h h1
   simp only [twp] at h1 ⊢
   generalize ([] : List Foot) = fs at h1 ⊢
   induction l generalizing s fs with
   | nil => exact h _ _ h1
   | cons o os ih =>
    simp only [drawW] at h1 ⊢
    have key : ∀ b, ((b = true → opW P s o.root o.op fun E => chk fs o.free (footOf s o E) = true ∧ drawW P os (fs ++ [footOf s o E]) (s.put o.dst E) (Q .normal)) ∧ (b = false → chk fs o.free (foot0 o) = true ∧ drawW P os (fs ++ [foot0 o]) (s.undef o.dst) (Q .normal))) →
      ((b = true → opW P s o.root o.op fun E => chk fs o.free (footOf s o E) = true ∧ drawW P os (fs ++ [footOf s o E]) (s.put o.dst E) (Q' .normal)) ∧ (b = false → chk fs o.free (foot0 o) = true ∧ drawW P os (fs ++ [foot0 o]) (s.undef o.dst) (Q' .normal))) := by
     rintro b ⟨h2, h3⟩
     refine ⟨fun hb => ?_, fun hb => ⟨(h3 hb).1, ih _ _ (h3 hb).2⟩⟩
     obtain ⟨E, h4, h5, h6⟩ := opW_one (h2 hb)
     exact opW_mono h4 ⟨h5, ih _ _ h6⟩
    cases hg : o.guard with
    | none => rw [hg] at h1; exact key true h1
    | some tw =>
     obtain ⟨t, w⟩ := tw
     rw [hg] at h1
     simp only [wantW] at h1 ⊢
     split at h1
     case h_2 => exact h1.elim
     exact key _ h1
  | seq a b iha ihb =>
   intro Q Q' s h h1
   refine iha _ _ s (fun e s h2 => ?_) h1
   cases e with
   | normal => exact ihb _ _ s h h2
   | exit i => exact h _ _ h2
   | ret => exact h _ _ h2
  | cond c a b iha ihb =>
   intro Q Q' s h h1
   simp only [twp] at h1 ⊢
   split at h1
   case h_2 => exact h1.elim
   exact ⟨fun hx => iha _ _ s h (h1.1 hx), fun hx => ihb _ _ s h (h1.2 hx)⟩
  | block id a ih =>
   intro Q Q' s h h1
   refine ih _ _ s (fun e s h2 => ?_) h1
   cases e with
   | normal => exact h _ _ h2
   | ret => exact h _ _ h2
   | exit i =>
    simp only at h2 ⊢
    split <;> rename_i hi
    ·rw [if_pos hi] at h2; exact h _ _ h2
    ·rw [if_neg hi] at h2; exact h _ _ h2
  | loop a ih =>
   intro Q Q' s h h1
   obtain ⟨I, rs, mv, h0, hm, hi, hr⟩ := h1
   refine ⟨I, rs, mv, h0, hm, hi, fun n s hs => ih _ _ s (fun e s h2 => ?_) (hr n s hs)⟩
   cases e with
   | normal => exact h2
   | exit i => exact h _ _ h2
   | ret => exact h _ _ h2
  | exit i => intro Q Q' s h h1; exact h _ _ h1
  | ret => intro Q Q' s h h1; exact h _ _ h1
 refine twp_loopR (fun n s => ∃ j, j ≤ N ∧ n = N - j ∧ I j s) rs mv h0 hm N ⟨0, by omega, by omega, hi⟩ ?_
 rintro n s ⟨j, hj, rfl, hI⟩
 refine mono _ _ _ s (fun e s h2 => ?_) (h j s hj hI)
 cases e with
 | normal => exact ⟨N - (j + 1), by have := h2.1; omega, j + 1, by have := h2.1; omega, rfl, h2.2⟩
 | exit i => exact h2
 | ret => exact h2
theorem twp_for {a : TCode} {st : St} (N : Nat) (I : Nat → St → Prop) (rs : List Nat) (h0 : 0 ∉ rs) (hi : I 0 (st.drop rs)) (h : ∀ j s, j ≤ N → I j s → twp P a (forK I rs N j TQ) s) : twp P (.loop a) TQ st :=
 twp_forR N I rs [] h0 trivial hi h
end
attribute [simp] putParts putElems fitB chunk fz fzL fzLL
def srcV (H : Hp) (p : Path) (off len : Nat) : Option TV → Option (Nat × List (List TV) × Hp × List Path)
 | some (.sl true z es) => if ((es.drop off).take len).all (·.all noref) then some (z, (es.drop off).take len, H, []) else (takeRows p off ((es.drop off).take len) H).map fun x => (z, x)
 | _ => none
@[simp] theorem srcT_rf (H : Hp) (p : Path) (off len : Nat) : srcT H (.rf p off len) = srcV H p off len (cellAt H p) := by unfold srcV; simp only [srcT]; rfl
@[simp] theorem srcV_s (H : Hp) (p : Path) (off len z : Nat) (es : List (List TV)) : srcV H p off len (some (.sl true z es)) = if ((es.drop off).take len).all (·.all noref) then some (z, (es.drop off).take len, H, []) else (takeRows p off ((es.drop off).take len) H).map fun x => (z, x) := nrfl rfl
@[simp] def iT (n : Int) : List TV := [.i .i64 n]
@[simp] def bT (b : Bool) : List TV := [.b b]
@[simp] theorem fzL_iT (n : Int) : fzL (iT n) = iT n := rfl
@[simp] theorem fzL_bT (n : Bool) : fzL (bT n) = bT n := rfl
theorem fzLL_map {α : Type} {f : α → List TV} (h : ∀ x, fzL (f x) = f x) (l : List α) : fzLL (l.map f) = l.map f := by
 induction l with
 | nil => rfl
 | cons a l ih => simp [fzLL, h, ih]
@[simp] theorem fzLL_iT (l : List Int) : fzLL (l.map iT) = l.map iT := fzLL_map fzL_iT l
theorem noref_map {α : Type} {f : α → List TV} (h : ∀ x, (f x).all noref = true) (l : List α) : (l.map f).all (·.all noref) = true := by
 induction l with
 | nil => rfl
 | cons a l ih => simp only [List.map_cons, List.all_cons, h, ih, Bool.and_self]
theorem noROLL_map {α : Type} {f : α → List TV} (h : ∀ x, noROL (f x) = true) (l : List α) : noROLL (l.map f) = true := by
 induction l with
 | nil => rfl
 | cons a l ih => simp [noROLL, h, ih]
@[simp] theorem noROLL_iT (l : List Int) : noROLL (l.map iT) = true := noROLL_map (fun _ => rfl) l
@[simp] theorem noref_iT (l : List Int) : (l.map iT).all (·.all noref) = true := noref_map (fun _ => rfl) l
@[simp] theorem srcT_iT (H : Hp) (z : Nat) (l : List Int) : srcT H (.sl false z (l.map iT)) = some (z, l.map iT, H, []) := by simp only [srcT, noref_iT, if_true]
theorem wrap_id {n : Int} (h1 : -2^63 ≤ n) (h2 : n < 2^63) : IntKind.i64.wrap n = n := by rw [IntKind.wrap_i64]; omega
attribute [simp] zeroOk noref norefL drop_nf
@[simp] theorem fzL_nil : fzL [] = [] := rfl
def rowOkV (m : Nat) : Option (List TV) → Prop
 | some cs => m ≤ cs.length
 | none => False
@[simp] theorem rowOk_lk (hs : HL) (p : Path) (i m : Nat) : rowOk (lk hs) p i m = rowOkV m (rowAt (lk hs) p i) := by unfold rowOk rowOkV; cases rowAt (lk hs) p i <;> rfl
@[simp] theorem rowOkV_s (m : Nat) (cs : List TV) : rowOkV m (some cs) = (m ≤ cs.length) := rfl
theorem get_some {α : Type} {l : List α} {j : Nat} (h : j < l.length) : ∃ x, l[j]? = some x := ⟨l[j], by simp [h]⟩
theorem modify_map {α : Type} {f : α → List TV} {φ : List TV → List TV} {g : α → α} (h : ∀ x, φ (f x) = f (g x)) : ∀ (l : List α) (i : Nat), (l.map f).modify i φ = (l.modify i g).map f
 | [], i => by cases i <;> rfl
 | a :: l, 0 => by simp [h]
 | a :: l, i + 1 => by simp [modify_map h l i]
theorem modify_set {α : Type} (y : α) : ∀ (l : List α) (i : Nat), l.modify i (fun _ => y) = l.set i y
 | [], i => by cases i <;> rfl
 | a :: l, 0 => rfl
 | a :: l, i + 1 => by simp [modify_set y l i]
@[simp] theorem modify_iT (l : List Int) (i : Nat) (y : Int) : (l.map iT).modify i (fun e => e.modify 0 fun _ => .i .i64 y) = (l.set i y).map iT := by
 rw [modify_map (g := fun _ => y) (fun _ => rfl), modify_set]
@[simp] theorem modify_bT (l : List Bool) (i : Nat) (y : Bool) : (l.map bT).modify i (fun e => e.modify 0 fun _ => .b y) = (l.set i y).map bT := by
 rw [modify_map (g := fun _ => y) (fun _ => rfl), modify_set]
theorem noROLL_all (es : List (List TV)) : noROLL es = es.all (fun e => noROL e) := by
 induction es with
 | nil => rfl
 | cons e es ih => simp [noROLL, ih]
@[simp] theorem noROLL_app (a b : List (List TV)) : noROLL (a ++ b) = (noROLL a && noROLL b) := by simp only [noROLL_all, List.all_append]
theorem fzLL_eqm (es : List (List TV)) : fzLL es = es.map fzL := by
 induction es with
 | nil => rfl
 | cons e es ih => simp [fzLL, ih]
@[simp] theorem fzLL_app (a b : List (List TV)) : fzLL (a ++ b) = fzLL a ++ fzLL b := by simp only [fzLL_eqm, List.map_append]
theorem all_set {α : Type} {p : α → Bool} {l : List α} {i : Nat} {e : α} (h : l.all p = true) (he : p e = true) : (l.set i e).all p = true := by
 rw [List.all_eq_true] at h ⊢
 intro x hx
 rcases List.mem_or_eq_of_mem_set hx with hx | rfl
 ·exact h x hx
 ·exact he
@[simp] theorem noROLL_set {a : List (List TV)} {i : Nat} {e : List TV} (h : noROLL a = true) (he : noROL e = true) : noROLL (a.set i e) = true := by
 rw [noROLL_all] at h ⊢; exact all_set h he
@[simp] theorem modify_set_self {α : Type} (l : List α) (i : Nat) (e : α) (φ : α → α) : (l.set i e).modify i φ = l.set i (φ e) := by
 apply List.ext_getElem?; intro j
 rw [List.getElem?_modify, List.getElem?_set, List.getElem?_set]
 by_cases h : i = j
 ·subst h; by_cases h2 : i < l.length <;> simp [h2]
 ·simp [h]
theorem Contract.t {P : Program} {al : Bool} {g : FuncId} {ms : List Mode} {args : List TV} {outs : List (Option TV)} {p : Prop} [Decidable p] (h : Contract P al g ms args [.b (decide p)] outs) (hp : p) : Contract P al g ms args [.b true] outs := by
 simpa [hp] using h
theorem Contract.f {P : Program} {al : Bool} {g : FuncId} {ms : List Mode} {args : List TV} {outs : List (Option TV)} {p : Prop} [Decidable p] (h : Contract P al g ms args [.b (decide p)] outs) (hp : ¬ p) : Contract P al g ms args [.b false] outs := by
 simpa [hp] using h
attribute [simp] List.take_of_length_le
theorem take_snoc {α : Type} {l : List α} {j : Nat} {x : α} (h : l[j]? = some x) : l.take (j + 1) = l.take j ++ [x] := by
 rw [List.take_add_one, h]; rfl
@[simp] theorem range_5 : List.range 5 = [0, 1, 2, 3, 4] := rfl
@[simp] theorem range_6 : List.range 6 = [0, 1, 2, 3, 4, 5] := rfl
@[simp] theorem range_7 : List.range 7 = [0, 1, 2, 3, 4, 5, 6] := rfl
@[simp] theorem range_8 : List.range 8 = [0, 1, 2, 3, 4, 5, 6, 7] := rfl
@[simp] theorem range_9 : List.range 9 = [0, 1, 2, 3, 4, 5, 6, 7, 8] := rfl
@[simp] theorem range_10 : List.range 10 = [0, 1, 2, 3, 4, 5, 6, 7, 8, 9] := rfl
@[simp] theorem range_11 : List.range 11 = [0, 1, 2, 3, 4, 5, 6, 7, 8, 9, 10] := rfl
@[simp] theorem range_12 : List.range 12 = [0, 1, 2, 3, 4, 5, 6, 7, 8, 9, 10, 11] := rfl
@[simp] theorem range_13 : List.range 13 = [0, 1, 2, 3, 4, 5, 6, 7, 8, 9, 10, 11, 12] := rfl
@[simp] theorem range_14 : List.range 14 = [0, 1, 2, 3, 4, 5, 6, 7, 8, 9, 10, 11, 12, 13] := rfl
@[simp] theorem range_15 : List.range 15 = [0, 1, 2, 3, 4, 5, 6, 7, 8, 9, 10, 11, 12, 13, 14] := rfl
@[simp] theorem range_16 : List.range 16 = [0, 1, 2, 3, 4, 5, 6, 7, 8, 9, 10, 11, 12, 13, 14, 15] := rfl
@[simp] theorem range_17 : List.range 17 = [0, 1, 2, 3, 4, 5, 6, 7, 8, 9, 10, 11, 12, 13, 14, 15, 16] := rfl
@[simp] theorem range_18 : List.range 18 = [0, 1, 2, 3, 4, 5, 6, 7, 8, 9, 10, 11, 12, 13, 14, 15, 16, 17] := rfl
@[simp] theorem range_19 : List.range 19 = [0, 1, 2, 3, 4, 5, 6, 7, 8, 9, 10, 11, 12, 13, 14, 15, 16, 17, 18] := rfl
@[simp] theorem range_20 : List.range 20 = [0, 1, 2, 3, 4, 5, 6, 7, 8, 9, 10, 11, 12, 13, 14, 15, 16, 17, 18, 19] := rfl
@[simp] theorem modify_mid {α : Type} {A B : List α} {y : α} {j : Nat} {φ : α → α} (h : A.length = j) : (A ++ y :: B).modify j φ = A ++ φ y :: B := by
 subst h
 induction A with
 | nil => rfl
 | cons a A ih => simp [ih]
theorem drop_at {α β : Type} {f : α → β} {l : List α} {j : Nat} {x : α} (h : l[j]? = some x) : (l.map f).drop j = f x :: (l.map f).drop (j + 1) := by
 have hj := (List.getElem?_eq_some_iff.1 h).1
 have hx := (List.getElem?_eq_some_iff.1 h).2
 rw [List.drop_eq_getElem_cons (by simpa using hj)]
 simp [hx]
theorem mapsnoc {α β : Type} {f : α → β} {l : List α} {j : Nat} {x : α} (h : l[j]? = some x) : (l.map f).take (j + 1) = (l.map f).take j ++ [f x] := by
 rw [← List.map_take, ← List.map_take, take_snoc h]; simp
end Go.Proofs.YtmedelmfkciblaaT


namespace Go.Proofs.YtmedelmfkciblaaT
set_option linter.unusedVariables false
set_option linter.unusedSimpArgs false
open Go
section
variable {P : Program}
def EndAt (e : TExit) (s : St) : TExit → St → Prop := fun e' s' => e' = e ∧ s' = s
theorem opsW_mono : ∀ {l : List TOper} {Q Q' : St → Prop} {s : St}, (∀ s, Q s → Q' s) → opsW P l s Q → opsW P l s Q'
 | [], Q, Q', s, h, h1 => h _ h1
 | o :: os, Q, Q', s, h, h1 => by
  simp only [opsW] at h1 ⊢
  have key : ∀ b, ((b = true → opW P s o.root o.op fun E => opsW P os (s.put o.dst E) Q) ∧ (b = false → opsW P os (s.undef o.dst) Q)) →
    ((b = true → opW P s o.root o.op fun E => opsW P os (s.put o.dst E) Q') ∧ (b = false → opsW P os (s.undef o.dst) Q')) := by
   rintro b ⟨h2, h3⟩
   refine ⟨fun hb => ?_, fun hb => opsW_mono h (h3 hb)⟩
   obtain ⟨E, h4, h5⟩ := opW_one (h2 hb)
   exact opW_mono h4 (opsW_mono h h5)
  cases hg : o.guard with
  | none => rw [hg] at h1; exact key true h1
  | some tw =>
   obtain ⟨t, w⟩ := tw
   rw [hg] at h1
   simp only [wantW] at h1 ⊢
   split at h1
   case h_2 => exact h1.elim
   exact key _ h1
theorem opsW_one : ∀ {l : List TOper} {Q : St → Prop} {s : St}, opsW P l s Q → ∃ s', opsW P l s (· = s') ∧ Q s'
 | [], Q, s, h => ⟨s, rfl, h⟩
 | o :: os, Q, s, h1 => by
  simp only [opsW] at h1 ⊢
  have key : ∀ b, ((b = true → opW P s o.root o.op fun E => opsW P os (s.put o.dst E) Q) ∧ (b = false → opsW P os (s.undef o.dst) Q)) →
    ∃ s', ((b = true → opW P s o.root o.op fun E => opsW P os (s.put o.dst E) (· = s')) ∧ (b = false → opsW P os (s.undef o.dst) (· = s'))) ∧ Q s' := by
   rintro b ⟨h2, h3⟩
   cases b with
   | true =>
    obtain ⟨E, h4, h5⟩ := opW_one (h2 rfl)
    obtain ⟨s', h6, h7⟩ := opsW_one h5
    exact ⟨s', ⟨fun _ => opW_mono h4 h6, fun h => by cases h⟩, h7⟩
   | false =>
    obtain ⟨s', h6, h7⟩ := opsW_one (h3 rfl)
    exact ⟨s', ⟨fun h => (by cases h), fun _ => h6⟩, h7⟩
  cases hg : o.guard with
  | none => rw [hg] at h1; exact key true h1
  | some tw =>
   obtain ⟨t, w⟩ := tw
   rw [hg] at h1
   simp only [wantW] at h1 ⊢
   split at h1
   case h_2 => exact h1.elim
   exact key _ h1
theorem drawW_mono : ∀ {l : List TOper} {fs : List Foot} {Q Q' : St → Prop} {s : St}, (∀ s, Q s → Q' s) → drawW P l fs s Q → drawW P l fs s Q'
 | [], fs, Q, Q', s, h, h1 => h _ h1
 | o :: os, fs, Q, Q', s, h, h1 => by
  simp only [drawW] at h1 ⊢
  have key : ∀ b, ((b = true → opW P s o.root o.op fun E => chk fs o.free (footOf s o E) = true ∧ drawW P os (fs ++ [footOf s o E]) (s.put o.dst E) Q) ∧ (b = false → chk fs o.free (foot0 o) = true ∧ drawW P os (fs ++ [foot0 o]) (s.undef o.dst) Q)) →
    ((b = true → opW P s o.root o.op fun E => chk fs o.free (footOf s o E) = true ∧ drawW P os (fs ++ [footOf s o E]) (s.put o.dst E) Q') ∧ (b = false → chk fs o.free (foot0 o) = true ∧ drawW P os (fs ++ [foot0 o]) (s.undef o.dst) Q')) := by
   rintro b ⟨h2, h3⟩
   refine ⟨fun hb => ?_, fun hb => ⟨(h3 hb).1, drawW_mono h (h3 hb).2⟩⟩
   obtain ⟨E, h4, h5, h6⟩ := opW_one (h2 hb)
   exact opW_mono h4 ⟨h5, drawW_mono h h6⟩
  cases hg : o.guard with
  | none => rw [hg] at h1; exact key true h1
  | some tw =>
   obtain ⟨t, w⟩ := tw
   rw [hg] at h1
   simp only [wantW] at h1 ⊢
   split at h1
   case h_2 => exact h1.elim
   exact key _ h1
theorem drawW_one : ∀ {l : List TOper} {fs : List Foot} {Q : St → Prop} {s : St}, drawW P l fs s Q → ∃ s', drawW P l fs s (· = s') ∧ Q s'
 | [], fs, Q, s, h => ⟨s, rfl, h⟩
 | o :: os, fs, Q, s, h1 => by
  simp only [drawW] at h1 ⊢
  have key : ∀ b, ((b = true → opW P s o.root o.op fun E => chk fs o.free (footOf s o E) = true ∧ drawW P os (fs ++ [footOf s o E]) (s.put o.dst E) Q) ∧ (b = false → chk fs o.free (foot0 o) = true ∧ drawW P os (fs ++ [foot0 o]) (s.undef o.dst) Q)) →
    ∃ s', ((b = true → opW P s o.root o.op fun E => chk fs o.free (footOf s o E) = true ∧ drawW P os (fs ++ [footOf s o E]) (s.put o.dst E) (· = s')) ∧ (b = false → chk fs o.free (foot0 o) = true ∧ drawW P os (fs ++ [foot0 o]) (s.undef o.dst) (· = s'))) ∧ Q s' := by
   rintro b ⟨h2, h3⟩
   cases b with
   | true =>
    obtain ⟨E, h4, h5, h6⟩ := opW_one (h2 rfl)
    obtain ⟨s', h7, h8⟩ := drawW_one h6
    exact ⟨s', ⟨fun _ => opW_mono h4 ⟨h5, h7⟩, fun h => by cases h⟩, h8⟩
   | false =>
    obtain ⟨h5, h6⟩ := h3 rfl
    obtain ⟨s', h7, h8⟩ := drawW_one h6
    exact ⟨s', ⟨fun h => (by cases h), fun _ => ⟨h5, h7⟩⟩, h8⟩
  cases hg : o.guard with
  | none => rw [hg] at h1; exact key true h1
  | some tw =>
   obtain ⟨t, w⟩ := tw
   rw [hg] at h1
   simp only [wantW] at h1 ⊢
   split at h1
   case h_2 => exact h1.elim
   exact key _ h1
theorem twp_mono : ∀ {a : TCode} {Q Q' : TExit → St → Prop} {s : St}, (∀ e s, Q e s → Q' e s) → twp P a Q s → twp P a Q' s
 | .skip, Q, Q', s, h, h1 => h _ _ h1
 | .ops l, Q, Q', s, h, h1 => opsW_mono (fun s => h _ s) h1
 | .draw l, Q, Q', s, h, h1 => drawW_mono (fun s => h _ s) h1
 | .seq a b, Q, Q', s, h, h1 => by
  refine twp_mono (a := a) (fun e s h2 => ?_) h1
  cases e with
  | normal => exact twp_mono (a := b) h h2
  | exit i => exact h _ _ h2
  | ret => exact h _ _ h2
 | .cond c a b, Q, Q', s, h, h1 => by
  simp only [twp] at h1 ⊢
  split at h1
  case h_2 => exact h1.elim
  exact ⟨fun hx => twp_mono h (h1.1 hx), fun hx => twp_mono h (h1.2 hx)⟩
 | .block id a, Q, Q', s, h, h1 => by
  refine twp_mono (a := a) (fun e s h2 => ?_) h1
  cases e with
  | normal => exact h _ _ h2
  | ret => exact h _ _ h2
  | exit i =>
   simp only at h2 ⊢
   split <;> rename_i hi
   ·rw [if_pos hi] at h2; exact h _ _ h2
   ·rw [if_neg hi] at h2; exact h _ _ h2
 | .loop a, Q, Q', s, h, h1 => by
  obtain ⟨I, rs, mv, h0, hm, hi, hr⟩ := h1
  refine ⟨I, rs, mv, h0, hm, hi, fun n s hs => twp_mono (fun e s h2 => ?_) (hr n s hs)⟩
  cases e with
  | normal => exact h2
  | exit i => exact h _ _ h2
  | ret => exact h _ _ h2
 | .exit i, Q, Q', s, h, h1 => h _ _ h1
 | .ret, Q, Q', s, h, h1 => h _ _ h1
inductive LC (P : Program) (a : TCode) (rs : List Nat) (e : TExit) (s' : St) : Nat → St → Prop
 | stop {s : St} : e ≠ .normal → twp P a (EndAt e s') s → LC P a rs e s' 0 s
 | step {s s1 : St} {k : Nat} : twp P a (EndAt .normal s1) s → LC P a rs e s' k (s1.drop rs) → LC P a rs e s' (k + 1) s
theorem twp_one : ∀ {a : TCode} {Q : TExit → St → Prop} {s : St}, twp P a Q s → ∃ e s', twp P a (EndAt e s') s ∧ Q e s'
 | .skip, Q, s, h => ⟨_, _, ⟨rfl, rfl⟩, h⟩
 | .ops l, Q, s, h => by
  obtain ⟨s', h1, h2⟩ := opsW_one h
  exact ⟨.normal, s', opsW_mono (fun _ h => ⟨rfl, h⟩) h1, h2⟩
 | .draw l, Q, s, h => by
  obtain ⟨s', h1, h2⟩ := drawW_one h
  exact ⟨.normal, s', drawW_mono (fun _ h => ⟨rfl, h⟩) h1, h2⟩
 | .seq a b, Q, s, h => by
  obtain ⟨e, s1, h1, h2⟩ := twp_one (a := a) h
  cases e with
  | normal =>
   obtain ⟨e, s2, h3, h4⟩ := twp_one (a := b) h2
   refine ⟨e, s2, twp_mono (a := a) (fun e1 s3 h5 => ?_) h1, h4⟩
   obtain ⟨rfl, rfl⟩ := h5
   exact h3
  | exit i =>
   refine ⟨.exit i, s1, twp_mono (a := a) (fun e1 s3 h5 => ?_) h1, h2⟩
   obtain ⟨rfl, rfl⟩ := h5
   exact ⟨rfl, rfl⟩
  | ret =>
   refine ⟨.ret, s1, twp_mono (a := a) (fun e1 s3 h5 => ?_) h1, h2⟩
   obtain ⟨rfl, rfl⟩ := h5
   exact ⟨rfl, rfl⟩
 | .cond c a b, Q, s, h => by
  simp only [twp] at h ⊢
  split at h
  case h_2 => exact h.elim
  rename_i x hx
  cases x with
  | true =>
   obtain ⟨e, s1, h1, h2⟩ := twp_one (h.1 rfl)
   exact ⟨e, s1, ⟨fun _ => h1, fun h => by cases h⟩, h2⟩
  | false =>
   obtain ⟨e, s1, h1, h2⟩ := twp_one (h.2 rfl)
   exact ⟨e, s1, ⟨fun h => (by cases h), fun _ => h1⟩, h2⟩
 | .block id a, Q, s, h => by
  obtain ⟨e, s1, h1, h2⟩ := twp_one (a := a) h
  cases e with
  | normal =>
   refine ⟨.normal, s1, twp_mono (a := a) (fun e1 s3 h5 => ?_) h1, h2⟩
   obtain ⟨rfl, rfl⟩ := h5
   exact ⟨rfl, rfl⟩
  | ret =>
   refine ⟨.ret, s1, twp_mono (a := a) (fun e1 s3 h5 => ?_) h1, h2⟩
   obtain ⟨rfl, rfl⟩ := h5
   exact ⟨rfl, rfl⟩
  | exit i =>
   simp only at h2
   by_cases hi : i = id
   ·rw [if_pos hi] at h2
    refine ⟨.normal, s1, twp_mono (a := a) (fun e1 s3 h5 => ?_) h1, h2⟩
    obtain ⟨rfl, rfl⟩ := h5
    simp only [if_pos hi]
    exact ⟨rfl, rfl⟩
   ·rw [if_neg hi] at h2
    refine ⟨.exit i, s1, twp_mono (a := a) (fun e1 s3 h5 => ?_) h1, h2⟩
    obtain ⟨rfl, rfl⟩ := h5
    simp only [if_neg hi]
    exact ⟨rfl, rfl⟩
 | .loop a, Q, s, h => by
  obtain ⟨I, rs, mv, h0, hm, ⟨n, hi⟩, hr⟩ := h
  have key : ∀ n s, I n s → ∃ k e s', LC P a rs e s' k s ∧ Q e s' := by
   intro n
   induction n using Nat.strongRecOn with
   | ind n ih =>
    intro s hs
    obtain ⟨e, s1, h1, h2⟩ := twp_one (a := a) (hr n s hs)
    cases e with
    | normal =>
     obtain ⟨m, hmn, h3⟩ := h2
     obtain ⟨k, e, s', h4, h5⟩ := ih m hmn _ h3
     exact ⟨k + 1, e, s', .step h1 h4, h5⟩
    | exit i => exact ⟨0, .exit i, s1, .stop (by simp) h1, h2⟩
    | ret => exact ⟨0, .ret, s1, .stop (by simp) h1, h2⟩
  obtain ⟨k, e, s', h1, h2⟩ := key n _ hi
  refine ⟨e, s', ⟨fun n s => LC P a rs e s' n s, rs, mv, h0, hm, ⟨k, h1⟩, fun n s hs => ?_⟩, h2⟩
  cases hs with
  | stop hne h3 =>
   refine twp_mono (a := a) (fun e1 s3 h5 => ?_) h3
   obtain ⟨rfl, rfl⟩ := h5
   cases e1 with
   | normal => exact absurd rfl hne
   | exit i => exact ⟨rfl, rfl⟩
   | ret => exact ⟨rfl, rfl⟩
  | step h3 h4 =>
   refine twp_mono (a := a) (fun e1 s3 h5 => ?_) h3
   obtain ⟨rfl, rfl⟩ := h5
   exact ⟨_, Nat.lt_succ_self _, h4⟩
 | .exit i, Q, s, h => ⟨_, _, ⟨rfl, rfl⟩, h⟩
 | .ret, Q, s, h => ⟨_, _, ⟨rfl, rfl⟩, h⟩
def postK (Post : St → Prop) (TQ : TExit → St → Prop) : TExit → St → Prop := fun e s => match e with | .normal => Post s | e => TQ e s
@[simp] theorem postK_n (Post : St → Prop) (TQ : TExit → St → Prop) (s : St) : postK Post TQ .normal s = Post s := nrfl rfl
@[simp] theorem postK_e (Post : St → Prop) (TQ : TExit → St → Prop) (s : St) (i : Nat) : postK Post TQ (.exit i) s = TQ (.exit i) s := nrfl rfl
theorem twp_post {a : TCode} {id : Nat} {TQ : TExit → St → Prop} {st : St} (Post : St → Prop) (h : twp P a (blkK id (postK Post TQ)) st) (h2 : ∀ s, Post s → TQ .normal s) : twp P a (blkK id TQ) st := by
 refine twp_mono (fun e s h3 => ?_) h
 cases e with
 | normal => exact h2 s h3
 | ret => exact h3
 | exit i =>
  simp only [blkK_e, postK_n, postK_e] at h3 ⊢
  split <;> rename_i hi
  ·rw [if_pos hi] at h3; exact h2 s h3
  ·rw [if_neg hi] at h3; exact h3
def exK {α : Type} (E : α → TExit → St → Prop) (Q : α → Prop) : TExit → St → Prop := fun e s => ∃ x, Q x ∧ E x e s
theorem exK_of {α : Type} {E : α → TExit → St → Prop} {Q : α → Prop} {e : TExit} {s : St} (x : α) (hq : Q x) (h : E x e s) : exK E Q e s := ⟨x, hq, h⟩
theorem mk_contractE {α : Type} {al : Bool} {g : FuncId} {fn : Func} {c : Code} {tc : TCode} {ms : List Mode} {args : List TV} {res : α → List TV} {outs : α → List (Option TV)} {Q : α → Prop} (gq : List (Option Path)) {rt : List TRes}
  (hf : P.funcs[g]? = some fn) (hb : fn.body = some c) (hc : compCode P fn.ntmps c = some tc) (hr : resTmps P fn.results.toList = some rt) (hn : args.length ≤ fn.ntmps)
  (hT : twp P tc (exK (fun x => endW al (res x) (outs x) gq rt) Q) (initSt ms args)) : ∃ x, Q x ∧ Contract P al g ms args (res x) (outs x) := by
 obtain ⟨e, s', h1, x, hq, h2⟩ := twp_one hT
 refine ⟨x, hq, mk_contract gq hf hb hc hr hn fun _ => twp_mono (fun e1 s1 h5 => ?_) h1⟩
 obtain ⟨rfl, rfl⟩ := h5
 exact h2
end
end Go.Proofs.YtmedelmfkciblaaT

