/- TM, part Af: drawn regions are sound. -/
import Derived.Test.YtloodkhdngipbaaTmAl
namespace Go.Proofs.YtloodkhdngipbaaT
set_option linter.unusedVariables false
set_option linter.unusedSimpArgs false
open Go

section
variable {P : Program} {F : Fr} {st st' : St} {root : Nat} {E : Eff}

theorem compOps_get {N rid : Nat} {ops : Array Oper} : ∀ {l : List Oper} {k : Nat} {tl : List TOper}, compOps P N rid ops k l = some tl → tl.length = l.length ∧
    ∀ (i : Nat) (o : Oper), l[i]? = some o → ∃ to : TOper, tl[i]? = some to ∧ compOp P o = some to.op ∧ compGuard ops o.guard = some to.guard ∧ dstOk N o.dst = true ∧ to.dst = o.dst
  | [], k, tl, h => by simp only [compOps, Option.some.injEq] at h; subst h; simp
  | o :: os, k, tl, h => by
    simp only [compOps, Option.bind_eq_some_iff] at h
    obtain ⟨top, h1, tg, h2, h⟩ := h
    split at h
    case isFalse => cases h
    rename_i hd
    simp only [Option.bind_eq_some_iff, Option.some.injEq] at h
    obtain ⟨tl', h3, rfl⟩ := h
    obtain ⟨g1, g2⟩ := compOps_get h3
    refine ⟨by simp [g1], fun i o' hi => ?_⟩
    cases i with
    | zero =>
      simp only [List.getElem?_cons_zero, Option.some.injEq] at hi; subst hi
      exact ⟨_, rfl, h1, h2, hd, rfl⟩
    | succ i => simpa using g2 i o' (by simpa using hi)

theorem drawW_run : ∀ (os : List TOper) (fs : List Foot) (st : St) (Q : St → Prop), drawW P os fs st Q → ∃ (gs : List Foot) (st' : St), gs.length = os.length ∧ Q st' ∧
    (∀ it : Nat → TOper × Foot, (∀ i o, os[i]? = some o → (it (fs.length + i)).1 = o) → (∀ i g, gs[i]? = some g → (it (fs.length + i)).2 = g) → Run P it (List.range' fs.length os.length) st st') ∧
    ∀ (i : Nat) (o : TOper) (g : Foot), os[i]? = some o → gs[i]? = some g → (∀ k ∈ unmark o.free, ∃ f, (fs ++ gs)[k]? = some f ∧ pairOk f g = true) ∨
      (marked o.free = true ∧ disj (g.wr.take 1) (g.rd.drop 1) = true ∧ ∀ k ∈ unmark o.free, ∃ f, (fs ++ gs)[k]? = some f ∧ pair1 f (lateFoot g) = true)
  | [], fs, st, Q, h => ⟨[], st, rfl, h, fun _ _ _ => rfl, fun i o g h => by simp at h⟩
  | o :: os, fs, st, Q, h => by
    have step : ∀ b, ((b = true → opW P st o.root o.op fun E => chk fs o.free (footOf st o E) = true ∧ drawW P os (fs ++ [footOf st o E]) (st.put o.dst E) Q) ∧
        (b = false → chk fs o.free (foot0 o) = true ∧ drawW P os (fs ++ [foot0 o]) (st.undef o.dst) Q)) →
        ∃ E f, ((b = true → opW P st o.root o.op (· = E) ∧ f = footOf st o E) ∧ (b = false → E = val st (.tu []) ∧ f = foot0 o)) ∧ chk fs o.free f = true ∧ drawW P os (fs ++ [f]) (st.put o.dst E) Q := by
      intro b hb
      cases b with
      | true =>
        obtain ⟨E, h1, h2, h3⟩ := opW_one (hb.1 rfl)
        exact ⟨E, _, ⟨fun _ => ⟨h1, rfl⟩, fun h => by cases h⟩, h2, h3⟩
      | false =>
        obtain ⟨h2, h3⟩ := hb.2 rfl
        exact ⟨_, _, ⟨fun h => (by cases h), fun _ => ⟨rfl, rfl⟩⟩, h2, by rw [undef_put]; exact h3⟩
    have hstep : ∃ E f, StepF P st o E f ∧ chk fs o.free f = true ∧ drawW P os (fs ++ [f]) (st.put o.dst E) Q := by
      simp only [drawW] at h
      unfold StepF
      cases hg : o.guard with
      | none => rw [hg] at h; exact step true h
      | some tw =>
        obtain ⟨t, w⟩ := tw
        rw [hg] at h
        simp only [wantW] at h ⊢
        split at h
        case h_2 => exact h.elim
        rename_i x hx
        first
          | exact step _ h
          | (rw [hx]; exact step _ h)
    obtain ⟨E, f, h1, h2, h3⟩ := hstep
    obtain ⟨gs, st', g1, g2, g3, g4⟩ := drawW_run os _ _ _ h3
    refine ⟨f :: gs, st', by simp [g1], g2, fun it i1 i2 => ?_, fun i o' g hi hgi => ?_⟩
    · rw [List.length_cons, List.range'_succ]
      have e1 : (it fs.length).1 = o := i1 0 o rfl
      have e2 : (it fs.length).2 = f := i2 0 f rfl
      refine ⟨E, by rw [e1, e2]; exact h1, ?_⟩
      rw [e1]
      have := g3 it (fun i o' hi => by
          have := i1 (i + 1) o' (by simpa using hi)
          rw [show (fs ++ [f]).length + i = fs.length + (i + 1) by simp; omega]; exact this) (fun i g hi => by
          have := i2 (i + 1) g (by simpa using hi)
          rw [show (fs ++ [f]).length + i = fs.length + (i + 1) by simp; omega]; exact this)
      simpa using this
    · cases i with
      | zero =>
        simp only [List.getElem?_cons_zero, Option.some.injEq] at hi hgi; subst hi; subst hgi
        have up : ∀ (k : Nat) (f' : Foot), fs[k]? = some f' → (fs ++ f :: gs)[k]? = some f' := fun k f' hf => by
          rw [List.getElem?_append_left (List.getElem?_eq_some_iff.1 hf).1]; exact hf
        simp only [chk, Bool.or_eq_true, Bool.and_eq_true, chkB] at h2
        rcases h2 with h2 | ⟨hm, hd, h2⟩
        · refine .inl fun k hk => ?_
          have := List.all_eq_true.1 h2 k hk
          split at this
          · rename_i f' hf; exact ⟨f', up k f' hf, this⟩
          · cases this
        · refine .inr ⟨hm, hd, fun k hk => ?_⟩
          have := List.all_eq_true.1 h2 k hk
          split at this
          · rename_i f' hf; exact ⟨f', up k f' hf, this⟩
          · cases this
      | succ i =>
        rcases g4 i o' g (by simpa using hi) (by simpa using hgi) with hh | ⟨hm, hd, hh⟩
        · exact .inl fun k hk => by obtain ⟨f', q1, q2⟩ := hh k hk; exact ⟨f', by simpa using q1, q2⟩
        · exact .inr ⟨hm, hd, fun k hk => by obtain ⟨f', q1, q2⟩ := hh k hk; exact ⟨f', by simpa using q1, q2⟩⟩

theorem run_steps {it : Nat → TOper × Foot} : ∀ {L : List Nat} {st st' : St}, Run P it L st st' → ∀ i ∈ L, ∃ st E, StepF P st (it i).1 E (it i).2
  | _ :: _, st, _, ⟨E, h, h2⟩, i, hi => by
    rcases List.mem_cons.1 hi with rfl | hi
    · exact ⟨st, E, h⟩
    · exact run_steps h2 i hi

theorem step_ok (hall : AllGood P) {ops : Array Oper} {i : Nat} {o : Oper} {to : TOper} {f : Foot} {a : Act} {w : World} {Q : Exit → Act → World → Prop} {K : Act → World → Prop}
    (ho : ops[i]? = some o) (h1 : compOp P o = some to.op) (h2 : compGuard ops o.guard = some to.guard) (h3 : dstOk F.N o.dst = true) (h4 : to.dst = o.dst)
    (hS : StepF P st to E f) (hR : Rel F st a w) (hK : ∀ a' w', Rel F (st.put to.dst E) a' w' → K a' w') : wpOp P ops Q i K a w := by
  have hd : ∀ d, o.dst = some d → d < F.N := by
    intro d hd
    rw [hd] at h3
    simpa [dstOk] using h3
  rw [h4] at hK
  have hwant : ∃ b, Region.wanted o (yielded ops a.tmps) = b ∧ ((b = true → opW P st to.root to.op (· = E) ∧ f = footOf st to E) ∧ (b = false → E = val st (.tu []) ∧ f = foot0 to)) := by
    unfold StepF at hS
    unfold compGuard at h2
    split at h2
    · rename_i hg
      simp only [Option.some.injEq] at h2
      rw [← h2] at hS
      exact ⟨true, by simp [Region.wanted, hg], hS⟩
    · rename_i j want hg
      simp only [Option.bind_eq_some_iff, Option.some.injEq] at h2
      obtain ⟨t, ⟨oj, hoj, htj⟩, hgd⟩ := h2
      rw [← hgd] at hS
      simp only [wantW] at hS
      split at hS
      case h_2 => exact hS.elim
      rename_i x hx
      obtain ⟨κ, γ, r1, r2, r3, r4, r5, r6, r7⟩ := hR
      have hv := r4 t
      refine ⟨x, ?_, hS⟩
      simp only [Region.wanted, hg, yielded, hoj, htj, Option.bind_some]
      exact gB_ok hx hv
  obtain ⟨b, hb, ht1, ht2⟩ := hwant
  unfold wpOp
  simp only [ho, hb]
  cases b with
  | true =>
    simp only [if_true]
    exact .inl (hall F o to.op st to.root E h1 hd (ht1 rfl).1 a w _ _ hR hK)
  | false =>
    simp only [Bool.false_eq_true, if_false]
    refine hK _ _ ?_
    rw [(ht2 rfl).1, undef_put]
    exact rel_undef hR hd

/-- What the check told. -/
structure DrawF (ops : Array Oper) (masks : List Nat) (l : List TOper) : Prop where
  lt : ∀ i o, i < l.length → ops[i]? = some o → ∀ p ∈ predsOf o, p < i
  anc : ∀ i o j, i < l.length → ops[i]? = some o → j < l.length → ((masks[i]?).getD 0).testBit j = true → ∃ p ∈ predsOf o, p = j ∨ ((masks[p]?).getD 0).testBit j = true
  pair : ∀ i j y, l[i]? = some y → j < i → ∃ x, l[j]? = some x ∧ (((masks[i]?).getD 0).testBit j = true ∨ apartT x y = true ∧ (j ∈ unmark y.free ∨ canWr x.op = false ∧ canWr y.op = false))
  late : ∀ i y, l[i]? = some y → marked y.free = true → ∃ o t x z, ops[i]? = some o ∧ o.op = .store t x z ∧ o.guard = none ∧ o.dst = none ∧
    ∀ j, j < l.length → i < j → ((masks[j]?).getD 0).testBit i = true ∧ ∀ k, k < i → ((masks[i]?).getD 0).testBit k = true ∨ ((masks[j]?).getD 0).testBit k = true

theorem drawF_of {ops : Array Oper} {masks : List Nat} {l : List TOper} (h : drawOk ops masks l = true) : DrawF ops masks l := by
  have key : ∀ i, i < l.length → ∃ o y, ops[i]? = some o ∧ l[i]? = some y ∧ ((predsOf o).all (fun p => decide (p < i)) &&
      (List.range l.length).all (fun j => !((masks[i]?).getD 0).testBit j || (predsOf o).any fun p => p == j || ((masks[p]?).getD 0).testBit j) &&
      (List.range i).all (fun j => match l[j]? with
        | some x => ((masks[i]?).getD 0).testBit j || (apartT x y && ((unmark y.free).contains j || (!canWr x.op && !canWr y.op)))
        | none => false) && (!marked y.free || lateOk ops masks l.length i)) = true := by
    intro i hi
    have := List.all_eq_true.1 h i (List.mem_range.2 hi)
    split at this
    · rename_i o y h1 h2
      exact ⟨o, y, h1, h2, this⟩
    · cases this
  refine ⟨fun i o hi ho p hp => ?_, fun i o j hi ho hj hb => ?_, fun i j y hy hj => ?_, fun i y hy hm => ?_⟩
  · obtain ⟨o', y, h1, h2, h3⟩ := key i hi
    rw [ho] at h1; cases h1
    simp only [Bool.and_eq_true, List.all_eq_true, decide_eq_true_eq] at h3
    exact h3.1.1.1 p hp
  · obtain ⟨o', y, h1, h2, h3⟩ := key i hi
    rw [ho] at h1; cases h1
    simp only [Bool.and_eq_true] at h3
    have := List.all_eq_true.1 h3.1.1.2 j (List.mem_range.2 hj)
    simp only [hb, Bool.not_true, Bool.false_or, List.any_eq_true, Bool.or_eq_true, beq_iff_eq] at this
    exact this
  · obtain ⟨o', y', h1, h2, h3⟩ := key i (List.getElem?_eq_some_iff.1 hy).1
    rw [hy] at h2; cases h2
    simp only [Bool.and_eq_true] at h3
    have := List.all_eq_true.1 h3.1.2 j (List.mem_range.2 hj)
    split at this
    · rename_i x hx
      refine ⟨x, hx, ?_⟩
      simpa [Bool.or_eq_true, Bool.and_eq_true] using this
    · cases this
  · obtain ⟨o', y', h1, h2, h3⟩ := key i (List.getElem?_eq_some_iff.1 hy).1
    rw [hy] at h2; cases h2
    simp only [Bool.and_eq_true, hm, Bool.not_true, Bool.false_or] at h3
    have hL := h3.2
    unfold lateOk at hL
    rw [h1] at hL
    simp only [Bool.and_eq_true, Option.isNone_iff_eq_none] at hL
    obtain ⟨⟨⟨g1, g2⟩, g3⟩, g4⟩ := hL
    split at g1
    case h_2 => cases g1
    rename_i t x z hop
    refine ⟨o', t, x, z, h1, hop, g2, g3, fun j hj hij => ?_⟩
    have := List.all_eq_true.1 g4 j (List.mem_range.2 hj)
    simp only [Bool.or_eq_true, decide_eq_true_eq, Bool.and_eq_true, List.all_eq_true, List.mem_range] at this
    rcases this with h | ⟨h, h'⟩
    · omega
    · exact ⟨h, h'⟩

/-- What is listed when nothing is ready. -/
theorem unl {ops : Array Oper} {masks : List Nat} {l : List TOper} {listed : Array Bool} (hF : DrawF ops masks l) (hlen : l.length = ops.size) (hsz : listed.size = ops.size) (hr : Region.ready .any ops listed = []) :
    ∀ L : List Nat, L.Pairwise (· < ·) → (∀ i, i ∈ L ↔ i < ops.size ∧ listed.getD i true = false) → L = [] := by
  intro L hL hmem
  cases L with
  | nil => rfl
  | cons i L =>
    exfalso
    obtain ⟨hi1, hi2⟩ := (hmem i).1 List.mem_cons_self
    have : i ∈ Region.ready .any ops listed := by
      refine mem_ready.2 ⟨hi2, ops[i], by simp [hi1], fun e he hb => ?_⟩
      have hp : e.on < i := hF.lt i ops[i] (by rw [hlen]; exact hi1) (by simp [hi1]) e.on (List.mem_map.2 ⟨e, List.mem_filter.2 ⟨by simpa using he, hb⟩, rfl⟩)
      have hel : e.on < listed.size := by rw [hsz]; omega
      cases hx : listed.getD e.on true with
      | true => simpa [hel] using hx
      | false =>
        rcases List.mem_cons.1 ((hmem e.on).2 ⟨by omega, hx⟩) with h | h
        · omega
        · have := (List.pairwise_cons.1 hL).1 _ h; omega
    rw [hr] at this; cases this

/-- A store that ran early waits to be told. -/
def Waits (P : Program) (ops : Array Oper) (l : List TOper) (it : Nat → TOper × Foot) (s : Nat) (st : St) (a : Act) : Prop :=
  ∃ o to t x y x' y' n p i f cs, ops[s]? = some o ∧ l[s]? = some to ∧ marked to.free = true ∧ Late P it o s t x y x' y' n ∧ Pinned it s y x' st a p i f cs ∧
    ∀ k ∈ unmark to.free, pair1 (it k).2 (lateFoot (it s).2) = true

theorem any_ok (hall : AllGood P) {ops : Array Oper} {masks : List Nat} {l : List TOper} {it : Nat → TOper × Foot} {Q : Exit → Act → World → Prop} {st' : St}
    (hF : DrawF ops masks l) (hlen : l.length = ops.size)
    (hget : ∀ (i : Nat) (o : Oper), ops[i]? = some o → ∃ to : TOper, l[i]? = some to ∧ compOp P o = some to.op ∧ compGuard ops o.guard = some to.guard ∧ dstOk F.N o.dst = true ∧ to.dst = o.dst)
    (hit : ∀ i to, l[i]? = some to → (it i).1 = to)
    (hfr : ∀ i to, l[i]? = some to → (∀ k ∈ unmark to.free, pairOk (it k).2 (it i).2 = true) ∨
      (marked to.free = true ∧ disj ((it i).2.wr.take 1) ((it i).2.rd.drop 1) = true ∧ ∀ k ∈ unmark to.free, pair1 (it k).2 (lateFoot (it i).2) = true))
    (hpure : ∀ i to, l[i]? = some to → canWr to.op = false → (it i).2.wr = [])
    (hQ : ∀ a w, Rel F st' a w → Q .normal a w) :
    ∀ (fuel : Nat) (listed : Array Bool) (pend : Option Nat) (L : List Nat) (st : St) (a : Act) (w : World), listed.size = ops.size → L.Pairwise (· < ·) → (∀ i, i ∈ L ↔ i < ops.size ∧ (listed.getD i true = false ∨ pend = some i)) →
      (∀ i, i < ops.size → listed.getD i true = true → ∀ j, j < ops.size → ((masks[i]?).getD 0).testBit j = true → listed.getD j true = true) → L.length ≤ fuel + pend.toList.length →
      (∀ s, pend = some s → listed.getD s true = true ∧ Waits P ops l it s st a) →
      Run P it L st st' → Rel F st a w → wpAny P .any ops Q fuel listed a w := by
  -- the store that waits is told when it comes first
  have commit : ∀ (s : Nat) (L : List Nat) (st : St) (a : Act) (w : World), Waits P ops l it s st a → Run P it (s :: L) st st' → Rel F st a w → ∃ st2, Run P it L st2 st' ∧ Rel F st2 a w := by
    rintro s L st a w ⟨o, to, t, x, y, x', y', n, p, i, f, cs, _, _, _, hl, hp, _⟩ ⟨E, hS, hr⟩ hR
    exact ⟨_, hr, late_commit hl hp hS hR⟩
  have nil : ∀ (listed : Array Bool) (pend : Option Nat) (L : List Nat) (st : St) (a : Act) (w : World), listed.size = ops.size → L.Pairwise (· < ·) → (∀ i, i ∈ L ↔ i < ops.size ∧ (listed.getD i true = false ∨ pend = some i)) →
      (∀ s, pend = some s → listed.getD s true = true ∧ Waits P ops l it s st a) →
      Run P it L st st' → Rel F st a w → Region.ready .any ops listed = [] → Q .normal a w := by
    intro listed pend L st a w hsz hL hmem hpd hrun hR hr
    cases pend with
    | none =>
      have : L = [] := unl hF hlen hsz hr L hL fun i => by rw [hmem i]; simp
      subst this
      have : st = st' := hrun
      subst this; exact hQ a w hR
    | some s =>
      obtain ⟨hs, hw⟩ := hpd s rfl
      obtain ⟨o, to, _, _, _, _, _, _, _, _, _, _, ho, _⟩ := hw
      have hsL : s ∈ L := (hmem s).2 ⟨(Array.getElem?_eq_some_iff.1 ho).1, .inr rfl⟩
      obtain ⟨pre, post, rfl⟩ := List.append_of_mem hsL
      have hns : ∀ j, j ∈ pre ++ post → j ≠ s := by
        intro j hj
        rcases List.mem_append.1 hj with h | h
        · have := (List.pairwise_append.1 hL).2.2 j h s List.mem_cons_self; omega
        · have := (List.pairwise_cons.1 (List.pairwise_append.1 hL).2.1).1 j h; omega
      have he : pre ++ post = [] := unl hF hlen hsz hr _ (hL.sublist ((List.Sublist.refl pre).append (List.sublist_cons_self s post))) fun j => by
        constructor
        · intro hj
          have := (hmem j).1 (by simp only [List.mem_append, List.mem_cons] at hj ⊢; rcases hj with h | h <;> simp [h])
          refine ⟨this.1, this.2.resolve_right fun h => hns j hj (by simpa using h.symm)⟩
        · rintro ⟨h1, h2⟩
          have := (hmem j).2 ⟨h1, .inl h2⟩
          simp only [List.mem_append, List.mem_cons] at this ⊢
          rcases this with h | rfl | h
          · exact .inl h
          · rw [hs] at h2; cases h2
          · exact .inr h
      obtain ⟨rfl, rfl⟩ := List.append_eq_nil_iff.1 he
      obtain ⟨st2, h1, h2⟩ := commit s [] st a w (hpd s rfl).2 hrun hR
      have : st2 = st' := h1
      subst this; exact hQ a w h2
  intro fuel
  induction fuel with
  | zero =>
    intro listed pend L st a w hsz hL hmem hcl hfu hpd hrun hR
    have hnone : ∀ i, i < ops.size → listed.getD i true = true := by
      intro i hi
      cases hx : listed.getD i true with
      | true => rfl
      | false =>
        exfalso
        have hiL := (hmem i).2 ⟨hi, .inl hx⟩
        cases pend with
        | none =>
          have : L = [] := List.length_eq_zero_iff.1 (by simpa using hfu)
          rw [this] at hiL; cases hiL
        | some s =>
          obtain ⟨hs, hw⟩ := hpd s rfl
          obtain ⟨o, to, _, _, _, _, _, _, _, _, _, _, ho, _⟩ := hw
          have hsL : s ∈ L := (hmem s).2 ⟨(Array.getElem?_eq_some_iff.1 ho).1, .inr rfl⟩
          simp only [Option.toList_some, List.length_singleton] at hfu
          cases L with
          | nil => cases hsL
          | cons x L =>
            have : L = [] := List.length_eq_zero_iff.1 (by simp only [List.length_cons] at hfu; omega)
            subst this
            simp only [List.mem_singleton] at hiL hsL
            subst hiL; subst hsL
            rw [hs] at hx; cases hx
    have hready : Region.ready .any ops listed = [] := by
      cases hr : Region.ready .any ops listed with
      | nil => rfl
      | cons i r =>
        have hi : i ∈ Region.ready .any ops listed := by rw [hr]; exact List.mem_cons_self
        obtain ⟨h0, o, ho, _⟩ := mem_ready.1 hi
        rw [hnone i (Array.getElem?_eq_some_iff.1 ho).1] at h0; cases h0
    exact ⟨hready, nil listed pend L st a w hsz hL hmem hpd hrun hR hready⟩
  | succ fuel ih =>
    intro listed pend L st a w hsz hL hmem hcl hfu hpd hrun hR
    refine ⟨fun hr => nil listed pend L st a w hsz hL hmem hpd hrun hR hr, fun i hi => ?_⟩
    obtain ⟨h0, o, ho, hall'⟩ := mem_ready.1 hi
    have hin : i < ops.size := (Array.getElem?_eq_some_iff.1 ho).1
    obtain ⟨to, t1, t2, t3, t4, t5⟩ := hget i o ho
    -- what stands before it is not bound to
    have hanc : ∀ j, j < ops.size → ((masks[i]?).getD 0).testBit j = true → listed.getD j true = true := by
      intro j hj hb
      obtain ⟨p, hp, h⟩ := hF.anc i o j (by rw [hlen]; exact hin) ho (by rw [hlen]; exact hj) hb
      obtain ⟨e, he, rfl⟩ := List.mem_map.1 hp
      obtain ⟨he1, he2⟩ := List.mem_filter.1 he
      have hpl := hall' e (by simpa using he1) he2
      have hlt' := hF.lt i o (by rw [hlen]; exact hin) ho e.on hp
      have hpl' : listed.getD e.on true = true := by
        have : e.on < listed.size := by rw [hsz]; omega
        simpa [this] using hpl
      rcases h with rfl | h
      · exact hpl'
      · exact hcl e.on (by omega) hpl' j hj h
    have hgd : ∀ j, (listed.setIfInBounds i true).getD j true = if j = i then true else listed.getD j true := by
      intro j
      split
      · rename_i h; subst h; simp [hsz, hin]
      · rename_i h; exact getD_set_ne true (Ne.symm h)
    have hcl' : ∀ k, k < ops.size → (listed.setIfInBounds i true).getD k true = true → ∀ j, j < ops.size → ((masks[k]?).getD 0).testBit j = true → (listed.setIfInBounds i true).getD j true = true := by
      intro k hk hkl j hj hb
      rw [hgd] at hkl ⊢
      split
      · rfl
      · split at hkl
        · rename_i h; subst h; exact hanc j hj hb
        · exact hcl k hk hkl j hj hb
    have key : ∀ (pend : Option Nat) (L : List Nat) (st : St), L.Pairwise (· < ·) → (∀ i, i ∈ L ↔ i < ops.size ∧ (listed.getD i true = false ∨ pend = some i)) → L.length ≤ fuel + 1 + pend.toList.length →
        (∀ s, pend = some s → i < s ∧ listed.getD s true = true ∧ Waits P ops l it s st a) → Run P it L st st' → Rel F st a w →
        wpOp P ops Q i (wpAny P .any ops Q fuel (listed.setIfInBounds i true)) a w := by
      clear hL hmem hfu hpd hrun hR L st pend
      intro pend L st hL hmem hfu hpd hrun hR
      have hiL : i ∈ L := (hmem i).2 ⟨hin, .inl h0⟩
      obtain ⟨pre, post, rfl⟩ := List.append_of_mem hiL
      have hlt : ∀ j ∈ pre, j < i := fun j hj => (List.pairwise_append.1 hL).2.2 j hj i List.mem_cons_self
      have hpre : ∀ j ∈ pre, j < ops.size ∧ listed.getD j true = false := by
        intro j hj
        obtain ⟨h1, h2⟩ := (hmem j).1 (List.mem_append_left _ hj)
        refine ⟨h1, h2.resolve_right fun h => ?_⟩
        have := (hpd j h).1
        have := hlt j hj
        omega
      have hnd : i ∉ pre ∧ i ∉ post := by
        refine ⟨fun h => by have := hlt i h; omega, fun h => ?_⟩
        have := (List.pairwise_cons.1 (List.pairwise_append.1 hL).2.1).1 i h
        omega
      have hpair : ∀ j ∈ pre, IndT (it j).1 (it i).1 ∧ (j ∈ unmark to.free ∨ (it j).2.wr = [] ∧ (it i).2.wr = []) := by
        intro j hj
        obtain ⟨hj1, hj2⟩ := hpre j hj
        obtain ⟨x, hx, hp⟩ := hF.pair i j to t1 (hlt j hj)
        have hnb : ¬ ((masks[i]?).getD 0).testBit j = true := fun hb => by rw [hanc j hj1 hb] at hj2; cases hj2
        rcases hp with hp | ⟨hap, hp⟩
        · exact absurd hp hnb
        · rw [hit i to t1, hit j x hx]
          refine ⟨indT_of hap, ?_⟩
          rcases hp with hp | ⟨hp1, hp2⟩
          · exact .inl hp
          · exact .inr ⟨hpure j x hx hp1, hpure i to t1 hp2⟩
      -- it comes first
      have path1 : (∀ j ∈ pre, IndT (it j).1 (it i).1 ∧ ((it j).2.wr = [] ∧ (it i).2.wr = [] ∨ PairF (it j).2 (it i).2)) → wpOp P ops Q i (wpAny P .any ops Q fuel (listed.setIfInBounds i true)) a w := by
        intro hind
        obtain ⟨E, hS, hrun'⟩ := run_pull pre st st' hrun hind
        have hS0 := hS
        rw [hit i to t1] at hS hrun'
        have hstep := wpOp_put (P := P) (Q := Q) ho (step_ok (Q := Q) hall ho t2 t3 t4 t5 hS hR (K := fun a' w' => Rel F (st.put to.dst E) a' w') fun a' w' h => h)
        refine wpOp_mono (fun a' w' hh => ?_) hstep
        obtain ⟨hR', v, ds, ha'⟩ := hh
        refine ih (listed.setIfInBounds i true) pend (pre ++ post) _ a' w' (by simpa using hsz) ?_ (fun j => ?_) hcl' ?_ (fun s hs => ?_) hrun' hR'
        · exact hL.sublist ((List.Sublist.refl pre).append (List.sublist_cons_self i post))
        · rw [hgd]
          constructor
          · intro hj
            have hj' := (hmem j).1 (by simp only [List.mem_append, List.mem_cons] at hj ⊢; rcases hj with h | h <;> simp [h])
            refine ⟨hj'.1, ?_⟩
            have : j ≠ i := by
              rintro rfl
              rcases List.mem_append.1 hj with h | h
              · exact hnd.1 h
              · exact hnd.2 h
            simpa [this] using hj'.2
          · rintro ⟨hj1, hj2⟩
            by_cases hne : j = i
            · subst hne
              simp only [if_true, Bool.true_eq_false, false_or] at hj2
              have := (hpd j hj2).1; omega
            · simp only [hne, if_false] at hj2
              have := (hmem j).2 ⟨hj1, hj2⟩
              simp only [List.mem_append, List.mem_cons, hne, false_or] at this ⊢
              exact this
        · simp only [List.length_append, List.length_cons] at hfu ⊢; omega
        · obtain ⟨his, hsl, so, sto, t, x, y, x', y', n, p, ri, f, cs, w1, w2, w3, w4, w5, w6⟩ := hpd s hs
          have hne : s ≠ i := by omega
          refine ⟨by rw [hgd]; simp [hne, hsl], so, sto, t, x, y, x', y', n, p, ri, f, cs, w1, w2, w3, w4, ?_, w6⟩
          -- they do not meet
          have hss : s < ops.size := (Array.getElem?_eq_some_iff.1 w1).1
          obtain ⟨x2, hx2, hp2⟩ := hF.pair s i sto w2 his
          rw [t1] at hx2; cases hx2
          have hnb : ¬ ((masks[s]?).getD 0).testBit i = true := fun hb => by rw [hcl s hss hsl i hin hb] at h0; cases h0
          have hcan : canWr sto.op = true := by
            have := w4.top; rw [hit s sto w2] at this; rw [this]; rfl
          rcases hp2 with hp2 | ⟨hap, hp2⟩
          · exact absurd hp2 hnb
          · have hk : i ∈ unmark sto.free := hp2.resolve_right fun h => by rw [hcan] at h; cases h.2
            have hT : IndT to (it s).1 := by rw [hit s sto w2]; exact indT_of hap
            refine pinned_step w4 w5 hS hT (indF_of (w6 i hk)) ?_
            rw [ha']
            refine eval_put w4.cy fun d hd hm => ?_
            refine (hT.a d (by rw [t5]; exact hd)).1 ?_
            simp [lookT, w4.top, opTm, hm]
      by_cases hpe : pre = []
      · exact path1 fun j hj => by rw [hpe] at hj; cases hj
      rcases hfr i to t1 with hp | ⟨hm, hd, hp⟩
      · refine path1 fun j hj => ⟨(hpair j hj).1, ?_⟩
        rcases (hpair j hj).2 with h | h
        · exact .inr (pairF_of (hp j h))
        · exact .inl h
      -- it waits
      obtain ⟨o', t, x, y, ho', hop, hg, hdst, hord⟩ := hF.late i to t1 hm
      rw [ho] at ho'; cases ho'
      have hpn : pend = none := by
        cases pend with
        | none => rfl
        | some s =>
          exfalso
          obtain ⟨his, hsl, so, _, _, _, _, _, _, _, _, _, _, _, w1, _⟩ := hpd s rfl
          have hss : s < ops.size := (Array.getElem?_eq_some_iff.1 w1).1
          rw [hcl s hss hsl i hin (hord s (by rw [hlen]; exact hss) his).1] at h0; cases h0
      subst hpn
      rw [compOp_eq (by rw [hop]; rfl)] at t2
      simp only [compOp0, hop, Option.bind_eq_some_iff, Option.some.injEq] at t2
      obtain ⟨n, hn, x', hx, y', hy, htop⟩ := t2
      have hgd' : to.guard = none := by
        rw [hg] at t3
        simpa [compGuard] using t3.symm
      have hlate : Late P it o i t x y x' y' n := ⟨hop, hdst, hg, by rw [hit i to t1, t5, hdst], by rw [hit i to t1, hgd'], by rw [hit i to t1]; exact htop.symm, hn, hx, hy, hd⟩
      have hcan : canWr to.op = true := by rw [← htop]; rfl
      refine late_early (N := ops.size) ho hlate hrun (fun j hj => ?_) (fun j hj => ⟨(hpair j hj).1, ?_⟩) hR fun st2 w2 p ri f cs hR2 hrun2 hpin => ?_
      · have := ((hmem j).1 hj).1; omega
      · rcases (hpair j hj).2 with h | h
        · exact indF_of (hp j h)
        · exfalso
          obtain ⟨st1, hr1, E, hS, _⟩ := run_app.1 hrun
          obtain ⟨_, hf⟩ := (stepF_plain hlate.tguard).1 hS
          have hE := ((stepF_plain hlate.tguard).1 hS).1
          rw [hlate.top] at hE
          simp only [opW] at hE
          split at hE
          case h_2 => exact hE.elim
          rename_i pp ii ff hpt
          split at hE
          case h_2 => exact hE.elim
          obtain ⟨_, hrow, rfl⟩ := hE
          split at hrow
          case h_2 => exact hrow.elim
          rename_i hr
          have hp0 := node_ne hr
          have := h.2
          rw [hf] at this
          cases pp with
          | nil => exact hp0 rfl
          | cons s t => simp [footOf] at this
      · refine ih (listed.setIfInBounds i true) (some i) (pre ++ i :: post) st2 a w2 (by simpa using hsz) hL (fun j => ?_) hcl' (by simpa using hfu) (fun s hs => ?_) hrun2 hR2
        · rw [hgd, hmem j]
          by_cases hne : j = i
          · subst hne; simp [h0]
          · have : ¬ i = j := fun h => hne h.symm
            simp [hne, this]
        · simp only [Option.some.injEq] at hs; subst hs
          exact ⟨by rw [hgd]; simp, o, to, t, x, y, x', y', n, p, ri, f, cs, ho, t1, hm, hlate, hpin, hp⟩
    cases pend with
    | none => exact key none L st hL hmem (by simpa using hfu) (fun s hs => by cases hs) hrun hR
    | some s =>
      obtain ⟨hsl, hw⟩ := hpd s rfl
      have hw0 := hw
      obtain ⟨so, sto, _, _, _, _, _, _, _, _, _, _, w1, w2, w3, _⟩ := hw0
      have hss : s < ops.size := (Array.getElem?_eq_some_iff.1 w1).1
      rcases Nat.lt_trichotomy i s with h | h | h
      · refine key (some s) L st hL hmem (by simpa using hfu) (fun s' hs' => ?_) hrun hR
        simp only [Option.some.injEq] at hs'; subst hs'
        exact ⟨h, hsl, hw⟩
      · subst h; rw [hsl] at h0; cases h0
      · -- it is its turn
        obtain ⟨_, _, _, _, _, _, _, _, hord⟩ := hF.late s sto w2 w3
        obtain ⟨_, hord2⟩ := hord i (by rw [hlen]; exact hin) h
        have hsL : s ∈ L := (hmem s).2 ⟨hss, .inr rfl⟩
        obtain ⟨pre, post, rfl⟩ := List.append_of_mem hsL
        have hpe : pre = [] := by
          cases pre with
          | nil => rfl
          | cons k pre =>
            exfalso
            have hks : k < s := (List.pairwise_append.1 hL).2.2 k List.mem_cons_self s List.mem_cons_self
            obtain ⟨hk1, hk2⟩ := (hmem k).1 (by simp)
            have hk3 : listed.getD k true = false := hk2.resolve_right fun h => by simp only [Option.some.injEq] at h; omega
            rcases hord2 k hks with hb | hb
            · rw [hcl s hss hsl k hk1 hb] at hk3; cases hk3
            · rw [hanc k hk1 hb] at hk3; cases hk3
        subst hpe
        obtain ⟨st2, h1, h2⟩ := commit s post st a w hw hrun hR
        have hns : ∀ j ∈ post, j ≠ s := fun j hj => by have := (List.pairwise_cons.1 hL).1 j hj; omega
        refine key none post st2 (List.pairwise_cons.1 hL).2 (fun j => ?_) (by simp only [List.nil_append, List.length_cons, Option.toList_some, List.length_nil] at hfu; simp; omega) (fun s hs => by cases hs) h1 h2
        constructor
        · intro hj
          obtain ⟨q1, q2⟩ := (hmem j).1 (by simp [hj])
          exact ⟨q1, .inl (q2.resolve_right fun h => hns j hj (by simpa using h.symm))⟩
        · rintro ⟨q1, q2⟩
          have q3 : listed.getD j true = false := q2.resolve_right (by simp)
          have := (hmem j).2 ⟨q1, .inl q3⟩
          simp only [List.nil_append, List.mem_cons] at this
          rcases this with rfl | h
          · rw [hsl] at q3; cases q3
          · exact h

theorem drawsGood_of (hall : AllGood P) : DrawsGood P := by
  intro F rid ops l st a w TQ Q hc hR hT hQ
  simp only [compDraw, Option.bind_eq_some_iff] at hc
  obtain ⟨tl, h1, hc⟩ := hc
  split at hc
  case isFalse => cases hc
  rename_i hmo
  simp only [Option.some.injEq] at hc
  obtain ⟨hmix, hok⟩ := hmo
  rw [hc] at hok
  have hF := drawF_of hok
  obtain ⟨g1, g2⟩ := compOps_get h1
  have hlen : l.length = ops.size := by rw [← hc]; simpa using g1
  have hget : ∀ (i : Nat) (o : Oper), ops[i]? = some o → ∃ to : TOper, l[i]? = some to ∧ compOp P o = some to.op ∧ compGuard ops o.guard = some to.guard ∧ dstOk F.N o.dst = true ∧ to.dst = o.dst := by
    intro i o ho
    obtain ⟨to, q1, q2, q3, q4, q5⟩ := g2 i o (by simpa using ho)
    exact ⟨{ to with free := freeOf ops (ancGo (ops.toList.map predsOf) []) tl i to }, by rw [← hc, List.getElem?_mapIdx, q1]; rfl, q2, q3, q4, q5⟩
  obtain ⟨gs, st', k1, k2, k3, k4⟩ := drawW_run l [] st TQ hT
  let it : Nat → TOper × Foot := fun i => ((l[i]?).getD default, (gs[i]?).getD ⟨[], [], [], 0, true, none, none⟩)
  have hit : ∀ i to, l[i]? = some to → (it i).1 = to := fun i to h => by simp [it, h]
  have hrun := k3 it (fun i o h => by simp [it, h]) (fun i g h => by simp [it, h])
  simp only [List.length_nil, List.nil_append] at hrun k4
  have hgs : ∀ i to, l[i]? = some to → ∃ g, gs[i]? = some g ∧ (it i).2 = g := by
    intro i to h
    have : i < gs.length := by rw [k1]; exact (List.getElem?_eq_some_iff.1 h).1
    exact ⟨gs[i], by simp [this], by simp [it, this]⟩
  refine wp_region_any hmix ?_
  have hR' : Rel F st a { w with drawn := w.drawn + 1 } := by
    obtain ⟨κ, γ, r1, r2, r3, r4, r5, r6, r7⟩ := hR
    have hs : Same w { w with drawn := w.drawn + 1 } := ⟨rfl, rfl, rfl, rfl⟩
    exact ⟨κ, γ, r1.same hs, r2, r3, fun k => (r4 k).same hs, r5, r6, r7⟩
  refine any_ok hall (it := it) hF hlen hget hit (fun i to h => ?_) (fun i to h hw => ?_) (fun a w hR => hQ st' a w hR k2) ops.size _ none (List.range' 0 l.length) st a _ (by simp) ?_ (fun i => ?_) (fun i hi hl => ?_) (by simp [hlen]) (fun s hs => by cases hs) hrun hR'
  · obtain ⟨g, e1, e2⟩ := hgs i to h
    rw [e2]
    rcases k4 i to g h e1 with hh | ⟨hm, hd, hh⟩
    · refine .inl fun k hk => ?_
      obtain ⟨f, e3, e4⟩ := hh k hk
      have : (it k).2 = f := by simp [it, e3]
      rw [this]; exact e4
    · refine .inr ⟨hm, hd, fun k hk => ?_⟩
      obtain ⟨f, e3, e4⟩ := hh k hk
      have : (it k).2 = f := by simp [it, e3]
      rw [this]; exact e4
  · obtain ⟨s, E, hS⟩ := run_steps hrun i (by simp; exact (List.getElem?_eq_some_iff.1 h).1)
    exact step_pure hS (by rw [hit i to h]; exact hw)
  · exact List.pairwise_lt_range'
  · simp only [List.mem_range', hlen]
    constructor
    · rintro ⟨j, hj, rfl⟩
      refine ⟨by omega, ?_⟩
      simp [hj]
    · rintro ⟨h1, _⟩
      exact ⟨i, h1, by omega⟩
  · rw [← hlen] at hi; simp [hlen ▸ hi] at hl

theorem drawsGood (P : Program) : DrawsGood P := drawsGood_of (allGood P)

/-- A function's promise out of its body's run on the machine. -/
theorem mk_contract {al : Bool} {g : FuncId} {fn : Func} {c : Code} {tc : TCode} {ms : List Mode} {args res : List TV} {outs : List (Option TV)} (gq : List (Option Path)) {rt : List TRes}
    (hf : P.funcs[g]? = some fn) (hb : fn.body = some c) (hc : compCode P fn.ntmps c = some tc) (hr : resTmps P fn.results.toList = some rt) (hn : args.length ≤ fn.ntmps)
    (hT : ms.length = args.length → twp P tc (endW al res outs gq rt) (initSt ms args)) : Contract P al g ms args res outs :=
  contract_of (allGood P) (drawsGood P) gq hf hb hc hr hn hT

end
end Go.Proofs.YtloodkhdngipbaaT
