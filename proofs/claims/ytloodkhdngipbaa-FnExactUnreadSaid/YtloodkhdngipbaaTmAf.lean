/- TM, part Af: drawn regions are sound. -/
import Derived.Test.YtloodkhdngipbaaTmAe
namespace Go.Proofs.YtloodkhdngipbaaT
set_option linter.unusedVariables false
set_option linter.unusedSimpArgs false
open Go

section
variable {P : Program} {F : Fr} {st st' : St} {root : Nat} {E : Eff}

theorem compOps_get {N rid : Nat} {ops : Array Oper} : ∀ {l : List Oper} {k : Nat} {tl : List TOper}, compOps P N rid ops k l = some tl → tl.length = l.length ∧
    ∀ (i : Nat) (o : Oper), l[i]? = some o → ∃ to : TOper, tl[i]? = some to ∧ compOp P o = some to.op ∧ compGuard ops o.guard = some to.guard ∧ dstOk N o.dst = true ∧ to.dst = o.dst
  | [], k, tl, h => by simp only [compOps, Option.some.injEq] at h; subst h; simp
  | o :: os, k, tl, h => by
    simp only [compOps, Option.bind_eq_some_iff] at h
    obtain ⟨top, h1, tg, h2, h⟩ := h
    split at h
    case isFalse => cases h
    rename_i hd
    simp only [Option.bind_eq_some_iff, Option.some.injEq] at h
    obtain ⟨tl', h3, rfl⟩ := h
    obtain ⟨g1, g2⟩ := compOps_get h3
    refine ⟨by simp [g1], fun i o' hi => ?_⟩
    cases i with
    | zero =>
      simp only [List.getElem?_cons_zero, Option.some.injEq] at hi; subst hi
      exact ⟨_, rfl, h1, h2, hd, rfl⟩
    | succ i => simpa using g2 i o' (by simpa using hi)

theorem drawW_run : ∀ (os : List TOper) (fs : List Foot) (st : St) (Q : St → Prop), drawW P os fs st Q → ∃ (gs : List Foot) (st' : St), gs.length = os.length ∧ Q st' ∧
    (∀ it : Nat → TOper × Foot, (∀ i o, os[i]? = some o → (it (fs.length + i)).1 = o) → (∀ i g, gs[i]? = some g → (it (fs.length + i)).2 = g) → Run P it (List.range' fs.length os.length) st st') ∧
    ∀ (i : Nat) (o : TOper) (g : Foot), os[i]? = some o → gs[i]? = some g → ∀ k ∈ o.free, ∃ f, (fs ++ gs)[k]? = some f ∧ pairOk f g = true
  | [], fs, st, Q, h => ⟨[], st, rfl, h, fun _ _ _ => rfl, fun i o g h => by simp at h⟩
  | o :: os, fs, st, Q, h => by
    have step : ∀ b, ((b = true → opW P st o.root o.op fun E => chk fs o.free (footOf st o E) = true ∧ drawW P os (fs ++ [footOf st o E]) (st.put o.dst E) Q) ∧
        (b = false → chk fs o.free (foot0 o) = true ∧ drawW P os (fs ++ [foot0 o]) (st.undef o.dst) Q)) →
        ∃ E f, ((b = true → opW P st o.root o.op (· = E) ∧ f = footOf st o E) ∧ (b = false → E = val st (.tu []) ∧ f = foot0 o)) ∧ chk fs o.free f = true ∧ drawW P os (fs ++ [f]) (st.put o.dst E) Q := by
      intro b hb
      cases b with
      | true =>
        obtain ⟨E, h1, h2, h3⟩ := opW_one (hb.1 rfl)
        exact ⟨E, _, ⟨fun _ => ⟨h1, rfl⟩, fun h => by cases h⟩, h2, h3⟩
      | false =>
        obtain ⟨h2, h3⟩ := hb.2 rfl
        exact ⟨_, _, ⟨fun h => (by cases h), fun _ => ⟨rfl, rfl⟩⟩, h2, by rw [undef_put]; exact h3⟩
    have hstep : ∃ E f, StepF P st o E f ∧ chk fs o.free f = true ∧ drawW P os (fs ++ [f]) (st.put o.dst E) Q := by
      simp only [drawW] at h
      unfold StepF
      cases hg : o.guard with
      | none => rw [hg] at h; exact step true h
      | some tw =>
        obtain ⟨t, w⟩ := tw
        rw [hg] at h
        simp only [wantW] at h ⊢
        split at h
        case h_2 => exact h.elim
        rename_i x hx
        first
          | exact step _ h
          | (rw [hx]; exact step _ h)
    obtain ⟨E, f, h1, h2, h3⟩ := hstep
    obtain ⟨gs, st', g1, g2, g3, g4⟩ := drawW_run os _ _ _ h3
    refine ⟨f :: gs, st', by simp [g1], g2, fun it i1 i2 => ?_, fun i o' g hi hgi k hk => ?_⟩
    · rw [List.length_cons, List.range'_succ]
      have e1 : (it fs.length).1 = o := i1 0 o rfl
      have e2 : (it fs.length).2 = f := i2 0 f rfl
      refine ⟨E, by rw [e1, e2]; exact h1, ?_⟩
      rw [e1]
      have := g3 it (fun i o' hi => by
          have := i1 (i + 1) o' (by simpa using hi)
          rw [show (fs ++ [f]).length + i = fs.length + (i + 1) by simp; omega]; exact this) (fun i g hi => by
          have := i2 (i + 1) g (by simpa using hi)
          rw [show (fs ++ [f]).length + i = fs.length + (i + 1) by simp; omega]; exact this)
      simpa using this
    · cases i with
      | zero =>
        simp only [List.getElem?_cons_zero, Option.some.injEq] at hi hgi; subst hi; subst hgi
        have := List.all_eq_true.1 h2 k hk
        split at this
        · rename_i f' hf
          refine ⟨f', ?_, this⟩
          rw [List.getElem?_append_left (List.getElem?_eq_some_iff.1 hf).1]; exact hf
        · cases this
      | succ i =>
        obtain ⟨f', q1, q2⟩ := g4 i o' g (by simpa using hi) (by simpa using hgi) k hk
        exact ⟨f', by simpa using q1, q2⟩

theorem run_steps {it : Nat → TOper × Foot} : ∀ {L : List Nat} {st st' : St}, Run P it L st st' → ∀ i ∈ L, ∃ st E, StepF P st (it i).1 E (it i).2
  | _ :: _, st, _, ⟨E, h, h2⟩, i, hi => by
    rcases List.mem_cons.1 hi with rfl | hi
    · exact ⟨st, E, h⟩
    · exact run_steps h2 i hi

theorem step_ok (hall : AllGood P) {ops : Array Oper} {i : Nat} {o : Oper} {to : TOper} {f : Foot} {a : Act} {w : World} {Q : Exit → Act → World → Prop} {K : Act → World → Prop}
    (ho : ops[i]? = some o) (h1 : compOp P o = some to.op) (h2 : compGuard ops o.guard = some to.guard) (h3 : dstOk F.N o.dst = true) (h4 : to.dst = o.dst)
    (hS : StepF P st to E f) (hR : Rel F st a w) (hK : ∀ a' w', Rel F (st.put to.dst E) a' w' → K a' w') : wpOp P ops Q i K a w := by
  have hd : ∀ d, o.dst = some d → d < F.N := by
    intro d hd
    rw [hd] at h3
    simpa [dstOk] using h3
  rw [h4] at hK
  have hwant : ∃ b, Region.wanted o (yielded ops a.tmps) = b ∧ ((b = true → opW P st to.root to.op (· = E) ∧ f = footOf st to E) ∧ (b = false → E = val st (.tu []) ∧ f = foot0 to)) := by
    unfold StepF at hS
    unfold compGuard at h2
    split at h2
    · rename_i hg
      simp only [Option.some.injEq] at h2
      rw [← h2] at hS
      exact ⟨true, by simp [Region.wanted, hg], hS⟩
    · rename_i j want hg
      simp only [Option.bind_eq_some_iff, Option.some.injEq] at h2
      obtain ⟨t, ⟨oj, hoj, htj⟩, hgd⟩ := h2
      rw [← hgd] at hS
      simp only [wantW] at hS
      split at hS
      case h_2 => exact hS.elim
      rename_i x hx
      obtain ⟨κ, γ, r1, r2, r3, r4, r5, r6, r7⟩ := hR
      have hv := r4 t
      refine ⟨x, ?_, hS⟩
      simp only [Region.wanted, hg, yielded, hoj, htj, Option.bind_some]
      exact gB_ok hx hv
  obtain ⟨b, hb, ht1, ht2⟩ := hwant
  unfold wpOp
  simp only [ho, hb]
  cases b with
  | true =>
    simp only [if_true]
    exact .inl (hall F o to.op st to.root E h1 hd (ht1 rfl).1 a w _ _ hR hK)
  | false =>
    simp only [Bool.false_eq_true, if_false]
    refine hK _ _ ?_
    rw [(ht2 rfl).1, undef_put]
    exact rel_undef hR hd

/-- What the check told. -/
structure DrawF (ops : Array Oper) (masks : List Nat) (l : List TOper) : Prop where
  lt : ∀ i o, i < l.length → ops[i]? = some o → ∀ p ∈ predsOf o, p < i
  anc : ∀ i o j, i < l.length → ops[i]? = some o → j < l.length → ((masks[i]?).getD 0).testBit j = true → ∃ p ∈ predsOf o, p = j ∨ ((masks[p]?).getD 0).testBit j = true
  pair : ∀ i j y, l[i]? = some y → j < i → ∃ x, l[j]? = some x ∧ (((masks[i]?).getD 0).testBit j = true ∨ apartT x y = true ∧ (j ∈ y.free ∨ canWr x.op = false ∧ canWr y.op = false))

theorem drawF_of {ops : Array Oper} {masks : List Nat} {l : List TOper} (h : drawOk ops masks l = true) : DrawF ops masks l := by
  have key : ∀ i, i < l.length → ∃ o y, ops[i]? = some o ∧ l[i]? = some y ∧ ((predsOf o).all (fun p => decide (p < i)) &&
      (List.range l.length).all (fun j => !((masks[i]?).getD 0).testBit j || (predsOf o).any fun p => p == j || ((masks[p]?).getD 0).testBit j) &&
      (List.range i).all (fun j => match l[j]? with
        | some x => ((masks[i]?).getD 0).testBit j || (apartT x y && (y.free.contains j || (!canWr x.op && !canWr y.op)))
        | none => false)) = true := by
    intro i hi
    have := List.all_eq_true.1 h i (List.mem_range.2 hi)
    split at this
    · rename_i o y h1 h2
      exact ⟨o, y, h1, h2, this⟩
    · cases this
  refine ⟨fun i o hi ho p hp => ?_, fun i o j hi ho hj hb => ?_, fun i j y hy hj => ?_⟩
  · obtain ⟨o', y, h1, h2, h3⟩ := key i hi
    rw [ho] at h1; cases h1
    simp only [Bool.and_eq_true, List.all_eq_true, decide_eq_true_eq] at h3
    exact h3.1.1 p hp
  · obtain ⟨o', y, h1, h2, h3⟩ := key i hi
    rw [ho] at h1; cases h1
    simp only [Bool.and_eq_true] at h3
    have := List.all_eq_true.1 h3.1.2 j (List.mem_range.2 hj)
    simp only [hb, Bool.not_true, Bool.false_or, List.any_eq_true, Bool.or_eq_true, beq_iff_eq] at this
    exact this
  · obtain ⟨o', y', h1, h2, h3⟩ := key i (List.getElem?_eq_some_iff.1 hy).1
    rw [hy] at h2; cases h2
    simp only [Bool.and_eq_true] at h3
    have := List.all_eq_true.1 h3.2 j (List.mem_range.2 hj)
    split at this
    · rename_i x hx
      refine ⟨x, hx, ?_⟩
      simpa [Bool.or_eq_true, Bool.and_eq_true] using this
    · cases this

theorem any_ok (hall : AllGood P) {ops : Array Oper} {masks : List Nat} {l : List TOper} {it : Nat → TOper × Foot} {Q : Exit → Act → World → Prop} {st' : St}
    (hF : DrawF ops masks l) (hlen : l.length = ops.size)
    (hget : ∀ (i : Nat) (o : Oper), ops[i]? = some o → ∃ to : TOper, l[i]? = some to ∧ compOp P o = some to.op ∧ compGuard ops o.guard = some to.guard ∧ dstOk F.N o.dst = true ∧ to.dst = o.dst)
    (hit : ∀ i to, l[i]? = some to → (it i).1 = to) (hfr : ∀ i to, l[i]? = some to → ∀ k ∈ to.free, pairOk (it k).2 (it i).2 = true) (hpure : ∀ i to, l[i]? = some to → canWr to.op = false → (it i).2.wr = [])
    (hQ : ∀ a w, Rel F st' a w → Q .normal a w) :
    ∀ (fuel : Nat) (listed : Array Bool) (L : List Nat) (st : St) (a : Act) (w : World), listed.size = ops.size → L.Pairwise (· < ·) → (∀ i, i ∈ L ↔ i < ops.size ∧ listed.getD i true = false) →
      (∀ i, i < ops.size → listed.getD i true = true → ∀ j, j < ops.size → ((masks[i]?).getD 0).testBit j = true → listed.getD j true = true) → L.length ≤ fuel →
      Run P it L st st' → Rel F st a w → wpAny P .any ops Q fuel listed a w := by
  have nil : ∀ (listed : Array Bool) (L : List Nat) (st : St) (a : Act) (w : World), listed.size = ops.size → L.Pairwise (· < ·) → (∀ i, i ∈ L ↔ i < ops.size ∧ listed.getD i true = false) →
      Run P it L st st' → Rel F st a w → Region.ready .any ops listed = [] → Q .normal a w := by
    intro listed L st a w hsz hL hmem hrun hR hr
    cases L with
    | nil =>
      have : st = st' := hrun
      subst this; exact hQ a w hR
    | cons i L =>
      exfalso
      obtain ⟨hi1, hi2⟩ := (hmem i).1 List.mem_cons_self
      have : i ∈ Region.ready .any ops listed := by
        refine mem_ready.2 ⟨hi2, ops[i], by simp [hi1], fun e he hb => ?_⟩
        have hp : e.on < i := hF.lt i ops[i] (by rw [hlen]; exact hi1) (by simp [hi1]) e.on (List.mem_map.2 ⟨e, List.mem_filter.2 ⟨by simpa using he, hb⟩, rfl⟩)
        have hel : e.on < listed.size := by rw [hsz]; omega
        cases hx : listed.getD e.on true with
        | true => simpa [hel] using hx
        | false =>
          rcases List.mem_cons.1 ((hmem e.on).2 ⟨by omega, hx⟩) with h | h
          · omega
          · have := (List.pairwise_cons.1 hL).1 _ h; omega
      rw [hr] at this; cases this
  intro fuel
  induction fuel with
  | zero =>
    intro listed L st a w hsz hL hmem hcl hfu hrun hR
    have : L = [] := List.length_eq_zero_iff.1 (by omega)
    subst this
    refine ⟨?_, ?_⟩
    · cases hr : Region.ready .any ops listed with
      | nil => rfl
      | cons i r =>
        have hi : i ∈ Region.ready .any ops listed := by rw [hr]; exact List.mem_cons_self
        obtain ⟨h0, o, ho, _⟩ := mem_ready.1 hi
        have := (hmem i).2 ⟨(Array.getElem?_eq_some_iff.1 ho).1, h0⟩
        cases this
    · have : st = st' := hrun
      subst this; exact hQ a w hR
  | succ fuel ih =>
    intro listed L st a w hsz hL hmem hcl hfu hrun hR
    refine ⟨fun hr => nil listed L st a w hsz hL hmem hrun hR hr, fun i hi => ?_⟩
    obtain ⟨h0, o, ho, hall'⟩ := mem_ready.1 hi
    have hin : i < ops.size := (Array.getElem?_eq_some_iff.1 ho).1
    have hiL : i ∈ L := (hmem i).2 ⟨hin, h0⟩
    obtain ⟨pre, post, rfl⟩ := List.append_of_mem hiL
    have hlt : ∀ j ∈ pre, j < i := fun j hj => (List.pairwise_append.1 hL).2.2 j hj i List.mem_cons_self
    obtain ⟨to, t1, t2, t3, t4, t5⟩ := hget i o ho
    -- what stands before it is not bound to
    have hanc : ∀ j, j < ops.size → ((masks[i]?).getD 0).testBit j = true → listed.getD j true = true := by
      intro j hj hb
      obtain ⟨p, hp, h⟩ := hF.anc i o j (by rw [hlen]; exact hin) ho (by rw [hlen]; exact hj) hb
      obtain ⟨e, he, rfl⟩ := List.mem_map.1 hp
      obtain ⟨he1, he2⟩ := List.mem_filter.1 he
      have hpl := hall' e (by simpa using he1) he2
      have hlt' := hF.lt i o (by rw [hlen]; exact hin) ho e.on hp
      have hpl' : listed.getD e.on true = true := by
        have : e.on < listed.size := by rw [hsz]; omega
        simpa [this] using hpl
      rcases h with rfl | h
      · exact hpl'
      · exact hcl e.on (by omega) hpl' j hj h
    obtain ⟨E, hS, hrun'⟩ := run_pull pre st st' hrun fun j hj => by
      obtain ⟨hj1, hj2⟩ := (hmem j).1 (List.mem_append_left _ hj)
      obtain ⟨x, hx, hp⟩ := hF.pair i j to t1 (hlt j hj)
      have hnb : ¬ ((masks[i]?).getD 0).testBit j = true := fun hb => by rw [hanc j hj1 hb] at hj2; cases hj2
      rcases hp with hp | ⟨hap, hp⟩
      · exact absurd hp hnb
      · rw [hit i to t1, hit j x hx]
        refine ⟨indT_of hap, ?_⟩
        rcases hp with hp | ⟨hp1, hp2⟩
        · exact .inr (pairF_of (hfr i to t1 j hp))
        · exact .inl ⟨hpure j x hx hp1, hpure i to t1 hp2⟩
    rw [hit i to t1] at hS hrun'
    refine step_ok hall ho t2 t3 t4 t5 hS hR fun a' w' hR' => ?_
    have hnd : i ∉ pre ∧ i ∉ post := by
      refine ⟨fun h => by have := hlt i h; omega, fun h => ?_⟩
      have := (List.pairwise_cons.1 (List.pairwise_append.1 hL).2.1).1 i h
      omega
    have hgd : ∀ j, (listed.setIfInBounds i true).getD j true = if j = i then true else listed.getD j true := by
      intro j
      split
      · rename_i h; subst h; simp [hsz, hin]
      · rename_i h; exact getD_set_ne true (Ne.symm h)
    refine ih (listed.setIfInBounds i true) (pre ++ post) _ a' w' (by simpa using hsz) ?_ (fun j => ?_) (fun k hk hkl j hj hb => ?_) ?_ hrun' hR'
    · exact hL.sublist ((List.Sublist.refl pre).append (List.sublist_cons_self i post))
    · rw [hgd]
      constructor
      · intro hj
        have hj' := (hmem j).1 (by simp only [List.mem_append, List.mem_cons] at hj ⊢; rcases hj with h | h <;> simp [h])
        refine ⟨hj'.1, ?_⟩
        have : j ≠ i := by
          rintro rfl
          rcases List.mem_append.1 hj with h | h
          · exact hnd.1 h
          · exact hnd.2 h
        simp [this, hj'.2]
      · rintro ⟨hj1, hj2⟩
        split at hj2
        · cases hj2
        · rename_i hne
          have := (hmem j).2 ⟨hj1, hj2⟩
          simp only [List.mem_append, List.mem_cons, hne, false_or] at this ⊢
          exact this
    · rw [hgd] at hkl ⊢
      split
      · rfl
      · split at hkl
        · rename_i h; subst h; exact hanc j hj hb
        · exact hcl k hk hkl j hj hb
    · simp only [List.length_append, List.length_cons] at hfu ⊢; omega

theorem drawsGood_of (hall : AllGood P) : DrawsGood P := by
  intro F rid ops l st a w TQ Q hc hR hT hQ
  simp only [compDraw, Option.bind_eq_some_iff] at hc
  obtain ⟨tl, h1, hc⟩ := hc
  split at hc
  case isFalse => cases hc
  rename_i hmo
  simp only [Option.some.injEq] at hc
  obtain ⟨hmix, hok⟩ := hmo
  rw [hc] at hok
  have hF := drawF_of hok
  obtain ⟨g1, g2⟩ := compOps_get h1
  have hlen : l.length = ops.size := by rw [← hc]; simpa using g1
  have hget : ∀ (i : Nat) (o : Oper), ops[i]? = some o → ∃ to : TOper, l[i]? = some to ∧ compOp P o = some to.op ∧ compGuard ops o.guard = some to.guard ∧ dstOk F.N o.dst = true ∧ to.dst = o.dst := by
    intro i o ho
    obtain ⟨to, q1, q2, q3, q4, q5⟩ := g2 i o (by simpa using ho)
    exact ⟨{ to with free := freeOf (ancGo (ops.toList.map predsOf) []) tl i to }, by rw [← hc, List.getElem?_mapIdx, q1]; rfl, q2, q3, q4, q5⟩
  obtain ⟨gs, st', k1, k2, k3, k4⟩ := drawW_run l [] st TQ hT
  let it : Nat → TOper × Foot := fun i => ((l[i]?).getD default, (gs[i]?).getD ⟨[], [], [], 0, true, none, none⟩)
  have hit : ∀ i to, l[i]? = some to → (it i).1 = to := fun i to h => by simp [it, h]
  have hrun := k3 it (fun i o h => by simp [it, h]) (fun i g h => by simp [it, h])
  simp only [List.length_nil, List.nil_append] at hrun k4
  have hgs : ∀ i to, l[i]? = some to → ∃ g, gs[i]? = some g ∧ (it i).2 = g := by
    intro i to h
    have : i < gs.length := by rw [k1]; exact (List.getElem?_eq_some_iff.1 h).1
    exact ⟨gs[i], by simp [this], by simp [it, this]⟩
  refine wp_region_any hmix ?_
  have hR' : Rel F st a { w with drawn := w.drawn + 1 } := by
    obtain ⟨κ, γ, r1, r2, r3, r4, r5, r6, r7⟩ := hR
    have hs : Same w { w with drawn := w.drawn + 1 } := ⟨rfl, rfl, rfl, rfl⟩
    exact ⟨κ, γ, r1.same hs, r2, r3, fun k => (r4 k).same hs, r5, r6, r7⟩
  refine any_ok hall (it := it) hF hlen hget hit (fun i to h k hk => ?_) (fun i to h hw => ?_) (fun a w hR => hQ st' a w hR k2) ops.size _ (List.range' 0 l.length) st a _ (by simp) ?_ (fun i => ?_) (fun i hi hl => ?_) (by simp [hlen]) hrun hR'
  · obtain ⟨g, e1, e2⟩ := hgs i to h
    obtain ⟨f, e3, e4⟩ := k4 i to g h e1 k hk
    rw [e2]
    have : (it k).2 = f := by simp [it, e3]
    rw [this]; exact e4
  · obtain ⟨s, E, hS⟩ := run_steps hrun i (by simp; exact (List.getElem?_eq_some_iff.1 h).1)
    exact step_pure hS (by rw [hit i to h]; exact hw)
  · exact List.pairwise_lt_range'
  · simp only [List.mem_range', hlen]
    constructor
    · rintro ⟨j, hj, rfl⟩
      refine ⟨by omega, ?_⟩
      simp [hj]
    · rintro ⟨h1, _⟩
      exact ⟨i, h1, by omega⟩
  · rw [← hlen] at hi; simp [hlen ▸ hi] at hl

theorem drawsGood (P : Program) : DrawsGood P := drawsGood_of (allGood P)

/-- A function's promise out of its body's run on the machine. -/
theorem mk_contract {al : Bool} {g : FuncId} {fn : Func} {c : Code} {tc : TCode} {ms : List Mode} {args res : List TV} {outs : List (Option TV)} (gq : List (Option Path)) {rt : List TRes}
    (hf : P.funcs[g]? = some fn) (hb : fn.body = some c) (hc : compCode P fn.ntmps c = some tc) (hr : resTmps P fn.results.toList = some rt) (hn : args.length ≤ fn.ntmps)
    (hT : ms.length = args.length → twp P tc (endW al res outs gq rt) (initSt ms args)) : Contract P al g ms args res outs :=
  contract_of (allGood P) (drawsGood P) gq hf hb hc hr hn hT

end
end Go.Proofs.YtloodkhdngipbaaT
