/- TM, part Ad: an operation's effect hangs on what it looks at alone. -/
import Derived.Test.YtloodkhdngipbaaTmAc
namespace Go.Proofs.YtloodkhdngipbaaT
set_option linter.unusedVariables false
set_option linter.unusedSimpArgs false
open Go

section
variable {P : Program} {st st' : St} {root : Nat} {H H' H1 : Hp} {E : Eff} {op : TOp}

structure AgrS (st st' : St) (op : TOp) (root : Nat) : Prop where
  t : SameT st st' op
  H : Agree (rootsL (opT st op)) st.H st'.H
  root : st'.H root = st.H root
  org : ∀ (s : Nat × Nat) (t : Path), s.1 ∈ rootsL (opT st op) → st'.org (s :: t) = st.org (s :: t)

structure LocE (st st' : St) (E E' : Eff) : Prop where
  v : E'.v = E.v
  dead : E'.dead = E.dead
  nr : E'.nr = E.nr
  norg : E'.norg = E.norg
  wr : E'.wr = E.wr
  mix : Mix E.wr E.H st'.H E'.H
  off : ∀ r, r ∉ E.wr → E.H r = st.H r
  nrw : ∀ r, E.nr = some r → r ∈ E.wr
  ded : ∀ q, deadB E.dead q = true → ∃ s t, q = s :: t ∧ s.1 ∈ E.wr

theorem LocE.val (v : TV) : LocE st st' (Go.Proofs.YtloodkhdngipbaaT.val st v) (Go.Proofs.YtloodkhdngipbaaT.val st' v) :=
  ⟨rfl, rfl, rfl, rfl, rfl, fun r => ⟨fun h => by simp [Go.Proofs.YtloodkhdngipbaaT.val] at h, fun _ => rfl⟩, fun _ _ => rfl, fun r h => by simp [Go.Proofs.YtloodkhdngipbaaT.val] at h, fun q h => by simp [Go.Proofs.YtloodkhdngipbaaT.val, deadB] at h⟩

theorem ev_loc {x : TOpd} (h : ∀ k ∈ x.tm, st'.t k = st.t k) : x.ev st' = x.ev st := by
  cases x with
  | t n => exact h n (by simp [TOpd.tm])
  | c v => rfl

theorem loc_val (h : ∃ v, E = val st v ∧ opW P st' root op (· = val st' v)) : ∃ E', opW P st' root op (· = E') ∧ LocE st st' E E' := by
  obtain ⟨v, rfl, h⟩ := h
  exact ⟨_, h, LocE.val v⟩

theorem optB_loc {d : Int} {x : Option TOpd} {K : Int → Prop} (h : ∀ k ∈ tmsO x, st'.t k = st.t k) : optB st' d x K = optB st d x K := by
  cases x with
  | none => rfl
  | some x => simp only [optB]; rw [ev_loc (by simpa [tmsO] using h)]

theorem deadU_in {ds : List Path} {q : Path} {rs : List Nat} (h : deadB (if ds = [] then none else some (under ds)) q = true) (hne : ∀ p ∈ ds, p ≠ []) (hs : ∀ r ∈ prs ds, r ∈ rs) : ∃ s t, q = s :: t ∧ s.1 ∈ rs := by
  split at h
  · simp [deadB] at h
  · simp only [deadB] at h
    obtain ⟨p, h1, h2⟩ := List.any_eq_true.1 h
    have hp := List.isPrefixOf_iff_prefix.1 h2
    cases p with
    | nil => exact absurd rfl (hne _ h1)
    | cons s t =>
      obtain ⟨r, rfl⟩ := hp
      exact ⟨s, t ++ r, rfl, hs _ (prs_mem h1)⟩

theorem norgOf_loc {c : TV} (ha : Agree (rootsT c) st.H st'.H) (ho : ∀ (s : Nat × Nat) (t : Path), s.1 ∈ rootsT c → st'.org (s :: t) = st.org (s :: t)) : norgOf st' c = norgOf st c := by
  have key : ∀ p, rootsT c = pr p → shapeAt st'.H p = shapeAt st.H p ∧ ((shapeAt st.H p).isSome = true → orgOf st' p = orgOf st p) := by
    intro p hp
    rw [hp] at ha ho
    refine ⟨shapeAt_loc ha, fun hs => ?_⟩
    cases p with
    | nil => simp [shapeAt, cellAt] at hs
    | cons s t =>
      have := ho s t (by simp)
      unfold orgOf
      cases t with
      | nil => simp only; rw [this]
      | cons => exact this
  unfold norgOf
  split
  · rename_i p len
    obtain ⟨h1, h2⟩ := key p rfl
    rw [h1]
    split
    · rename_i hs
      exact h2 (by cases hh : shapeAt st.H p with
        | none => rw [hh] at hs; cases hs
        | some x => rfl)
    · rfl
  · rename_i p
    obtain ⟨h1, h2⟩ := key p rfl
    rw [h1]
    split
    · rename_i hs
      exact h2 (by cases hh : shapeAt st.H p with
        | none => rw [hh] at hs; cases hs
        | some x => rfl)
    · rfl
  · rfl

/-- What a new root does, behind a taking. -/
theorem loc_fresh {H1' : Hp} {ds : List Path} {v : TV} {cells : List TV} {norg : List (Option Nat)} (h : TakeLoc st.H st'.H H1 ds H1') :
    LocE st st' { v, dead := if ds = [] then none else some (under ds), H := setRoot H1 root cells, wr := root :: prs ds, nr := some root, norg }
      { v, dead := if ds = [] then none else some (under ds), H := setRoot H1' root cells, wr := root :: prs ds, nr := some root, norg } := by
  refine ⟨rfl, rfl, rfl, rfl, rfl, fun r => ⟨fun hr => ?_, fun hr => ?_⟩, fun r hr => ?_, fun r hr => ?_, fun q hq => deadU_in hq h.ne fun r hr => List.mem_cons_of_mem _ hr⟩
  · simp only [setRoot]
    split
    · rfl
    · rename_i hne
      rcases List.mem_cons.1 hr with rfl | hr
      · exact absurd rfl hne
      · exact (h.mix r).1 hr
  · simp only [List.mem_cons, not_or] at hr
    simp only [setRoot, hr.1, if_false]
    exact (h.mix r).2 hr.2
  · simp only [List.mem_cons, not_or] at hr
    simp only [setRoot, hr.1, if_false]
    exact h.off r hr.2
  · simp only [Option.some.injEq] at hr; subst hr; simp

theorem rootsL_cells {u : TV} {r : Nat} (hr : r ∈ rootsL (cellsT u)) : r ∈ rootsT u := by
  cases u <;> first | exact hr | simpa [cellsT, rootsL] using hr

theorem loc_call {g : FuncId} {as : List (TV × Nat)} (h : callW P st root g as (· = E)) (ha : Agree (rootsL (as.map (·.1))) st.H st'.H) (hr : st'.H root = st.H root) :
    ∃ E', callW P st' root g as (· = E') ∧ LocE st st' E E' := by
  obtain ⟨al, ms, args, res, outs, hc, hroot, hr2, tk, H1, ds, ps, ro, t1, t2, t3, t4, t5⟩ := h
  obtain ⟨H1', g1, g2, g3⟩ := takeArgs_loc t1 ha
  have a1 := g2.agree ha
  -- the places that cells came from
  have hps : ∀ p, some p ∈ ps → ∀ r ∈ pr p, r ∈ rootsL (as.map (·.1)) := by
    intro p hp
    have key : ∀ (ms : List Mode) (as : List (TV × Nat)) (H H1 : Hp) (tk : List TV) (ds : List Path) (ps : List (Option Path)), takeArgs H ms as = some (tk, H1, ds, ps) → some p ∈ ps → ∀ r ∈ pr p, r ∈ rootsL (as.map (·.1)) := by
      intro ms
      induction ms with
      | nil =>
        intro as H H1 tk ds ps h hp
        cases as with
        | nil => simp only [takeArgs, Option.some.injEq, Prod.mk.injEq] at h; obtain ⟨_, _, _, rfl⟩ := h; simp at hp
        | cons => simp [takeArgs] at h
      | cons m ms ih =>
        intro as H H1 tk ds ps h hp r hr
        cases as with
        | nil => cases m <;> simp [takeArgs] at h
        | cons a as =>
          obtain ⟨u, n⟩ := a
          simp only [List.map_cons, rootsL, List.mem_append]
          cases m with
          | ro =>
            simp only [takeArgs, Option.bind_eq_some_iff, Option.some.injEq, Prod.mk.injEq] at h
            obtain ⟨⟨tk', H2, ds', ps'⟩, h1, rfl, rfl, rfl, rfl⟩ := h
            exact .inr (ih as _ _ _ _ _ h1 hp r hr)
          | own =>
            simp only [takeArgs, Option.bind_eq_some_iff, Option.some.injEq, Prod.mk.injEq] at h
            obtain ⟨⟨us, H2, d2⟩, h1, ⟨tk', H3, ds', ps'⟩, h2, rfl, rfl, rfl, rfl⟩ := h
            rcases List.mem_append.1 hp with hp | hp
            · obtain ⟨c, hc1, hc2⟩ := List.mem_map.1 hp
              refine .inl (rootsL_cells (rootsL_mem.2 ⟨c, hc1, ?_⟩))
              unfold pathOf at hc2
              split at hc2
              · simp only [Option.some.injEq] at hc2; subst hc2; exact hr
              · simp only [Option.some.injEq] at hc2; subst hc2; exact hr
              · cases hc2
            · exact .inr (ih as _ _ _ _ _ h2 hp r hr)
    exact key ms as st.H H1 tk ds ps t1 hp
  have hbk : ∀ p, some p ∈ backsOf ps outs → some p ∈ ps := by
    have : ∀ (ps : List (Option Path)) (os : List (Option TV)) p, some p ∈ backsOf ps os → some p ∈ ps := by
      intro ps
      induction ps with
      | nil => intro os p h; simp [backsOf] at h
      | cons q ps ih =>
        intro os p h
        cases os with
        | nil => simp [backsOf] at h
        | cons o os =>
          cases o with
          | none =>
            simp only [backsOf, List.mem_cons, reduceCtorEq, false_or] at h
            exact List.mem_cons_of_mem _ (ih os p h)
          | some u =>
            simp only [backsOf, List.mem_cons] at h ⊢
            exact h.imp id (ih os p)
    exact this ps outs
  have hpd : ∀ p, some p ∈ backsOf ps outs → p ∈ ds := by
    intro p hp
    have key : ∀ (ms : List Mode) (as : List (TV × Nat)) (H H1 : Hp) (tk : List TV) (ds : List Path) (ps : List (Option Path)), takeArgs H ms as = some (tk, H1, ds, ps) → some p ∈ ps → p ∈ ds := by
      intro ms
      induction ms with
      | nil =>
        intro as H H1 tk ds ps h hp
        cases as with
        | nil => simp only [takeArgs, Option.some.injEq, Prod.mk.injEq] at h; obtain ⟨_, _, _, rfl⟩ := h; simp at hp
        | cons => simp [takeArgs] at h
      | cons m ms ih =>
        intro as H H1 tk ds ps h hp
        cases as with
        | nil => cases m <;> simp [takeArgs] at h
        | cons a as =>
          obtain ⟨u, n⟩ := a
          cases m with
          | ro =>
            simp only [takeArgs, Option.bind_eq_some_iff, Option.some.injEq, Prod.mk.injEq] at h
            obtain ⟨⟨tk', H2, ds', ps'⟩, h1, rfl, rfl, rfl, rfl⟩ := h
            exact ih as _ _ _ _ _ h1 hp
          | own =>
            simp only [takeArgs, Option.bind_eq_some_iff, Option.some.injEq, Prod.mk.injEq] at h
            obtain ⟨⟨us, H2, d2⟩, h1, ⟨tk', H3, ds', ps'⟩, h2, rfl, rfl, rfl, rfl⟩ := h
            rcases List.mem_append.1 hp with hp | hp
            · obtain ⟨c, hc1, hc2⟩ := List.mem_map.1 hp
              obtain ⟨m, hm⟩ := List.getElem?_of_mem hc1
              exact List.mem_append_left _ (pathOf_deadL h1 hm hc2)
            · exact List.mem_append_right _ (ih as _ _ _ _ _ h2 hp)
    exact key ms as st.H H1 tk ds ps t1 (hbk p hp)
  have t4' : backOk st'.H H1' ps outs := backOk_loc (fun p hp => ⟨ha.mono (hps p hp), a1.mono (hps p hp)⟩) t4
  have hpb := putBack_loc (us := outsT outs) g2 hpd
  subst t5
  have hdd : ∀ q, deadB (if ds = [] then none else some (fun q => under ds q && !((backsOf ps outs).any (· == some q)))) q = true → ∃ s t, q = s :: t ∧ s.1 ∈ prs ds := by
    intro q hq
    refine deadU_in (ds := ds) ?_ g2.ne (fun _ h => h)
    split at hq
    · simp [deadB] at hq
    · rename_i hne
      simp only [deadB, Bool.and_eq_true] at hq
      simp only [hne, if_false, deadB]; exact hq.1
  refine ⟨_, ⟨al, ms, args, res, outs, hc, by rw [hr]; exact hroot, hr2, tk, H1', ds, ps, ro, g1, by rw [roArgs_loc a1]; exact t2, t3, t4', rfl⟩, ?_⟩
  by_cases hown : (res.flatMap cellsT).any isOwn = true
  · simp only [hown, if_true]
    refine ⟨rfl, rfl, rfl, rfl, rfl, fun r => ⟨fun hr => ?_, fun hr => ?_⟩, fun r hr => ?_, fun r hr => ?_, fun q hq => ?_⟩
    · simp only [setRoot]
      split
      · rfl
      · rename_i hne
        rcases List.mem_cons.1 hr with rfl | hr
        · exact absurd rfl hne
        · exact (hpb.mix r).1 hr
    · simp only [List.mem_cons, not_or] at hr
      simp only [setRoot, hr.1, if_false]
      exact (hpb.mix r).2 hr.2
    · simp only [List.mem_cons, not_or] at hr
      simp only [setRoot, hr.1, if_false]
      exact hpb.off r hr.2
    · simp only [Option.some.injEq] at hr; subst hr; simp
    · obtain ⟨s, t, h1, h2⟩ := hdd q hq
      exact ⟨s, t, h1, List.mem_cons_of_mem _ h2⟩
  · simp only [hown, Bool.false_eq_true, if_false]
    exact ⟨rfl, rfl, rfl, rfl, rfl, hpb.mix, hpb.off, fun r hr => by simp at hr, hdd⟩

theorem opW_loc (hE : opW P st root op (· = E)) (ha : AgrS st st' op root) : ∃ E', opW P st' root op (· = E') ∧ LocE st st' E E' := by
  obtain ⟨ht, hH, hr, ho⟩ := ha
  cases op with
  | mv x =>
    have e1 := ev_loc (x := x) (st := st) (st' := st') (fun k hk => ht k (by simpa [opTm] using hk))
    simp only [opW] at hE
    exact loc_val ⟨_, hE.symm, by simp only [opW, e1]⟩
  | pick c a b =>
    have e1 := ev_loc (x := c) (st := st) (st' := st') (fun k hk => ht k (by simp [opTm, hk]))
    have e2 := ev_loc (x := a) (st := st) (st' := st') (fun k hk => ht k (by simp [opTm, hk]))
    have e3 := ev_loc (x := b) (st := st) (st' := st') (fun k hk => ht k (by simp [opTm, hk]))
    simp only [opW] at hE
    split at hE
    case h_2 => exact hE.elim
    rename_i x hx
    exact loc_val ⟨_, hE.symm, by simp only [opW, e1, e2, e3, hx]⟩
  | box n x =>
    have e1 := ev_loc (x := x) (st := st) (st' := st') (fun k hk => ht k (by simpa [opTm] using hk))
    have hH : Agree (rootsT (x.ev st)) st.H st'.H := hH.mono fun r hr => by simp [opT, rootsL, hr]
    simp only [opW] at hE
    split at hE
    case h_2 => exact hE.elim
    rename_i us H1 ds htk
    obtain ⟨h1, h2, h3, rfl⟩ := hE
    obtain ⟨H1', g1, g2, g3⟩ := takeL_loc htk (hH.mono fun r hr => rootsL_cells hr)
    have hn : (cellsT (x.ev st)).map (norgOf st') = (cellsT (x.ev st)).map (norgOf st) := by
      refine List.map_congr_left fun c hc => ?_
      have hcr : ∀ r ∈ rootsT c, r ∈ rootsT (x.ev st) := fun r hr => rootsL_cells (rootsL_mem.2 ⟨c, hc, hr⟩)
      exact norgOf_loc (hH.mono hcr) fun s t hs => ho s t (by simp [opT, rootsL, hcr _ hs])
    refine ⟨_, by simp only [opW, e1, g1]; exact ⟨h1, hr.trans h2, h3, rfl⟩, ?_⟩
    rw [hn]
    exact loc_fresh g2
  | build zero ps =>
    have e1 : (ps.map fun x => (x.1, x.2.1, x.2.2.ev st')) = ps.map fun x => (x.1, x.2.1, x.2.2.ev st) :=
      List.map_congr_left fun p hp => by rw [ev_loc (x := p.2.2) (st := st) (st' := st') fun k hk => ht k (by simp only [opTm, List.mem_flatMap]; exact ⟨p, hp, hk⟩)]
    simp only [opW] at hE
    split at hE
    case h_2 => exact hE.elim
    rename_i cs hcs
    exact loc_val ⟨_, hE.symm, by simp only [opW, e1, hcs]⟩
  | bslice z len zero ps =>
    have e1 : (ps.map fun x => (x.1, x.2.ev st')) = ps.map fun x => (x.1, x.2.ev st) :=
      List.map_congr_left fun p hp => by rw [ev_loc (x := p.2) (st := st) (st' := st') fun k hk => ht k (by simp only [opTm, List.mem_flatMap]; exact ⟨p, hp, hk⟩)]
    simp only [opW] at hE
    split at hE
    case h_2 => exact hE.elim
    rename_i es hes
    split at hE
    case h_2 => exact hE.elim
    rename_i us H1 ds htk
    obtain ⟨h1, h2, h3, rfl⟩ := hE
    have hsub : ∀ r ∈ rootsL es.flatten, r ∈ rootsL (opT st (.bslice z len zero ps)) := by
      have key : ∀ (qs : List (Nat × TV)) (es es' : List (List TV)), putElems z es qs = some es' → ∀ r ∈ rootsL es'.flatten, r ∈ rootsL es.flatten ∨ r ∈ rootsL (qs.map (·.2)) := by
        intro qs
        induction qs with
        | nil => intro es es' h r hr; simp only [putElems, Option.some.injEq] at h; subst h; exact .inl hr
        | cons q qs ih =>
          intro es es' h r hr
          obtain ⟨i, u⟩ := q
          simp only [putElems] at h
          split at h
          case isFalse => cases h
          rcases ih _ _ h r hr with h1 | h1
          · obtain ⟨c, hc1, hc2⟩ := rootsL_mem.1 h1
            obtain ⟨e, he1, he2⟩ := List.mem_flatten.1 hc1
            rcases List.mem_or_eq_of_mem_set he1 with he | rfl
            · exact .inl (rootsL_mem.2 ⟨c, List.mem_flatten.2 ⟨e, he, he2⟩, hc2⟩)
            · exact .inr (by simp [rootsL, rootsL_cells (rootsL_mem.2 ⟨c, he2, hc2⟩)])
          · exact .inr (by simp [rootsL, h1])
      intro r hr
      simp only [opT, rootsL_app, List.mem_append]
      rcases key _ _ _ hes r hr with h | h
      · obtain ⟨c, hc1, hc2⟩ := rootsL_mem.1 h
        obtain ⟨e, he1, he2⟩ := List.mem_flatten.1 hc1
        rw [List.eq_of_mem_replicate he1] at he2
        exact .inl (rootsL_mem.2 ⟨c, he2, hc2⟩)
      · refine .inr ?_
        simpa [List.map_map, Function.comp_def] using h
    obtain ⟨H1', g1, g2, g3⟩ := takeL_loc htk (hH.mono hsub)
    exact ⟨_, by simp only [opW, e1, hes, g1]; exact ⟨hr.trans h1, h2, h3, rfl⟩, loc_fresh g2⟩
  | load agg n a =>
    have e1 := ev_loc (x := a) (st := st) (st' := st') (fun k hk => ht k (by simpa [opTm] using hk))
    have hH : Agree (rootsT (a.ev st)) st.H st'.H := hH.mono fun r hr => by simp [opT, rootsL, hr]
    simp only [opW] at hE
    split at hE
    · rename_i p i f hx
      rw [hx] at hH
      have hro : rowAt st'.H p i = rowAt st.H p i := rowAt_loc hH
      split at hE
      case h_2 => exact hE.elim
      rename_i cs hcs
      obtain ⟨h1, hE⟩ := hE
      cases agg with
      | true => exact loc_val ⟨_, hE.symm, by simp only [opW, e1, hx, hro, hcs]; refine ⟨h1, ?_⟩; first | trivial | rfl | simp⟩
      | false => exact loc_val ⟨_, hE.2.symm, by simp only [opW, e1, hx, hro, hcs]; refine ⟨h1, hE.1, ?_⟩; first | trivial | rfl | simp⟩
    · rename_i cs hx
      obtain ⟨h1, hE⟩ := hE
      cases agg with
      | true => exact loc_val ⟨_, hE.symm, by simp only [opW, e1, hx]; refine ⟨h1, ?_⟩; first | trivial | rfl | simp⟩
      | false => exact loc_val ⟨_, hE.2.symm, by simp only [opW, e1, hx]; refine ⟨h1, hE.1, ?_⟩; first | trivial | rfl | simp⟩
    · exact hE.elim
  | store n a x =>
    have e1 := ev_loc (x := a) (st := st) (st' := st') (fun k hk => ht k (by simp [opTm, hk]))
    have e2 := ev_loc (x := x) (st := st) (st' := st') (fun k hk => ht k (by simp [opTm, hk]))
    simp only [opW] at hE
    split at hE
    case h_2 => exact hE.elim
    rename_i p i f hx
    split at hE
    case h_2 => exact hE.elim
    rename_i us H1 ds htk
    obtain ⟨h1, h2, rfl⟩ := hE
    obtain ⟨H1', g1, g2, g3⟩ := takeL_loc htk (hH.mono fun r hr => by simp [opT, rootsL, rootsL_cells hr])
    have hap : Agree (pr p) st.H st'.H := hH.mono fun r hr => by
      have : r ∈ rootsT (a.ev st) := by rw [hx]; exact hr
      simp [opT, rootsL, this]
    have hap1 := g2.agree hap
    have hro : rowAt H1' p i = rowAt H1 p i := rowAt_loc hap1
    have hp0 : p ≠ [] := by
      rintro rfl
      simp [rowAt, cellAt] at h2
    obtain ⟨s, t, rfl⟩ : ∃ s t, p = s :: t := by cases p with
      | nil => exact absurd rfl hp0
      | cons s t => exact ⟨s, t, rfl⟩
    refine ⟨_, by simp only [opW, e1, e2, hx, g1, hro]; exact ⟨h1, h2, rfl⟩, ?_⟩
    have hmod : ∀ (us : List TV) (f : Nat) (G : Hp) (r : Nat), r ≠ s.1 → putL (s :: t) i f us G r = G r := by
      intro us
      induction us with
      | nil => intro f G r _; rfl
      | cons u us ih =>
        intro f G r hr
        simp only [putL]
        rw [ih _ _ _ hr]
        exact modH_off (by simp [hr])
    have hsame : ∀ (us : List TV) (f : Nat) (G G' : Hp), G' s.1 = G s.1 → putL (s :: t) i f us G' s.1 = putL (s :: t) i f us G s.1 := by
      intro us
      induction us with
      | nil => intro f G G' h; exact h
      | cons u us ih =>
        intro f G G' h
        simp only [putL]
        refine ih _ _ _ ?_
        simp [modH, h]
    refine ⟨rfl, rfl, rfl, rfl, rfl, fun r => ⟨fun hr' => ?_, fun hr' => ?_⟩, fun r hr' => ?_, fun r hr' => by simp at hr', fun q hq => ?_⟩
    · by_cases hs : r = s.1
      · subst hs; exact hsame us f H1 H1' (hap1 _ (by simp))
      · refine (hmod us f H1' r hs).trans (Eq.trans ?_ (hmod us f H1 r hs).symm)
        simp only [List.head?_cons, Option.map_some, Option.toList_some, List.singleton_append, List.mem_cons] at hr'
        rcases hr' with hr' | hr'
        · exact absurd hr' hs
        · exact (g2.mix r).1 hr'
    · simp only [List.head?_cons, Option.map_some, Option.toList_some, List.singleton_append, List.mem_cons, not_or] at hr'
      exact (hmod us f H1' r hr'.1).trans ((g2.mix r).2 hr'.2)
    · simp only [List.head?_cons, Option.map_some, Option.toList_some, List.singleton_append, List.mem_cons, not_or] at hr'
      exact (hmod us f H1 r hr'.1).trans (g2.off r hr'.2)
    · simp only [deadB, Bool.or_eq_true] at hq
      rcases hq with hq | hq
      · obtain ⟨p', h3, h4⟩ := List.any_eq_true.1 hq
        have hp' := List.isPrefixOf_iff_prefix.1 h4
        cases p' with
        | nil => exact absurd rfl (g2.ne _ h3)
        | cons s' t' =>
          obtain ⟨r, rfl⟩ := hp'
          exact ⟨s', t' ++ r, rfl, List.mem_append_right _ (List.mem_filterMap.2 ⟨_, h3, rfl⟩)⟩
      · obtain ⟨p', h3, h4⟩ := List.any_eq_true.1 hq
        have hp' := List.isPrefixOf_iff_prefix.1 h4
        obtain ⟨j, _, rfl⟩ := List.mem_map.1 h3
        obtain ⟨r, rfl⟩ := hp'
        exact ⟨s, _, rfl, by simp⟩
  | nilck x =>
    have e1 := ev_loc (x := x) (st := st) (st' := st') (fun k hk => ht k (by simpa [opTm] using hk))
    simp only [opW] at hE
    split at hE <;> first
      | exact hE.elim
      | (rename_i hx; exact loc_val ⟨_, hE.symm, by simp only [opW, e1, hx]⟩)
  | bin o x y =>
    have e1 := ev_loc (x := x) (st := st) (st' := st') (fun k hk => ht k (by simp [opTm, hk]))
    have e2 := ev_loc (x := y) (st := st) (st' := st') (fun k hk => ht k (by simp [opTm, hk]))
    simp only [opW] at hE
    obtain ⟨v, h1, h2⟩ := binT_one hE
    refine loc_val ⟨v, h2.symm, ?_⟩
    simp only [opW, e1, e2]
    revert h1
    generalize x.ev st = a; generalize y.ev st = b
    intro h1
    unfold binT at h1 ⊢
    split at h1
    · cases o <;> simp only at h1 ⊢ <;> first
        | exact ⟨h1.1, h1.2.1, by rw [h1.2.2]⟩
        | exact ⟨h1.1, by rw [h1.2]⟩
    · cases o <;> simp only at h1 ⊢ <;> first
        | exact ⟨h1.1, by rw [h1.2]⟩
        | (rw [h1])
        | exact h1.elim
    · cases o <;> simp only at h1 ⊢ <;> first
        | (rw [h1])
        | exact h1.elim
    · exact h1.elim
  | eqs neg agg ks x y =>
    have e1 := ev_loc (x := x) (st := st) (st' := st') (fun k hk => ht k (by simp [opTm, hk]))
    have e2 := ev_loc (x := y) (st := st) (st' := st') (fun k hk => ht k (by simp [opTm, hk]))
    simp only [opW] at hE
    split at hE
    case h_2 => exact hE.elim
    rename_i r hx
    exact loc_val ⟨_, hE.2.2.symm, by simp only [opW, e1, e2, hx]; refine ⟨hE.1, hE.2.1, ?_⟩; first | trivial | rfl | simp⟩
  | eqp neg x y =>
    have e1 := ev_loc (x := x) (st := st) (st' := st') (fun k hk => ht k (by simp [opTm, hk]))
    have e2 := ev_loc (x := y) (st := st) (st' := st') (fun k hk => ht k (by simp [opTm, hk]))
    simp only [opW] at hE
    split at hE <;> first
      | exact hE.elim
      | (rename_i hx hy; exact loc_val ⟨_, hE.symm, by simp only [opW, e1, e2, hx, hy]⟩)
  | un o x =>
    have e1 := ev_loc (x := x) (st := st) (st' := st') (fun k hk => ht k (by simpa [opTm] using hk))
    simp only [opW] at hE
    split at hE <;> first
      | exact hE.elim
      | (rename_i hx; exact loc_val ⟨_, hE.symm, by simp only [opW, e1, hx]⟩)
  | toInt k x =>
    have e1 := ev_loc (x := x) (st := st) (st' := st') (fun k hk => ht k (by simpa [opTm] using hk))
    simp only [opW] at hE
    split at hE
    · rename_i hx; exact loc_val ⟨_, hE.symm, by simp only [opW, e1, hx]⟩
    · rename_i hx
      split at hE
      case h_2 => exact hE.elim
      rename_i n hn
      exact loc_val ⟨_, hE.2.2.symm, by simp only [opW, e1, hx, hn]; refine ⟨hE.1, hE.2.1, ?_⟩; first | trivial | rfl | simp⟩
    · exact hE.elim
  | toF x =>
    have e1 := ev_loc (x := x) (st := st) (st' := st') (fun k hk => ht k (by simpa [opTm] using hk))
    simp only [opW] at hE
    split at hE <;> first
      | exact hE.elim
      | (rename_i hx; exact loc_val ⟨_, hE.symm, by simp only [opW, e1, hx]⟩)
  | toS x =>
    have e1 := ev_loc (x := x) (st := st) (st' := st') (fun k hk => ht k (by simpa [opTm] using hk))
    have hH : Agree (rootsT (x.ev st)) st.H st'.H := hH.mono fun r hr => by simp [opT, rootsL, hr]
    have e2 : elemsOf st'.H (x.ev st) = elemsOf st.H (x.ev st) := by
      generalize x.ev st = u at hH
      unfold elemsOf
      split
      · rfl
      · rfl
      · rw [cellAt_loc (by exact hH)]
      · rfl
    simp only [opW] at hE
    split at hE
    case h_2 => exact hE.elim
    rename_i bs hb
    exact loc_val ⟨_, hE.symm, by simp only [opW, e1, e2, hb]⟩
  | mkfn g caps =>
    have e1 : (caps.map (·.ev st')) = caps.map (·.ev st) :=
      List.map_congr_left fun p hp => ev_loc (x := p) (st := st) (st' := st') fun k hk => ht k (by simp only [opTm, List.mem_flatMap]; exact ⟨p, hp, hk⟩)
    simp only [opW] at hE
    exact loc_val ⟨_, hE.symm, by simp only [opW, e1]⟩
  | mkslice z by_ zero l c =>
    have e1 := ev_loc (x := l) (st := st) (st' := st') (fun k hk => ht k (by simp [opTm, hk]))
    have e2 := ev_loc (x := c) (st := st) (st' := st') (fun k hk => ht k (by simp [opTm, hk]))
    simp only [opW] at hE
    split at hE
    case h_2 => exact hE.elim
    rename_i n n2 hx hy
    obtain ⟨q1, q2, q3, q4, q5, q6, q7, rfl⟩ := hE
    refine ⟨_, by simp only [opW, e1, e2, hx, hy]; exact ⟨q1, q2, q3, hr.trans q4, q5, q6, q7, rfl⟩, ?_⟩
    have := loc_fresh (st := st) (st' := st') (root := root) (v := .rf [(root, 0)] 0 n.toNat) (cells := [.sl true z (List.replicate n.toNat zero)]) (norg := []) (TakeLoc.refl (H := st.H) (H' := st'.H))
    simpa using this
  | slice str z x lo hi =>
    have e1 := ev_loc (x := x) (st := st) (st' := st') (fun k hk => ht k (by simp [opTm, hk]))
    have hlo : ∀ k ∈ tmsO lo, st'.t k = st.t k := fun k hk => ht k (by simp [opTm, hk])
    have hhi : ∀ k ∈ tmsO hi, st'.t k = st.t k := fun k hk => ht k (by simp [opTm, hk])
    have hHx : ∀ p off len, x.ev st = .rf p off len → Agree (pr p) st.H st'.H := fun p off len hx => hH.mono fun r hr => List.mem_append_left _ (by rw [hx]; exact hr)
    cases str with
    | true =>
      simp only [opW] at hE
      split at hE
      case h_2 => exact hE.elim
      rename_i s hx
      obtain ⟨l, _, hE, hl⟩ := optB_one hE
      obtain ⟨h, _, hE, hh⟩ := optB_one hE
      refine loc_val ⟨_, hE.2.2.2.symm, ?_⟩
      simp only [opW, e1, hx]
      rw [optB_loc hlo]
      refine hl _ ?_
      rw [optB_loc hhi]
      exact hh _ ⟨hE.1, hE.2.1, hE.2.2.1, rfl⟩
    | false =>
      simp only [opW] at hE
      split at hE
      · rename_i hx
        obtain ⟨hz, hE⟩ := hE
        obtain ⟨l, _, hE, hl⟩ := optB_one hE
        obtain ⟨h, _, hE, hh⟩ := optB_one hE
        refine loc_val ⟨_, hE.2.2.2.symm, ?_⟩
        simp only [opW, e1, hx]
        refine ⟨hz, ?_⟩
        rw [optB_loc hlo]
        refine hl _ ?_
        rw [optB_loc hhi]
        exact hh _ ⟨hE.1, hE.2.1, hE.2.2.1, rfl⟩
      · rename_i hx
        obtain ⟨l, _, hE, hl⟩ := optB_one hE
        obtain ⟨h, _, hE, hh⟩ := optB_one hE
        refine loc_val ⟨_, hE.2.2.symm, ?_⟩
        simp only [opW, e1, hx]
        rw [optB_loc hlo]
        refine hl _ ?_
        rw [optB_loc hhi]
        exact hh _ ⟨hE.1, hE.2.1, (by first | trivial | rfl)⟩
      · rename_i hx
        obtain ⟨hz, hE⟩ := hE
        obtain ⟨l, _, hE, hl⟩ := optB_one hE
        obtain ⟨h, _, hE, hh⟩ := optB_one hE
        refine loc_val ⟨_, hE.2.2.2.symm, ?_⟩
        simp only [opW, e1, hx]
        refine ⟨by rw [shapeAt_loc (by exact hHx _ _ _ hx)]; exact hz, ?_⟩
        rw [optB_loc hlo]
        refine hl _ ?_
        rw [optB_loc hhi]
        exact hh _ ⟨hE.1, hE.2.1, hE.2.2.1, rfl⟩
      · exact hE.elim
  | faddr off n x =>
    have e1 := ev_loc (x := x) (st := st) (st' := st') (fun k hk => ht k (by simpa [opTm] using hk))
    have hH : Agree (rootsT (x.ev st)) st.H st'.H := hH.mono fun r hr => by simp [opT, rootsL, hr]
    simp only [opW] at hE
    split at hE
    · rename_i p i f hx
      rw [hx] at hH
      have hro : rowAt st'.H p i = rowAt st.H p i := rowAt_loc hH
      split at hE
      case h_2 => exact hE.elim
      rename_i cs hcs
      exact loc_val ⟨_, hE.2.symm, by simp only [opW, e1, hx, hro, hcs]; refine ⟨hE.1, ?_⟩; first | trivial | rfl | simp⟩
    · rename_i hx
      exact loc_val ⟨_, hE.2.symm, by simp only [opW, e1, hx]; refine ⟨hE.1, ?_⟩; first | trivial | rfl | simp⟩
    · exact hE.elim
  | fld agg off n x =>
    have e1 := ev_loc (x := x) (st := st) (st' := st') (fun k hk => ht k (by simpa [opTm] using hk))
    simp only [opW] at hE
    split at hE
    case h_2 => exact hE.elim
    rename_i cs hx
    obtain ⟨h1, hE⟩ := hE
    cases agg with
    | true => exact loc_val ⟨_, hE.symm, by simp only [opW, e1, hx]; refine ⟨h1, ?_⟩; first | trivial | rfl | simp⟩
    | false => exact loc_val ⟨_, hE.2.symm, by simp only [opW, e1, hx]; refine ⟨h1, hE.1, ?_⟩; first | trivial | rfl | simp⟩
  | iaddr z x i =>
    have e1 := ev_loc (x := x) (st := st) (st' := st') (fun k hk => ht k (by simp [opTm, hk]))
    have e2 := ev_loc (x := i) (st := st) (st' := st') (fun k hk => ht k (by simp [opTm, hk]))
    have hH : Agree (rootsT (x.ev st)) st.H st'.H := hH.mono fun r hr => by simp [opT, rootsL, hr]
    simp only [opW] at hE
    split at hE
    · rename_i hx hy
      split at hE
      case h_2 => exact hE.elim
      rename_i e he
      exact loc_val ⟨_, hE.2.symm, by simp only [opW, e1, e2, hx, hy, he]; refine ⟨hE.1, ?_⟩; first | trivial | rfl | simp⟩
    · rename_i hx hy
      rw [hx] at hH
      exact loc_val ⟨_, hE.2.2.2.symm, by simp only [opW, e1, e2, hx, hy]; refine ⟨hE.1, hE.2.1, by rw [shapeAt_loc (by exact hH)]; exact hE.2.2.1, ?_⟩; first | trivial | rfl | simp⟩
    · exact hE.elim
  | ix x i =>
    have e1 := ev_loc (x := x) (st := st) (st' := st') (fun k hk => ht k (by simp [opTm, hk]))
    have e2 := ev_loc (x := i) (st := st) (st' := st') (fun k hk => ht k (by simp [opTm, hk]))
    simp only [opW] at hE
    split at hE
    case h_2 => exact hE.elim
    rename_i hx hy
    split at hE
    case h_2 => exact hE.elim
    rename_i b hb
    exact loc_val ⟨_, hE.symm, by simp only [opW, e1, e2, hx, hy, hb]⟩
  | ext k x =>
    simp only [opW] at hE
    split at hE
    case h_2 => exact hE.elim
    rename_i vs hx
    split at hE
    case h_2 => exact hE.elim
    rename_i v hv
    obtain ⟨vs', hx', hv'⟩ := ht.2 vs hx
    exact loc_val ⟨_, hE.symm, by simp only [opW, hx', hv', hv]⟩
  | len str x =>
    have e1 := ev_loc (x := x) (st := st) (st' := st') (fun k hk => ht k (by simpa [opTm] using hk))
    simp only [opW] at hE
    split at hE
    case h_2 => exact hE.elim
    rename_i n hx
    exact loc_val ⟨_, hE.symm, by simp only [opW, e1, hx]⟩
  | maxi x y =>
    have e1 := ev_loc (x := x) (st := st) (st' := st') (fun k hk => ht k (by simp [opTm, hk]))
    have e2 := ev_loc (x := y) (st := st) (st' := st') (fun k hk => ht k (by simp [opTm, hk]))
    simp only [opW] at hE
    split at hE
    case h_2 => exact hE.elim
    rename_i hx hy
    exact loc_val ⟨_, hE.symm, by simp only [opW, e1, e2, hx, hy]⟩
  | app z by_ s x =>
    have e1 := ev_loc (x := s) (st := st) (st' := st') (fun k hk => ht k (by simp [opTm, hk]))
    have e2 := ev_loc (x := x) (st := st) (st' := st') (fun k hk => ht k (by simp [opTm, hk]))
    simp only [opW] at hE
    split at hE
    case h_2 => exact hE.elim
    rename_i z2 es2 H1 d1 hsrc
    split at hE
    case h_2 => exact hE.elim
    rename_i z' es H2 d2 htk
    obtain ⟨h1, h2, h3, h4, h5, rfl⟩ := hE
    obtain ⟨H1', g1, g2, g3⟩ := srcT_loc hsrc (hH.mono fun r hr => by simp [opT, rootsL, hr])
    obtain ⟨H2', g4, g5, g6⟩ := take1_loc htk (g2.agree (hH.mono fun r hr => by simp [opT, rootsL, hr]))
    have g7 := g2.trans g5
    have h3' : freeR H2' root = true := by
      unfold freeR at h3 ⊢
      by_cases hin : root ∈ prs (d1 ++ d2)
      · rw [(g7.mix root).1 hin]; exact h3
      · rw [(g7.mix root).2 hin, hr, ← g7.off root hin]; exact h3
    exact ⟨_, by simp only [opW, e1, e2, g1, g4]; exact ⟨h1, h2, h3', h4, h5, rfl⟩, loc_fresh g7⟩
  | call g args =>
    have e1 : (args.map fun x => (x.1.ev st', x.2)) = args.map fun x => (x.1.ev st, x.2) :=
      List.map_congr_left fun p hp => by rw [ev_loc (x := p.1) (st := st) (st' := st') fun k hk => ht k (by simp only [opTm, List.mem_flatMap]; exact ⟨p, hp, hk⟩)]
    simp only [opW] at hE
    obtain ⟨E', g1, g2⟩ := loc_call hE (by simpa [opT, List.map_map, Function.comp_def] using hH) hr
    exact ⟨E', by simp only [opW, e1]; exact g1, g2⟩
  | callv f args =>
    have e0 := ev_loc (x := f) (st := st) (st' := st') (fun k hk => ht k (by simp [opTm, hk]))
    have e1 : (args.map fun x => (x.1.ev st', x.2)) = args.map fun x => (x.1.ev st, x.2) :=
      List.map_congr_left fun p hp => by rw [ev_loc (x := p.1) (st := st) (st' := st') fun k hk => ht k (by simp only [opTm, List.mem_append, List.mem_flatMap]; exact .inr ⟨p, hp, hk⟩)]
    simp only [opW] at hE
    split at hE
    case h_2 => exact hE.elim
    rename_i g caps hx
    obtain ⟨hg, hE⟩ := hE
    obtain ⟨E', g1, g2⟩ := loc_call hE (by
      refine hH.mono fun r hr => ?_
      simp only [List.map_append, List.map_map, Function.comp_def, rootsL_app, List.mem_append] at hr
      simp only [opT, rootsL, List.mem_append]
      rcases hr with hr | hr
      · exact .inr hr
      · left
        rw [hx]
        simpa [rootsT] using hr) hr
    exact ⟨E', by simp only [opW, e0, e1, hx]; exact ⟨hg, g1⟩, g2⟩
end
end Go.Proofs.YtloodkhdngipbaaT
