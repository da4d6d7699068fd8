/- TM, part T: a call, joined. -/
import Derived.Test.YtloodkhdngipbaaTmS
namespace Go.Proofs.YtloodkhdngipbaaT
set_option linter.unusedVariables false
set_option linter.unusedSimpArgs false
open Go

section
variable {P : Program} {F : Fr} {st : St} {w w' w0 : World} {S0 : Nat → Nat → Prop} {κ κ' κ1 : Path → Value} {γ γ' γ1 : Nat → Nat → Option Path} {H H' H1 : Hp} {A A' K : Nat → Nat → Prop} {L : List TV} {o : Oper} {E : Eff} {root : Nat}

theorem takeArgs_nil : ∀ {ms : List Mode} {as : List (TV × Nat)} {H H1 : Hp} {tk : List TV} {ds : List Path} {ps : List (Option Path)} {r : Nat}, takeArgs H ms as = some (tk, H1, ds, ps) → H r = [] → H1 r = []
  | [], [], H, H1, tk, ds, ps, r, ht, h => by
    simp only [takeArgs, Option.some.injEq, Prod.mk.injEq] at ht
    obtain ⟨_, rfl, _⟩ := ht; exact h
  | .ro :: ms, (u, n) :: as, H, H1, tk, ds, ps, r, ht, h => by
    simp only [takeArgs, Option.bind_eq_some_iff, Option.some.injEq, Prod.mk.injEq] at ht
    obtain ⟨⟨tk', H2, ds', ps'⟩, h1, _, rfl, _, _⟩ := ht
    exact takeArgs_nil h1 h
  | .own :: ms, (u, n) :: as, H, H1, tk, ds, ps, r, ht, h => by
    simp only [takeArgs, Option.bind_eq_some_iff, Option.some.injEq, Prod.mk.injEq] at ht
    obtain ⟨⟨us, H2, d2⟩, ht1, ⟨tk', H3, ds', ps'⟩, ht2, _, rfl, _, _⟩ := ht
    exact takeArgs_nil ht2 (takeL_nil ht1 h)
  | [], _ :: _, _, _, _, _, _, _, ht, _ => by simp [takeArgs] at ht
  | m :: _, [], _, _, _, _, _, _, ht, _ => by cases m <;> simp [takeArgs] at ht

theorem TR.monoA {p : Path} {u : TV} {v : Value} (h : TR w κ γ A p u v) (hA : ∀ b o, A b o → A' b o) : TR w κ γ A' p u v :=
  h.ren (K := fun _ _ => True) _ (fun _ _ _ _ => ⟨rfl, fun _ _ hb => ⟨hb, trivial⟩⟩) (Keep.refl _ w) (fun _ _ _ => trivial) hA

/-- A cell that has come back. -/
def lbOf : List (Option Path) → List TV → List TV
  | some _ :: bs, u :: us => u :: lbOf bs us
  | none :: bs, _ :: us => .junk :: lbOf bs us
  | _, _ => []

theorem lbOf_at : ∀ (bs : List (Option Path)) (us : List TV) (m : Nat) (c : TV), (lbOf bs us)[m]? = some c → c = .junk ∨ ∃ p, bs[m]? = some (some p) ∧ us[m]? = some c
  | [], us, m, c, h => by simp [lbOf] at h
  | none :: bs, [], m, c, h => by simp [lbOf] at h
  | some p :: bs, [], m, c, h => by simp [lbOf] at h
  | none :: bs, u :: us, m, c, h => by
    cases m with
    | zero => simp [lbOf] at h; exact .inl h.symm
    | succ m => simpa using lbOf_at bs us m c (by simpa [lbOf] using h)
  | some p :: bs, u :: us, m, c, h => by
    cases m with
    | zero => simp [lbOf] at h; subst h; exact .inr ⟨p, rfl, rfl⟩
    | succ m => simpa using lbOf_at bs us m c (by simpa [lbOf] using h)

theorem lbOf_get : ∀ (bs : List (Option Path)) (us : List TV) (m : Nat) (p : Path) (u : TV), bs[m]? = some (some p) → us[m]? = some u → (lbOf bs us)[m]? = some u
  | [], us, m, p, u, h, _ => by simp at h
  | b :: bs, [], m, p, u, _, h => by simp at h
  | none :: bs, x :: us, m, p, u, h, hu => by
    cases m with
    | zero => simp at h
    | succ m => simpa [lbOf] using lbOf_get bs us m p u (by simpa using h) (by simpa using hu)
  | some q :: bs, x :: us, m, p, u, h, hu => by
    cases m with
    | zero => simpa [lbOf] using hu
    | succ m => simpa [lbOf] using lbOf_get bs us m p u (by simpa using h) (by simpa using hu)

/-- The results of a call, as references. -/
theorem refTu_rv (r : Nat) : ∀ (res : List TV) (rs : List Value) (k : Nat), res.length = rs.length → (∀ (j : Nat) (u : TV) (v : Value), res[j]? = some u → rs[j]? = some v → isAg u = isAgV v ∧ (cellsT u).length = (cellsV v).length) →
    (∀ (m : Nat) (c : TV) (y : Value), (res.flatMap cellsT)[m]? = some c → (rs.flatMap cellsV)[m]? = some y → RV w κ H A (toRef [(r, k + m)] c) y) →
    (refTu r k res).length = rs.length ∧ ∀ (j : Nat) (u : TV) (v : Value), (refTu r k res)[j]? = some u → rs[j]? = some v → RV w κ H A u v
  | [], [], k, _, _, _ => by simp [refTu]
  | u :: res, v :: rs, k, hl, hag, hc => by
    obtain ⟨a1, a2⟩ := hag 0 u v rfl rfl
    have tail := refTu_rv r res rs (k + (cellsT u).length) (by simpa using hl) (fun j u v h1 h2 => hag (j + 1) u v (by simpa using h1) (by simpa using h2)) (fun m c y h1 h2 => by
      have := hc ((cellsT u).length + m) c y (by rw [List.flatMap_cons, List.getElem?_append_right (by omega)]; simpa using h1) (by rw [List.flatMap_cons, a2, List.getElem?_append_right (by omega)]; simpa using h2)
      rwa [Nat.add_assoc])
    have head : ∀ (m : Nat) (c : TV) (y : Value), (cellsT u)[m]? = some c → (cellsV v)[m]? = some y → RV w κ H A (toRef [(r, k + m)] c) y := fun m c y h1 h2 =>
      hc m c y (by rw [List.flatMap_cons, List.getElem?_append_left (List.getElem?_eq_some_iff.1 h1).1]; exact h1) (by rw [List.flatMap_cons, List.getElem?_append_left (List.getElem?_eq_some_iff.1 h2).1]; exact h2)
    cases hg : isAg u with
    | true =>
      obtain ⟨cs, rfl⟩ : ∃ cs, u = .ag cs := by cases u <;> first | exact ⟨_, rfl⟩ | cases hg
      rw [hg] at a1
      obtain ⟨vs, rfl⟩ : ∃ cs, v = .agg cs := by cases v <;> first | exact ⟨_, rfl⟩ | cases a1
      have e : refTu r k (.ag cs :: res) = .ag (refsFrom [] r k cs) :: refTu r (k + (cellsT (.ag cs)).length) res := rfl
      rw [e]
      refine ⟨by simp [tail.1], fun j x y hx hy => ?_⟩
      cases j with
      | succ j => exact tail.2 j x y (by simpa using hx) (by simpa using hy)
      | zero =>
        simp at hx hy; subst hx; subst hy
        have hlen : cs.length = vs.size := by simpa [cellsT, cellsV] using a2
        refine .ag _ _ (by rw [refsFrom_len]; exact hlen) fun m c hc' => ?_
        rw [refsFrom_get] at hc'
        cases hk : cs[m]? with
        | none => simp [hk] at hc'
        | some c0 =>
          simp only [hk, Option.map_some, Option.some.injEq] at hc'
          subst hc'
          have hlt := (List.getElem?_eq_some_iff.1 hk).1
          have hlt2 : m < vs.size := by omega
          have := head m c0 vs[m] hk (by simp [cellsV, hlt2])
          simpa [hlt2] using this
    | false =>
      obtain ⟨q1, q2⟩ := isAg_cells a1 hg
      have e : refTu r k (u :: res) = toRef [(r, k)] u :: refTu r (k + (cellsT u).length) res := by rw [q1]; cases u <;> first | rfl | cases hg
      rw [e]
      refine ⟨by simp [tail.1], fun j x y hx hy => ?_⟩
      cases j with
      | succ j => exact tail.2 j x y (by simpa using hx) (by simpa using hy)
      | zero =>
        simp at hx hy; subst hx; subst hy
        exact head 0 u v (by rw [q1]; rfl) (by rw [q2]; rfl)
  | [], _ :: _, _, hl, _, _ => by simp at hl
  | _ :: _, [], _, hl, _, _ => by simp at hl

theorem resT_rv {us : List TV} {rs : List Value} (hl : us.length = rs.length) (h : ∀ (j : Nat) (u : TV) (v : Value), us[j]? = some u → rs[j]? = some v → RV w κ H A u v) : RV w κ H A (resT us) (resV rs) := by
  match us, rs, hl with
  | [u], [v], _ => exact h 0 u v rfl rfl
  | [], [], _ => exact .tu [] #[] rfl (by simp)
  | u :: u' :: us, v :: v' :: rs, hl =>
    refine .tu _ _ (by simpa using hl) fun j x hx => ?_
    have hlt := (List.getElem?_eq_some_iff.1 hx).1
    have hlt2 : j < (v :: v' :: rs).length := by rw [← hl]; exact hlt
    have := h j x (v :: v' :: rs)[j] hx (List.getElem?_eq_getElem hlt2)
    simpa [List.getElem?_eq_getElem hlt2] using this
  | [u], [], hl => simp at hl
  | [u], _ :: _ :: _, hl => simp at hl
  | [], _ :: _, hl => simp at hl
  | _ :: _ :: _, [], hl => simp at hl
  | _ :: _ :: _, [_], hl => simp at hl

theorem resCells_rv : ∀ (res : List TV) (rs : List Value), res.length = rs.length → (∀ (j : Nat) (u : TV) (v : Value), res[j]? = some u → rs[j]? = some v → isAg u = isAgV v ∧ (cellsT u).length = (cellsV v).length) →
    (∀ (m : Nat) (c : TV) (y : Value), (res.flatMap cellsT)[m]? = some c → (rs.flatMap cellsV)[m]? = some y → RV w κ H A c y) →
    ∀ (j : Nat) (u : TV) (v : Value), res[j]? = some u → rs[j]? = some v → RV w κ H A u v
  | [], [], _, _, _, j, u, v, h, _ => by simp at h
  | u :: res, v :: rs, hl, hag, hc, j, x, y, hx, hy => by
    obtain ⟨a1, a2⟩ := hag 0 u v rfl rfl
    cases j with
    | succ j =>
      refine resCells_rv res rs (by simpa using hl) (fun j u v h1 h2 => hag (j + 1) u v (by simpa using h1) (by simpa using h2)) (fun m c y h1 h2 => ?_) j x y (by simpa using hx) (by simpa using hy)
      exact hc ((cellsT u).length + m) c y (by rw [List.flatMap_cons, List.getElem?_append_right (by omega)]; simpa using h1) (by rw [List.flatMap_cons, a2, List.getElem?_append_right (by omega)]; simpa using h2)
    | zero =>
      simp at hx hy; subst hx; subst hy
      have head : ∀ (m : Nat) (c : TV) (y : Value), (cellsT u)[m]? = some c → (cellsV v)[m]? = some y → RV w κ H A c y := fun m c y h1 h2 =>
        hc m c y (by rw [List.flatMap_cons, List.getElem?_append_left (List.getElem?_eq_some_iff.1 h1).1]; exact h1) (by rw [List.flatMap_cons, List.getElem?_append_left (List.getElem?_eq_some_iff.1 h2).1]; exact h2)
      cases hg : isAg u with
      | true =>
        obtain ⟨cs, rfl⟩ : ∃ cs, u = .ag cs := by cases u <;> first | exact ⟨_, rfl⟩ | cases hg
        rw [hg] at a1
        obtain ⟨vs, rfl⟩ : ∃ cs, v = .agg cs := by cases v <;> first | exact ⟨_, rfl⟩ | cases a1
        have hlen : cs.length = vs.size := by simpa [cellsT, cellsV] using a2
        refine .ag _ _ hlen fun m c hc' => ?_
        have hlt := (List.getElem?_eq_some_iff.1 hc').1
        have hlt2 : m < vs.size := by omega
        have := head m c vs[m] hc' (by simp [cellsV, hlt2])
        simpa [hlt2] using this
      | false =>
        obtain ⟨q1, q2⟩ := isAg_cells a1 hg
        exact head 0 u v (by rw [q1]; rfl) (by rw [q2]; rfl)
  | [], _ :: _, hl, _, _, _, _, _, _, _ => by simp at hl
  | _ :: _, [], hl, _, _, _, _, _, _, _ => by simp at hl

theorem TR.pure_of {p : Path} {u : TV} {v : Value} (h : TR w κ γ A p u v) (hs : (shape u).isSome = false) : RR w A u v := by
  cases h with
  | pure p u v h => exact h
  | _ => cases hs

theorem callW_ok {a : Act} {as : List (TV × Nat)} {vs : List Value} {g : FuncId} {dst : Option Nat} (hR : Rel F st a w) (hd : ∀ d, dst = some d → d < F.N) (hl : as.length = vs.length)
    (hv : ∀ κ γ, HR F.w0 F.S0 F.A w κ γ st.H → (∀ k, RV w κ st.H F.A (st.t k) ((a.tmps[k]?).getD undef)) → ∀ (j : Nat) (u : TV) (n : Nat) (v : Value), as[j]? = some (u, n) → vs[j]? = some v → RV w κ st.H F.A u v)
    (hE : callW P st root g as (· = E)) : Calls P g vs.toArray w fun e w' => ∃ x, e = .returned x ∧ Rel F (st.put dst E) (a.put dst x) w' := by
  obtain ⟨κ, γ, h1, h2, h3, h4, h5, h6, h7⟩ := hR
  have hv := hv κ γ h1 h4
  obtain ⟨al, ms, args, res, outs, hc, hroot, hr2, tk, H1, ds, ps, ro, t1, t2, t3, t4, t5⟩ := hE
  have hH : HR F.w0 F.S0 F.A w κ γ (wr0 st.H []) := by rw [wr0_self h2]; exact h1
  obtain ⟨κ1, γ1, g1, g2, g3, g4, g5, g6, g7, g8⟩ := takeArgs_ok ms as vs [] st.H H1 κ γ tk ds ps hH h2 hl (fun j u n v q1 q2 => (hv j u n v q1 q2).cs) t1
  have src := takeArgs_src (HV := st.H) ms as vs st.H H1 tk ds ps hl hv t1
  simp only [List.nil_append, List.length_nil, Nat.zero_add] at g1 g2 g7
  obtain ⟨r1, r2, r3, r4, r5⟩ := roArgs_ok (κ' := κcall κ1) g2 h2 g1 ms as tk vs args ro hv t2
  have hA : ArgsR w (κcall κ1) (γcall γ1) (Acall F.A γ1 ro) ms args vs := args_rel g1 r1 (r2.trans hl) r3 r4
    (fun j u v q0 q1 q2 => g8 j u v q0 (by rw [← r5 j q0]; exact q1) q2) g7
  have hnil : ∀ (j : Nat) (v : Value), (as.map fun a => nilT a.1)[j]? = some true → vs[j]? = some v → v = .slice none 0 0 := by
    intro j v hj hvj
    rw [List.getElem?_map, Option.map_eq_some_iff] at hj
    obtain ⟨⟨u, n⟩, hu, hn⟩ := hj
    have hr := hv j u n v hu hvj
    simp only at hn
    obtain ⟨z, rfl⟩ : ∃ z, u = .sl true z [] := by
      unfold nilT at hn
      split at hn
      · exact ⟨_, rfl⟩
      · cases hn
    cases hr with
    | pure _ _ h => cases h
    | nil => rfl
  refine (hc w vs _ _ _ hnil hA ?_ ?_).mono ?_
  · intro b o q hb
    obtain ⟨m, r, q1, _⟩ := γcall_some hb
    exact (g1.own b o _ q1).1
  · rintro b o (ha | ⟨_, q, q1, q2⟩)
    · refine ⟨Nat.lt_of_lt_of_le (g1.old b o ha).1 g1.size_le, ?_⟩
      cases hg : γcall γ1 b o with
      | none => rfl
      | some q =>
        obtain ⟨m, r, q1, _⟩ := γcall_some hg
        exact absurd ha (g1.notA q1)
    · refine ⟨(g1.own b o _ q1).1, ?_⟩
      cases hg : γcall γ1 b o with
      | none => rfl
      | some q' =>
        obtain ⟨m, r, q3, _⟩ := γcall_some hg
        rw [q1] at q3; cases q3
        exact absurd rfl (q2 m r)
  · rintro e w' ⟨rs, κ', γ', rfl, hres, hout, hown', hchg⟩
    refine ⟨resV rs, rfl, ?_⟩
    have hA' : ∀ b o, (al = true ∧ Acall F.A γ1 ro b o) → F.A b o := by
      rintro b o ⟨ha, hac⟩
      rcases hac with hac | ⟨hro, _⟩
      · exact hac
      · rw [t3 ha] at hro; cases hro
    have H10 := g2.zero
    have H1root : H1 root = [] := takeArgs_nil t1 hroot
    obtain ⟨bl1, bl2⟩ := backOk_len ps outs t4
    have bat := backOk_at ps outs t4
    have bne := backOk_ne ps outs t4
    have hol : (outsT outs).length = outs.length := by simp [outsT]
    have bout : ∀ (j : Nat) (u : TV), outs[j]? = some (some u) → (outsT outs)[j]? = some u := by
      intro j u h; simp [outsT, h]
    generalize hbks : backsOf ps outs = bks at t5 bl2 bat bne
    generalize hous : outsT outs = us at t5 hol bout
    -- the places that are handed back
    have ne0 : ∀ p, (cellAt H1 p).isSome = true → p ≠ [] := by rintro p h rfl; cases h
    have n0 : ∀ p, (cellAt H1 p).isSome = true → ∀ j r, p ≠ (0, j) :: r := fun p h => by
      obtain ⟨x, hx⟩ := Option.isSome_iff_exists.1 h
      exact not0_of_live H10 hx
    have nr : ∀ p, (cellAt H1 p).isSome = true → ∀ j r, p ≠ (root, j) :: r := by
      rintro p h j r rfl
      simp [cellAt, H1root] at h
    have liveds : ∀ p q, p ∈ ds → (cellAt H1 p).isSome = true → (cellAt H1 q).isSome = true → p <+: q → p = q := by
      intro p q hp hpl hq hpq
      obtain ⟨t, rfl⟩ := hpq
      cases t with
      | nil => simp
      | cons s t =>
        exfalso
        rw [cellAt_append _ _ (ne0 p hpl)] at hq
        obtain ⟨x, hx⟩ := Option.isSome_iff_exists.1 hq
        simp only [Option.bind_eq_some_iff, down] at hx
        obtain ⟨nd, n1, y, n2, n3⟩ := hx
        refine g2.liv p ⟨nd, n1, ?_⟩ p hp (List.prefix_refl p)
        cases nd with
        | sl o z es => cases o <;> first | rfl | cases n2
        | po o cs => cases o <;> first | rfl | cases n2
        | _ => cases n2
    have binfo : ∀ (j : Nat) (p : Path), bks[j]? = some (some p) → p ∈ ds ∧ (cellAt H1 p).isSome = true ∧ ∃ u, us[j]? = some u ∧ shape u = shapeAt st.H p ∧ (shape u).isSome = true ∧ TR w' κ' γ' F.A [(1, j)] u (κ' [(1, j)]) ∧ κ' [(1, j)] = κ p := by
      intro j p hj
      obtain ⟨b1, b2, u, b3, b4⟩ := bat j p hj
      obtain ⟨s1, c, s2, s3⟩ := src j p b1
      have hlt : j < (ownVals ms vs).length := by have := (List.getElem?_eq_some_iff.1 b1).1; omega
      have hy := List.getElem?_eq_getElem hlt
      have hT := hout j u b3
      have e1 : κcall κ1 [(1, j)] = (ownVals ms vs)[j] := hA.val j _ hy
      rw [e1] at hT
      obtain ⟨k1, k2⟩ := rv_head (s3 _ hy) s2 hT b4
      have e2 := hT.val k1
      exact ⟨s1, b2, u, bout j u b3, b4, k1, by rw [e2]; exact hT.monoA hA', by rw [e2, k2]⟩
    have bmem : ∀ p, some p ∈ bks → p ∈ ds ∧ (cellAt H1 p).isSome = true := by
      intro p hp
      obtain ⟨j, hj⟩ := List.getElem?_of_mem hp
      obtain ⟨q1, q2, _⟩ := binfo j p hj
      exact ⟨q1, q2⟩
    have bap : ∀ (j k : Nat) (p p' : Path), j < k → bks[j]? = some (some p) → bks[k]? = some (some p') → ¬ p <+: p' ∧ ¬ p' <+: p := by
      intro j k p p' hjk hj hk
      obtain ⟨q1, q2, _⟩ := binfo j p hj
      obtain ⟨q3, q4, _⟩ := binfo k p' hk
      have hne := bne j k p p' hjk hj hk
      exact ⟨fun h => hne (liveds _ _ q1 q2 q4 h), fun h => hne (liveds _ _ q3 q4 q2 h).symm⟩
    -- the heap behind
    obtain ⟨cells, hcd⟩ : ∃ cells, cells = if (res.flatMap cellsT).any isOwn then res.flatMap cellsT else [] := ⟨_, rfl⟩
    have hcells : ∀ (m : Nat) (c : TV), cells[m]? = some c → (res.flatMap cellsT)[m]? = some c := by
      intro m c h
      rw [hcd] at h
      split at h
      · exact h
      · simp at h
    have hcalled := HR.called (κ' := κ') (γ' := γ') (cells := cells) (Lb := lbOf bks us) g1 H10 H1root hr2 hown' hchg
      (fun m c h => (hres.cell m c (hcells m c h)).monoA hA') (fun m c h => by
        rcases lbOf_at _ _ _ _ h with rfl | ⟨p, q1, q2⟩
        · exact .pure _ _ _ (.junk _)
        · obtain ⟨_, _, u, e1, _, _, e2, _⟩ := binfo m p q1
          rw [q2] at e1; cases e1; exact e2)
    have hκb : ∀ q, (∀ j r, q ≠ (0, j) :: r) → (∀ j r, q ≠ (root, j) :: r) → κback κ1 κ' root q = κ q := by
      intro q q0 q1
      rw [← g2.kap q (fun j r hh => q0 _ _ hh)]
      cases q with
      | nil => rfl
      | cons s r =>
        have a1 : s.1 ≠ 0 := by intro hh; exact q0 s.2 r (by rw [← hh])
        have a2 : s.1 ≠ root := by intro hh; exact q1 s.2 r (by rw [← hh])
        simp [κback, a1, a2]
    have hcs : ∀ q, (∀ j r, q ≠ (root, j) :: r) → cellAt (setRoot H1 root cells) q = cellAt H1 q := by
      intro q q1
      cases q with
      | nil => rfl
      | cons s r =>
        have a2 : s.1 ≠ root := by intro hh; exact q1 s.2 r (by rw [← hh])
        simp [cellAt, setRoot, a2]
    have hset0 : setRoot H1 root cells 0 = [] := by simp [setRoot, show 0 ≠ root by omega, H10]
    obtain ⟨κ2, γ2, L', p1, p2, p3, p4⟩ := putBack_ok bks us (List.range bks.length) (lbOf bks us) (setRoot H1 root cells) _ _ hcalled hset0 (by omega) (by simp)
      (fun j p c u q1 q2 q3 => by
        obtain ⟨i1, i2, u', i3, i4, i5, i6, i7⟩ := binfo j p q1
        have hlt := (List.getElem?_eq_some_iff.1 q1).1
        rw [List.getElem?_range hlt] at q2
        cases q2
        rw [q3] at i3; cases i3
        refine ⟨lbOf_get _ _ _ p _ q1 q3, ?_, by rw [hcs p (nr p i2)]; exact i2, ?_⟩
        · rw [hκb p (n0 p i2) (nr p i2), ← i7]
          simp [κback, show 0 ≠ root by omega]
        · intro pn s nd hp hcn B off arr T ha hb
          have hpn_r : ∀ j r, pn ≠ (root, j) :: r := by rintro j r rfl; exact nr p i2 j (r ++ [s]) (by rw [hp]; rfl)
          have hpn_0 : ∀ j r, pn ≠ (0, j) :: r := by rintro j r rfl; exact n0 p i2 j (r ++ [s]) (by rw [hp]; rfl)
          rw [hcs pn hpn_r] at hcn
          have hpne : pn ≠ [] := by rintro rfl; cases hcn
          obtain ⟨x1, hx1⟩ := Option.isSome_iff_exists.1 i2
          rw [hp, cellAt_snoc _ _ hpne, hcn, Option.bind_some] at hx1
          have hnds : (shape nd).isSome = true := by
            cases nd with
            | sl o z es => cases o <;> first | rfl | cases hx1
            | po o cs => cases o <;> first | rfl | cases hx1
            | _ => cases hx1
          obtain ⟨B1, off1, arr1, T1, z1, z2, z3, z4, z5⟩ := g1.cell (pn := pn) (by rw [cellAt_wr0 _ _ hpn_0]; exact hcn) hx1
          rw [hκb pn hpn_0 hpn_r, ← g2.kap pn (fun j r hh => hpn_0 _ _ hh), z1] at ha
          cases ha
          obtain ⟨_, _, l3⟩ := g2.live pn ⟨nd, hcn, hnds⟩
          simp only [shapeAt, hcn, Option.bind_some] at l3
          have l3' := l3
          rw [l3] at hnds
          cases hnd0 : cellAt st.H pn with
          | none => rw [hnd0] at hnds; cases hnds
          | some nd0 =>
            rw [hnd0, Option.bind_some] at l3'
            have i8 := i5
            rw [i4, hp] at i8
            simp only [shapeAt] at i8
            rw [cellAt_snoc _ _ hpne, hnd0, Option.bind_some] at i8
            cases hk0 : kid nd0 s with
            | none => rw [hk0] at i8; cases i8
            | some u0 =>
              rw [hk0, Option.bind_some] at i8
              obtain ⟨B0, off0, arr0, T0, y1, y2, y3, y4, y5⟩ := h1.cell hnd0 hk0
              rw [← g2.kap pn (fun j r hh => hpn_0 _ _ hh), cellAddr_shape l3'.symm, z1] at y1
              cases y1
              have y6 := y5.val i8
              obtain ⟨arr2, x1', x2, x3⟩ := hchg.keep.cells _ _ _ _ y3
              rw [hb] at x1'
              cases x1'
              rw [x3 _ (by
                rintro ⟨q, hq⟩
                obtain ⟨m', r', hm1, _⟩ := γcall_some hq
                rw [z2] at hm1; cases hm1
                exact hpn_0 _ _ rfl), ← y6, ← hp, hκb p (n0 p i2) (nr p i2)])
      (fun j k p p' hjk hj hk => ⟨(bap j k p p' hjk hj hk).1, by
        have l1 := (List.getElem?_eq_some_iff.1 hj).1
        have l2 := (List.getElem?_eq_some_iff.1 hk).1
        rw [List.getElem?_range l1, List.getElem?_range l2]
        intro hh; cases hh; omega⟩)
    have hHf := p1.drop0 p2
    have hcomm := putBack_setRoot (root := root) cells bks us H1 (fun p hp => nr p (bmem p hp).2)
    -- what is kept
    have keepq : ∀ q, ((∀ p ∈ ds, ¬ p <+: q) ∨ some q ∈ bks) → (shapeAt st.H q).isSome = true → κ2 q = κ q ∧ shapeAt (putBack (setRoot H1 root cells) bks us) q = shapeAt st.H q := by
      intro q hq hl'
      have q0 := live_notroot h2 hl'
      have q1 := live_notroot hroot hl'
      rcases hq with hq | hq
      · have hq' : ∀ p, some p ∈ bks → ¬ p <+: q := fun p hp => hq p (bmem p hp).1
        refine ⟨?_, ?_⟩
        · rw [p3 q (fun p hp => .inl (hq' p hp)) (fun p hp hh => absurd hh (hq' p hp))]
          exact hκb q q0 q1
        · rw [p4 q hq', shapeAt_setRoot q1]
          exact g2.shp q hq
      · obtain ⟨j, hj⟩ := List.getElem?_of_mem hq
        obtain ⟨i1, i2, u, i3, i4, i5, i6, i7⟩ := binfo j q hj
        have hpre : ∀ p, some p ∈ bks → p <+: q → q = p := fun p hp hh => (liveds p q (bmem p hp).1 (bmem p hp).2 i2 hh).symm
        refine ⟨?_, ?_⟩
        · rw [p3 q (fun p hp => by
            by_cases hh : p <+: q
            · exact .inr (hpre p hp hh)
            · exact .inl hh) hpre]
          exact hκb q q0 q1
        · have := putBack_at bks us (setRoot H1 root cells) bap j q u hj i3 (by rw [hcs q q1]; exact i2)
          simp only [shapeAt, this, Option.bind_some]
          exact i4
    have hone : ∀ (r0 m : Nat), r0 ≠ 0 → (∀ p, some p ∈ bks → p <+: [(r0, m)] → [(r0, m)] = p) := by
      intro r0 m _ p hp hh
      obtain ⟨t, ht⟩ := hh
      cases p with
      | nil => exact absurd rfl (ne0 _ (bmem _ hp).2)
      | cons s r =>
        simp at ht
        rw [ht.1, ht.2.1]
    have hk2 : ∀ (r0 m : Nat), r0 ≠ 0 → κ2 [(r0, m)] = κback κ1 κ' root [(r0, m)] := by
      intro r0 m h0
      refine p3 _ (fun p hp => ?_) (hone r0 m h0)
      by_cases hh : p <+: [(r0, m)]
      · exact .inr (hone r0 m h0 p hp hh)
      · exact .inl hh
    have hk1 : ∀ b, κ2 [(1, b)] = F.k1 b := by
      intro b
      rw [hk2 1 b (by omega), hκb _ (by simp) (by intro j r hh; simp at hh; omega)]
      exact h6 b
    have hKeep : Keep (fun b o => ¬ ∃ q, γcall γ1 b o = some q) w w' := hchg.keep
    have hAK : ∀ b o, F.A b o → ¬ ∃ q, γcall γ1 b o = some q := by
      rintro b o ha ⟨q, hq⟩
      obtain ⟨m', r, hm1, _⟩ := γcall_some hq
      exact g1.notA hm1 ha
    have hEH : E.H = putBack (setRoot H1 root cells) bks us := by
      rw [hcomm, ← t5, hcd]
      split
      · rfl
      · funext y
        simp only [setRoot]
        split
        · rename_i hy; subst hy; exact putBack_nil _ _ _ H1root
        · rfl
    have hEd : E.dead = if ds = [] then none else some (fun q => under ds q && !(bks.any (· == some q))) := by
      rw [← t5]; split <;> rfl
    have hEv : E.v = if (res.flatMap cellsT).any isOwn then resT (refTu root 0 res) else resT res := by
      rw [← t5]; split <;> rfl
    have hEn : E.norg = [] := by rw [← t5]; split <;> rfl
    have hdq : ∀ q, deadB E.dead q = false → (∀ p ∈ ds, ¬ p <+: q) ∨ some q ∈ bks := by
      intro q hq
      rw [hEd] at hq
      by_cases hds : ds = []
      · subst hds; exact .inl (by simp)
      · simp only [hds, if_false, deadB, Bool.and_eq_false_iff, Bool.not_eq_false'] at hq
        rcases hq with hq | hq
        · exact .inl (under_false hq)
        · obtain ⟨x, hx1, hx2⟩ := List.any_eq_true.1 hq
          have : x = some q := by simpa using hx2
          subst this
          exact .inr hx1
    refine Rel.put (κ' := κ2) (γ' := γ2) (by rw [hEH]; exact hHf) (by rw [hEH]; exact p2) h3 hd h5 hk1 (fun q m hq hl => ?_) (fun _ => ?_) (fun k => ?_)
    · obtain ⟨s, r, rfl, hcase⟩ := orgPut_some hq hl
      rcases hcase with ⟨hn, _, f, _, hnf⟩ | ⟨hn, hdd, hq⟩
      · rw [hEn] at hnf; simp at hnf
      · have hdd' := hdq _ hdd
        rw [hEH] at hl
        by_cases hrs : s.1 = root
        · -- a new root: only if nothing was made
          exfalso
          obtain ⟨s1, s2⟩ := s
          simp only at hrs; subst hrs
          by_cases hown : (res.flatMap cellsT).any isOwn = true
          · exact hn (by rw [← t5, if_pos hown])
          · obtain ⟨x, hx, _⟩ := hl
            rw [hcomm] at hx
            have hce : cells = [] := by rw [hcd, if_neg hown]
            simp [cellAt, setRoot, hce] at hx
        · have hnr : ∀ j t, s :: r ≠ (root, j) :: t := by rintro j t hh; cases hh; exact hrs rfl
          have hl0 : (shapeAt st.H (s :: r)).isSome = true := by
            rcases hdd' with hd1 | hd1
            · have hb1 : ∀ p, some p ∈ bks → ¬ p <+: s :: r := fun p hp => hd1 p (bmem p hp).1
              rw [live_iff, p4 _ hb1, shapeAt_setRoot hnr, g2.shp _ hd1] at hl
              exact hl
            · obtain ⟨j, hj⟩ := List.getElem?_of_mem hd1
              obtain ⟨_, _, u, _, i4, i5, _⟩ := binfo j _ hj
              rw [← i4]; exact i5
          rw [(keepq _ hdd' hl0).1]
          exact h7 _ _ hq ((live_iff _ _).2 hl0)
    · rw [hEH, hEv]
      split
      · rename_i hown
        have hcd' : cells = res.flatMap cellsT := by rw [hcd, if_pos hown]
        obtain ⟨f1, f2⟩ := refTu_rv (w := w') (κ := κ2) (H := putBack (setRoot H1 root cells) bks us) (A := F.A) root res rs 0 hres.len hres.ag (fun m c y hm hy => by
          rw [Nat.zero_add]
          have hc1 : cellAt (putBack (setRoot H1 root cells) bks us) [(root, m)] = some c := by
            rw [hcomm, cellAt_root]
            simp only [setRoot, if_true]
            rw [hcd']; exact hm
          have hT := hHf.root (root, m) c (by rw [← cellAt_root]; exact hc1)
          have e1 : κ2 [(root, m)] = y := by
            rw [hk2 root m (by omega)]
            simp only [κback, if_true]
            exact hres.val m y hy
          rw [e1] at hT
          exact toRef_rv hT hc1)
        exact resT_rv f1 f2
      · rename_i hown
        refine resT_rv hres.len (resCells_rv res rs hres.len hres.ag fun m c y hm hy => ?_)
        have hT := hres.cell m c hm
        rw [hres.val m y hy] at hT
        have hns : (shape c).isSome = false := by
          cases hh : (shape c).isSome with
          | false => rfl
          | true => exact absurd (List.any_eq_true.2 ⟨c, List.mem_of_getElem? hm, hh⟩) hown
        exact .pure _ _ ((hT.monoA hA').pure_of hns)
    · rw [hEd, hEH]
      by_cases hds : ds = []
      · subst hds
        simp only [if_true, deadT]
        exact (h4 k).mono (fun q hl' => keepq q (.inl (by simp)) hl') hKeep hAK
      · simp only [hds, if_false, deadT]
        refine (h4 k).kill _ (fun q hq hl' => keepq q (hdq q ?_) hl') hKeep hAK
        rw [hEd, if_neg hds]; exact hq
end
end Go.Proofs.YtloodkhdngipbaaT
