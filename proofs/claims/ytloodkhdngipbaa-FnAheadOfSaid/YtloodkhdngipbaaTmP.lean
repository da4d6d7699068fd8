/- TM, part P: the arguments of a call taken. -/
import Derived.Test.YtloodkhdngipbaaTmO
namespace Go.Proofs.YtloodkhdngipbaaT
set_option linter.unusedVariables false
set_option linter.unusedSimpArgs false
open Go

section
variable {P : Program} {F : Fr} {st : St} {w w' w0 : World} {S0 : Nat → Nat → Prop} {κ κ' : Path → Value} {γ γ' : Nat → Nat → Option Path} {H H' H1 : Hp} {A A' K : Nat → Nat → Prop} {L : List TV} {o : Oper} {E : Eff} {root : Nat}

def Fit (c : TV) : Prop := c ≠ .junk ∧ (∀ vs, c ≠ .tu vs) ∧ isAg c = false

/-- What is known of an argument that is to be taken. -/
def Cs (w : World) (κ : Path → Value) (H : Hp) (A : Nat → Nat → Prop) (u : TV) (v : Value) : Prop :=
  (∀ c ∈ cellsT u, Fit c) → isAg u = isAgV v ∧ (cellsT u).length = (cellsV v).length ∧ ∀ (j : Nat) (c : TV) (y : Value), (cellsT u)[j]? = some c → (cellsV v)[j]? = some y → Rs w κ H A c y

theorem RV.cs {u : TV} {v : Value} (h : RV w κ H A u v) : Cs w κ H A u v := by
  intro hf
  have hnj : u ≠ .junk := by rintro rfl; exact (hf .junk (by simp [cellsT])).1 rfl
  have hn : isAg u = true ∨ ∀ vs, u ≠ .tu vs := by
    by_cases hg : isAg u = true
    · exact .inl hg
    · refine .inr fun vs hh => ?_
      exact (hf (.tu vs) (by rw [hh]; simp [cellsT])).2.1 vs rfl
  obtain ⟨l1, l2⟩ := rv_cells h (fun c hc => (hf c hc).1) hn
  exact ⟨rv_agv h hnj, l1, fun j c y hc hy => (l2 j c y hc hy).rs⟩

theorem Cs.after {u : TV} {v : Value} (h : Cs w κ H A u v) (hl : ∀ q, Live H' q → Live H q ∧ κ' q = κ q ∧ shapeAt H' q = shapeAt H q) : Cs w κ' H' A u v := by
  intro hf
  obtain ⟨h1, h2, h3⟩ := h hf
  exact ⟨h1, h2, fun j c y hc hy => (h3 j c y hc hy).after hl⟩

/-- What taking leaves as it was. -/
structure Took (κ κ' : Path → Value) (H H1 : Hp) (n : Nat) (ds : List Path) : Prop where
  zero : H1 0 = []
  kap : ∀ q, (∀ j r, q ≠ (0, n + j) :: r) → κ' q = κ q
  shp : ∀ q, (∀ p ∈ ds, ¬ p <+: q) → shapeAt H1 q = shapeAt H q
  liv : ∀ q, Live H1 q → ∀ p ∈ ds, ¬ p <+: q

theorem Took.live {n : Nat} {ds : List Path} (h : Took κ κ' H H1 n ds) (q : Path) (hq : Live H1 q) : Live H q ∧ κ' q = κ q ∧ shapeAt H1 q = shapeAt H q := by
  have e := h.shp q (h.liv q hq)
  refine ⟨by rw [live_iff] at hq ⊢; rw [← e]; exact hq, h.kap q ?_, e⟩
  rintro j r rfl
  obtain ⟨x, hx, _⟩ := hq
  exact not0_of_live h.zero hx _ _ rfl

theorem Took.trans {κ1 κ2 κ3 : Path → Value} {H1 H2 H3 : Hp} {n m : Nat} {d1 d2 : List Path} (h : Took κ1 κ2 H1 H2 n d1) (h' : Took κ2 κ3 H2 H3 (n + m) d2) : Took κ1 κ3 H1 H3 n (d1 ++ d2) := by
  refine ⟨h'.zero, fun q hq => ?_, fun q hq => ?_, fun q hq p hp => ?_⟩
  · rw [h'.kap q (fun j r hh => hq (m + j) r (by rw [hh, Nat.add_assoc])), h.kap q hq]
  · exact (h'.shp q fun p hp => hq p (List.mem_append_right _ hp)).trans (h.shp q fun p hp => hq p (List.mem_append_left _ hp))
  · rcases List.mem_append.1 hp with hp | hp
    · exact h.liv q (h'.live q hq).1 p hp
    · exact h'.liv q hq p hp

theorem take1_out {c x : TV} {d : List Path} (h : take1 H c = some (x, H1, d)) : isAg x = false := by
  unfold take1 at h
  split at h
  · split at h
    · simp only [Option.some.injEq, Prod.mk.injEq] at h; obtain ⟨rfl, _, _⟩ := h; rfl
    · cases h
  · split at h
    · simp only [Option.some.injEq, Prod.mk.injEq] at h; obtain ⟨rfl, _, _⟩ := h; rfl
    · cases h
  · simp only [Option.some.injEq, Prod.mk.injEq] at h; obtain ⟨rfl, _, _⟩ := h; rfl
  · split at h
    · rename_i hn
      simp only [Option.some.injEq, Prod.mk.injEq] at h; obtain ⟨rfl, _, _⟩ := h
      cases c <;> first | rfl | cases hn
    · cases h

theorem notAg_cells {x : TV} (h : isAg x = false) : cellsT x = [x] := by cases x <;> first | rfl | cases h

theorem tkOf_ok {u : TV} {us : List TV} {d : List Path} (ht : takeL (cellsT u) H = some (us, H1, d)) : cellsT (tkOf u us) = us ∧ isAg (tkOf u us) = isAg u := by
  cases hg : isAg u with
  | true =>
    have e : tkOf u us = .ag us := by simp only [tkOf, hg, if_true]
    rw [e]; exact ⟨rfl, rfl⟩
  | false =>
    rw [notAg_cells hg] at ht
    simp only [takeL, Option.bind_eq_some_iff, Option.some.injEq] at ht
    obtain ⟨⟨x, H5, d5⟩, q1, y, q2, q3⟩ := ht
    subst q2
    simp only [Prod.mk.injEq] at q3
    obtain ⟨rfl, _, _⟩ := q3
    have := take1_out q1
    simp only [tkOf, hg, Bool.false_eq_true, if_false, List.headD_cons]
    exact ⟨notAg_cells this, this⟩

/-- One argument's cells taken. -/
theorem takeCells_ok {u : TV} {v : Value} {us : List TV} {d : List Path} (h : HR w0 S0 A w κ γ (wr0 H L)) (h0 : H 0 = []) (hc : Cs w κ H A u v) (ht : takeL (cellsT u) H = some (us, H1, d)) :
    ∃ κ' γ', HR w0 S0 A w κ' γ' (wr0 H1 (L ++ us)) ∧ Took κ κ' H H1 L.length d ∧ us.length = (cellsV v).length ∧ isAg u = isAgV v ∧ (cellsT u).length = (cellsV v).length ∧
      ∀ (m : Nat) (y : Value), (cellsV v)[m]? = some y → κ' [(0, L.length + m)] = y := by
  obtain ⟨c1, c2, c3⟩ := hc (takeL_fit ht)
  obtain ⟨κ', γ', k1, k2, k3, k4, k5, k6, k7, k8⟩ := takeL_ok (cellsT u) (cellsV v) L us H H1 κ γ d h h0 c2 c3 ht
  exact ⟨κ', γ', k1, ⟨k2, k5, k6, k8⟩, by omega, c1, c2, k4⟩

theorem takeArgs_ok : ∀ (ms : List Mode) (as : List (TV × Nat)) (vs : List Value) (L : List TV) (H H1 : Hp) (κ : Path → Value) (γ : Nat → Nat → Option Path) (tk : List TV) (ds : List Path) (ps : List (Option Path)),
    HR w0 S0 A w κ γ (wr0 H L) → H 0 = [] → as.length = vs.length → (∀ (j : Nat) (u : TV) (n : Nat) (v : Value), as[j]? = some (u, n) → vs[j]? = some v → Cs w κ H A u v) → takeArgs H ms as = some (tk, H1, ds, ps) →
    ∃ κ' γ', HR w0 S0 A w κ' γ' (wr0 H1 (L ++ ownCells ms tk)) ∧ Took κ κ' H H1 L.length ds ∧ tk.length = as.length ∧ ms.length = as.length ∧
      (ownCells ms tk).length = (ownVals ms vs).length ∧ ps.length = (ownCells ms tk).length ∧ (∀ (m : Nat) (v : Value), (ownVals ms vs)[m]? = some v → κ' [(0, L.length + m)] = v) ∧
      (∀ (j : Nat) (u : TV) (v : Value), ms[j]? ≠ some .ro → tk[j]? = some u → vs[j]? = some v → isAg u = isAgV v ∧ (cellsT u).length = (cellsV v).length)
  | [], [], vs, L, H, H1, κ, γ, tk, ds, ps, h, h0, hl, hc, ht => by
    simp only [takeArgs, Option.some.injEq, Prod.mk.injEq] at ht
    obtain ⟨rfl, rfl, rfl, rfl⟩ := ht
    have : vs = [] := List.eq_nil_of_length_eq_zero (by simpa using hl.symm)
    subst this
    exact ⟨κ, γ, by simpa [ownCells] using h, ⟨h0, fun _ _ => rfl, fun _ _ => rfl, by simp⟩, rfl, rfl, rfl, rfl, by simp [ownVals], by simp⟩
  | .ro :: ms, (u, n) :: as, vs, L, H, H1, κ, γ, tk, ds, ps, h, h0, hl, hc, ht => by
    cases vs with
    | nil => simp at hl
    | cons v vs =>
      simp only [takeArgs, Option.bind_eq_some_iff, Option.some.injEq, Prod.mk.injEq] at ht
      obtain ⟨⟨tk', H2, ds', ps'⟩, h1, rfl, rfl, rfl, rfl⟩ := ht
      obtain ⟨κ', γ', g1, g2, g3, g4, g5, g6, g7, g8⟩ := takeArgs_ok ms as vs L H _ κ γ tk' _ _ h h0 (by simpa using hl) (fun j u n v h1 h2 => hc (j + 1) u n v (by simpa using h1) (by simpa using h2)) h1
      refine ⟨κ', γ', g1, g2, by simp [g3], by simp [g4], g5, g6, g7, fun j u v h1 h2 h3 => ?_⟩
      cases j with
      | zero => exact absurd rfl h1
      | succ j => exact g8 j u v (by simpa using h1) (by simpa using h2) (by simpa using h3)
  | .own :: ms, (u, n) :: as, vs, L, H, H1, κ, γ, tk, ds, ps, h, h0, hl, hc, ht => by
    cases vs with
    | nil => simp at hl
    | cons v vs =>
      simp only [takeArgs, Option.bind_eq_some_iff, Option.some.injEq, Prod.mk.injEq] at ht
      obtain ⟨⟨us, H2, d2⟩, ht1, ⟨tk', H3, ds', ps'⟩, ht2, rfl, rfl, rfl, rfl⟩ := ht
      obtain ⟨κ1, γ1, e1, e2, e3, e4, e5, e6⟩ := takeCells_ok h h0 (hc 0 u n v rfl rfl) ht1
      obtain ⟨κ', γ', g1, g2, g3, g4, g5, g6, g7, g8⟩ := takeArgs_ok ms as vs (L ++ us) H2 H3 κ1 γ1 tk' ds' ps' e1 e2.zero (by simpa using hl)
        (fun j u n v h1 h2 => (hc (j + 1) u n v (by simpa using h1) (by simpa using h2)).after e2.live) ht2
      obtain ⟨hct, hia⟩ := tkOf_ok ht1
      have eoc : ownCells (.own :: ms) (tkOf u us :: tk') = us ++ ownCells ms tk' := by
        show cellsT _ ++ ownCells ms tk' = _
        rw [hct]
      have hlen : (L ++ us).length = L.length + us.length := by simp
      refine ⟨κ', γ', by rw [eoc, ← List.append_assoc]; exact g1, e2.trans (by rw [← hlen]; exact g2), by simp [g3], by simp [g4], ?_, ?_, fun m y hy => ?_, fun j x y h1 h2 h3 => ?_⟩
      · rw [eoc]; simp only [ownVals, List.length_append]; omega
      · rw [eoc]; simp only [List.length_append, List.length_map]; omega
      · simp only [ownVals] at hy
        rcases Nat.lt_or_ge m (cellsV v).length with hm | hm
        · rw [List.getElem?_append_left hm] at hy
          rw [g2.kap _ (by intro j r hh; simp at hh; omega)]
          exact e6 m y hy
        · rw [List.getElem?_append_right hm] at hy
          have := g7 _ y hy
          rwa [show (L ++ us).length + (m - (cellsV v).length) = L.length + m by omega] at this
      · cases j with
        | zero =>
          simp at h2 h3; subst h2; subst h3
          exact ⟨hia.trans e4, by rw [hct]; exact e3⟩
        | succ j => exact g8 j x y (by simpa using h1) (by simpa using h2) (by simpa using h3)
  | [], _ :: _, _, _, _, _, _, _, _, _, _, _, _, _, _, ht => by simp [takeArgs] at ht
  | m :: _, [], _, _, _, _, _, _, _, _, _, _, _, _, _, ht => by cases m <;> simp [takeArgs] at ht

theorem pathOf_dead {c x : TV} {d : List Path} {p : Path} (ht : take1 H c = some (x, H1, d)) (hp : pathOf c = some p) : p ∈ d := by
  unfold pathOf at hp
  split at hp
  · simp only [Option.some.injEq] at hp; subst hp
    simp only [take1] at ht
    split at ht
    · simp only [Option.some.injEq, Prod.mk.injEq] at ht; rw [← ht.2.2]; simp
    · cases ht
  · simp only [Option.some.injEq] at hp; subst hp
    simp only [take1] at ht
    split at ht
    · simp only [Option.some.injEq, Prod.mk.injEq] at ht; rw [← ht.2.2]; simp
    · cases ht
  · cases hp

theorem pathOf_deadL : ∀ {cs us : List TV} {H H1 : Hp} {d : List Path} {m : Nat} {c : TV} {p : Path}, takeL cs H = some (us, H1, d) → cs[m]? = some c → pathOf c = some p → p ∈ d
  | [], _, _, _, _, m, c, p, _, h, _ => by simp at h
  | c0 :: cs, us, H, H1, d, m, c, p, ht, h, hp => by
    simp only [takeL, Option.bind_eq_some_iff, Option.some.injEq, Prod.mk.injEq] at ht
    obtain ⟨⟨x, H2, d1⟩, h1, ⟨ys, H3, d2⟩, h2, _, _, rfl⟩ := ht
    cases m with
    | zero =>
      simp at h; subst h
      exact List.mem_append_left _ (pathOf_dead h1 hp)
    | succ m => exact List.mem_append_right _ (pathOf_deadL h2 (by simpa using h) hp)

/-- Where what is given comes from. -/
theorem takeArgs_src {HV : Hp} : ∀ (ms : List Mode) (as : List (TV × Nat)) (vs : List Value) (H H1 : Hp) (tk : List TV) (ds : List Path) (ps : List (Option Path)),
    as.length = vs.length → (∀ (j : Nat) (u : TV) (n : Nat) (v : Value), as[j]? = some (u, n) → vs[j]? = some v → RV w κ HV A u v) → takeArgs H ms as = some (tk, H1, ds, ps) →
    ∀ (m : Nat) (p : Path), ps[m]? = some (some p) → p ∈ ds ∧ ∃ c, pathOf c = some p ∧ ∀ y, (ownVals ms vs)[m]? = some y → RV w κ HV A c y
  | [], [], vs, H, H1, tk, ds, ps, hl, hv, ht, m, p, hp => by
    simp only [takeArgs, Option.some.injEq, Prod.mk.injEq] at ht
    obtain ⟨rfl, rfl, rfl, rfl⟩ := ht
    simp at hp
  | .ro :: ms, (u, n) :: as, vs, H, H1, tk, ds, ps, hl, hv, ht, m, p, hp => by
    cases vs with
    | nil => simp at hl
    | cons v vs =>
      simp only [takeArgs, Option.bind_eq_some_iff, Option.some.injEq, Prod.mk.injEq] at ht
      obtain ⟨⟨tk', H2, ds', ps'⟩, h1, rfl, rfl, rfl, rfl⟩ := ht
      exact takeArgs_src ms as vs H _ tk' _ _ (by simpa using hl) (fun j u n v h1 h2 => hv (j + 1) u n v (by simpa using h1) (by simpa using h2)) h1 m p hp
  | .own :: ms, (u, n) :: as, vs, H, H1, tk, ds, ps, hl, hv, ht, m, p, hp => by
    cases vs with
    | nil => simp at hl
    | cons v vs =>
      simp only [takeArgs, Option.bind_eq_some_iff, Option.some.injEq, Prod.mk.injEq] at ht
      obtain ⟨⟨us, H2, d2⟩, ht1, ⟨tk', H3, ds', ps'⟩, ht2, rfl, rfl, rfl, rfl⟩ := ht
      have hf := takeL_fit ht1
      have hn : isAg u = true ∨ ∀ vs, u ≠ .tu vs := by
        by_cases hg : isAg u = true
        · exact .inl hg
        · refine .inr fun vs hh => ?_
          exact (hf (.tu vs) (by rw [hh]; simp [cellsT])).2.1 vs rfl
      obtain ⟨l1, l2⟩ := rv_cells (hv 0 u n v rfl rfl) (fun c hc => (hf c hc).1) hn
      rcases Nat.lt_or_ge m (cellsT u).length with hm | hm
      · rw [List.getElem?_append_left (by simpa using hm), List.getElem?_map] at hp
        obtain ⟨c, hc⟩ : ∃ c, (cellsT u)[m]? = some c := ⟨_, List.getElem?_eq_getElem hm⟩
        simp only [hc, Option.map_some, Option.some.injEq] at hp
        refine ⟨List.mem_append_left _ (pathOf_deadL ht1 hc hp), c, hp, fun y hy => l2 m c y hc ?_⟩
        simp only [ownVals] at hy
        rwa [List.getElem?_append_left (by omega)] at hy
      · rw [List.getElem?_append_right (by simpa using hm), List.length_map] at hp
        obtain ⟨q1, c, q2, q3⟩ := takeArgs_src ms as vs H2 _ tk' ds' ps' (by simpa using hl) (fun j u n v h1 h2 => hv (j + 1) u n v (by simpa using h1) (by simpa using h2)) ht2 _ p hp
        refine ⟨List.mem_append_right _ q1, c, q2, fun y hy => q3 y ?_⟩
        simp only [ownVals] at hy
        rwa [List.getElem?_append_right (by omega), ← l1] at hy
  | [], _ :: _, _, _, _, _, _, _, _, _, ht, _, _, _ => by simp [takeArgs] at ht
  | m :: _, [], _, _, _, _, _, _, _, _, ht, _, _, _ => by cases m <;> simp [takeArgs] at ht
end
end Go.Proofs.YtloodkhdngipbaaT
