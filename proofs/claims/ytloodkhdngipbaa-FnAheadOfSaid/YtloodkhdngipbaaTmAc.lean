/- TM, part Ac: what an operation looks at and what it turns: the rest is as it was. -/
import Derived.Test.YtloodkhdngipbaaTmAb
namespace Go.Proofs.YtloodkhdngipbaaT
set_option linter.unusedVariables false
set_option linter.unusedSimpArgs false
open Go

section
variable {P : Program} {st st' : St} {root : Nat} {H H' H1 : Hp} {E : Eff}

theorem rootsL_eq (us : List TV) : rootsL us = us.flatMap rootsT := by
  induction us with
  | nil => rfl
  | cons u us ih => simp [rootsL, ih]
theorem rootsL_app (us vs : List TV) : rootsL (us ++ vs) = rootsL us ++ rootsL vs := by simp [rootsL_eq]
theorem rootsL_mem {us : List TV} {r : Nat} : r ∈ rootsL us ↔ ∃ u ∈ us, r ∈ rootsT u := by simp [rootsL_eq]

def Agree (rs : List Nat) (H H' : Hp) : Prop := ∀ r ∈ rs, H' r = H r
theorem Agree.mono {rs rs' : List Nat} (h : Agree rs H H') (hs : ∀ r ∈ rs', r ∈ rs) : Agree rs' H H' := fun r hr => h r (hs r hr)

/-- What has turned: the roots of rs, as in H1. -/
def Mix (rs : List Nat) (H1 H' H1' : Hp) : Prop := ∀ r, (r ∈ rs → H1' r = H1 r) ∧ (r ∉ rs → H1' r = H' r)

def pr (p : Path) : List Nat := (p.head?.map (·.1)).toList
@[simp] theorem pr_cons (s : Nat × Nat) (p : Path) : pr (s :: p) = [s.1] := rfl
@[simp] theorem pr_nil : pr [] = [] := rfl

theorem cellAt_loc {p : Path} (h : Agree (pr p) H H') : cellAt H' p = cellAt H p := by
  cases p with
  | nil => rfl
  | cons s r => simp only [cellAt]; rw [h s.1 (by simp)]
theorem rowAt_loc {p : Path} {i : Nat} (h : Agree (pr p) H H') : rowAt H' p i = rowAt H p i := by simp only [rowAt, cellAt_loc h]
theorem shapeAt_loc {p : Path} (h : Agree (pr p) H H') : shapeAt H' p = shapeAt H p := by simp only [shapeAt, cellAt_loc h]

theorem modH_mix {p : Path} {φ : TV → TV} (h : Agree (pr p) H H') : Mix (pr p) (modH H φ p) H' (modH H' φ p) := by
  intro r
  cases p with
  | nil => exact ⟨fun h => by simp at h, fun _ => rfl⟩
  | cons s t =>
    simp only [pr_cons, List.mem_singleton, modH]
    refine ⟨fun hr => ?_, fun hr => by simp [hr]⟩
    subst hr
    simp only [if_true]; rw [h s.1 (by simp)]
theorem modH_off {p : Path} {φ : TV → TV} {r : Nat} (h : r ∉ pr p) : modH H φ p r = H r := by
  cases p with
  | nil => rfl
  | cons s t => simp only [pr_cons, List.mem_singleton] at h; simp [modH, h]

/-- The roots of places. -/
def prs (d : List Path) : List Nat := d.filterMap fun p => p.head?.map (·.1)
theorem prs_app (d d2 : List Path) : prs (d ++ d2) = prs d ++ prs d2 := by simp [prs]
@[simp] theorem prs_nil : prs [] = [] := rfl
@[simp] theorem prs_cons (s : Nat × Nat) (t : Path) (d : List Path) : prs ((s :: t) :: d) = s.1 :: prs d := rfl

/-- Taking looks at the roots of what is taken, and turns those of the places that die. -/
structure TakeLoc (H H' H1 : Hp) (d : List Path) (H1' : Hp) : Prop where
  mix : Mix (prs d) H1 H' H1'
  off : ∀ r, r ∉ prs d → H1 r = H r
  ne : ∀ p ∈ d, p ≠ []

theorem prs_mem {d : List Path} {s : Nat × Nat} {t : Path} (h : (s :: t) ∈ d) : s.1 ∈ prs d := List.mem_filterMap.2 ⟨_, h, rfl⟩

theorem take1_loc {c u : TV} {d : List Path} (h : take1 H c = some (u, H1, d)) (ha : Agree (rootsT c) H H') : ∃ H1', take1 H' c = some (u, H1', d) ∧ TakeLoc H H' H1 d H1' ∧ ∀ r ∈ prs d, r ∈ rootsT c := by
  have pureCase : (∀ G, take1 G c = some (c, G, [])) → ∃ H1', take1 H' c = some (u, H1', d) ∧ TakeLoc H H' H1 d H1' ∧ ∀ r ∈ prs d, r ∈ rootsT c := by
    intro hg
    rw [hg H] at h
    simp only [Option.some.injEq, Prod.mk.injEq] at h
    obtain ⟨rfl, rfl, rfl⟩ := h
    exact ⟨H', hg H', ⟨fun r => ⟨fun hr => by simp at hr, fun _ => rfl⟩, fun _ _ => rfl, by simp⟩, by simp⟩
  have nodeCase : ∀ (p : Path) (x : TV), rootsT c = pr p → cellAt H p = some x → H1 = modH H (fun _ => .junk) p → d = [p] → take1 H' c = some (u, modH H' (fun _ => .junk) p, [p]) → ∃ H1', take1 H' c = some (u, H1', d) ∧ TakeLoc H H' H1 d H1' ∧ ∀ r ∈ prs d, r ∈ rootsT c := by
    rintro p x hr hx rfl rfl ht
    rw [hr] at ha ⊢
    have e : prs [p] = pr p := by cases p <;> rfl
    refine ⟨_, ht, ⟨by rw [e]; exact modH_mix ha, fun r hr => modH_off (by rw [← e]; exact hr), fun q hq => ?_⟩, fun r hr => by rw [e] at hr; exact hr⟩
    simp only [List.mem_singleton] at hq; subst hq
    rintro rfl; cases hx
  cases c with
  | rf p off len =>
    have e : rootsT (.rf p off len) = pr p := rfl
    simp only [take1] at h
    split at h
    case h_2 => cases h
    rename_i z es hx
    simp only [Option.some.injEq, Prod.mk.injEq] at h
    obtain ⟨rfl, rfl, rfl⟩ := h
    exact nodeCase p _ e hx rfl rfl (by simp only [take1]; rw [cellAt_loc (by rw [← e]; exact ha), hx])
  | pt p i f =>
    have e : rootsT (.pt p i f) = pr p := rfl
    cases i with
    | succ i => simp [take1, noref] at h
    | zero =>
      cases f with
      | succ f => simp [take1, noref] at h
      | zero =>
        simp only [take1] at h
        split at h
        case h_2 => cases h
        rename_i cs hx
        simp only [Option.some.injEq, Prod.mk.injEq] at h
        obtain ⟨rfl, rfl, rfl⟩ := h
        exact nodeCase p _ e hx rfl rfl (by simp only [take1]; rw [cellAt_loc (by rw [← e]; exact ha), hx])
  | sl o z es =>
    cases o with
    | false => exact pureCase fun G => rfl
    | true =>
      cases es with
      | nil => exact pureCase fun G => rfl
      | cons e es => simp [take1, noref] at h
  | po o cs =>
    cases o with
    | false => exact pureCase fun G => rfl
    | true => simp [take1, noref] at h
  | ag cs => simp [take1, noref] at h
  | tu cs => simp [take1, noref] at h
  | junk => simp [take1, noref] at h
  | fn g cs =>
    have hn : noref (.fn g cs) = true := by
      simp only [take1] at h
      split at h
      · assumption
      · cases h
    exact pureCase fun G => by simp only [take1, hn, if_true]
  | _ => exact pureCase fun G => rfl

theorem TakeLoc.trans {H2 H1' H2' : Hp} {d d2 : List Path} (h : TakeLoc H H' H1 d H1') (h2 : TakeLoc H1 H1' H2 d2 H2') : TakeLoc H H' H2 (d ++ d2) H2' := by
  obtain ⟨a1, a2, a3⟩ := h
  obtain ⟨b1, b2, b3⟩ := h2
  refine ⟨fun r => ⟨fun hr => ?_, fun hr => ?_⟩, fun r hr => ?_, fun p hp => ?_⟩
  · rw [prs_app] at hr
    by_cases h2 : r ∈ prs d2
    · exact (b1 r).1 h2
    · rw [(b1 r).2 h2, b2 r h2]
      rcases List.mem_append.1 hr with h | h
      · exact (a1 r).1 h
      · exact absurd h h2
  · rw [prs_app] at hr
    simp only [List.mem_append, not_or] at hr
    rw [(b1 r).2 hr.2, (a1 r).2 hr.1]
  · rw [prs_app] at hr
    simp only [List.mem_append, not_or] at hr
    rw [b2 r hr.2, a2 r hr.1]
  · rcases List.mem_append.1 hp with hp | hp
    · exact a3 p hp
    · exact b3 p hp

/-- After a taking, the two heaps still agree where they did. -/
theorem TakeLoc.agree {rs2 : List Nat} {d : List Path} {H1' : Hp} (h : TakeLoc H H' H1 d H1') (ha : Agree rs2 H H') : Agree rs2 H1 H1' := by
  intro r hr
  by_cases h1 : r ∈ prs d
  · exact (h.mix r).1 h1
  · rw [(h.mix r).2 h1, ha r hr, h.off r h1]

theorem TakeLoc.refl : TakeLoc H H' H [] H' := ⟨fun r => ⟨fun h => by simp at h, fun _ => rfl⟩, fun _ _ => rfl, by simp⟩

theorem takeL_loc : ∀ {cs us : List TV} {H H' H1 : Hp} {d : List Path}, takeL cs H = some (us, H1, d) → Agree (rootsL cs) H H' → ∃ H1', takeL cs H' = some (us, H1', d) ∧ TakeLoc H H' H1 d H1' ∧ ∀ r ∈ prs d, r ∈ rootsL cs
  | [], us, H, H', H1, d, h, ha => by
    simp only [takeL, Option.some.injEq, Prod.mk.injEq] at h
    obtain ⟨rfl, rfl, rfl⟩ := h
    exact ⟨H', rfl, .refl, by simp⟩
  | c :: cs, us, H, H', H1, d, h, ha => by
    simp only [takeL, Option.bind_eq_some_iff, Option.some.injEq, Prod.mk.injEq] at h
    obtain ⟨⟨u, H2, d2⟩, h1, ⟨us', H3, d3⟩, h2, rfl, rfl, rfl⟩ := h
    obtain ⟨H2', g1, g2, g5⟩ := take1_loc h1 (ha.mono fun r hr => by simp [rootsL, hr])
    obtain ⟨H3', g3, g4, g6⟩ := takeL_loc h2 (g2.agree (ha.mono fun r hr => by simp [rootsL, hr]))
    refine ⟨H3', by simp [takeL, g1, g3], g2.trans g4, fun r hr => ?_⟩
    rw [prs_app] at hr
    simp only [rootsL, List.mem_append] at hr ⊢
    exact hr.imp (g5 r) (g6 r)

mutual
theorem noref_rootsT : ∀ u : TV, noref u = true → rootsT u = []
  | .fn g cs, h => by simp only [noref] at h; simp only [rootsT]; exact noref_rootsL cs h
  | .rf .., h => by cases h
  | .pt .., h => by cases h
  | .ag _, h => by cases h
  | .tu _, h => by cases h
  | .junk, h => by cases h
  | .b _, _ => rfl
  | .i _ _, _ => rfl
  | .f _, _ => rfl
  | .s _, _ => rfl
  | .np, _ => rfl
  | .pin _, _ => rfl
  | .sl _ _ _, _ => rfl
  | .po _ _, _ => rfl
theorem noref_rootsL : ∀ us : List TV, norefL us = true → rootsL us = []
  | [], _ => rfl
  | u :: us, h => by
    simp only [norefL, Bool.and_eq_true] at h
    simp only [rootsL]; rw [noref_rootsT u h.1, noref_rootsL us h.2]; rfl
end

theorem rootsT_toRef (s : Nat × Nat) (t : Path) (u : TV) : ∀ r ∈ rootsT (toRef (s :: t) u), r = s.1 := by
  intro r hr
  cases u with
  | sl o z es =>
    cases o with
    | true => simpa [toRef, rootsT] using hr
    | false => simp [toRef, rootsT] at hr
  | po o cs =>
    cases o with
    | true => simpa [toRef, rootsT] using hr
    | false => simp [toRef, rootsT] at hr
  | fn g cs =>
    simp only [toRef] at hr
    split at hr
    · rename_i h
      have := noref_rootsL cs h
      simp [rootsT, this] at hr
    · simp [rootsT] at hr
  | _ => simp [toRef, rootsT] at hr

theorem rootsL_refs (s : Nat × Nat) (t : Path) (i : Nat) : ∀ (cs : List TV) (f : Nat), ∀ r ∈ rootsL (refsFrom (s :: t) i f cs), r = s.1
  | [], f, r, h => by simp [refsFrom, rootsL] at h
  | u :: us, f, r, h => by
    simp only [refsFrom, rootsL, List.mem_append] at h
    rcases h with h | h
    · exact rootsT_toRef s (t ++ [(i, f)]) u r h
    · exact rootsL_refs s t i us (f + 1) r h

theorem takeRows_loc {s : Nat × Nat} {t : Path} : ∀ {es es' : List (List TV)} {i : Nat} {H H' H1 : Hp} {d : List Path}, takeRows (s :: t) i es H = some (es', H1, d) → Agree [s.1] H H' →
    ∃ H1', takeRows (s :: t) i es H' = some (es', H1', d) ∧ TakeLoc H H' H1 d H1' ∧ ∀ r ∈ prs d, r = s.1
  | [], es', i, H, H', H1, d, h, ha => by
    simp only [takeRows, Option.some.injEq, Prod.mk.injEq] at h
    obtain ⟨rfl, rfl, rfl⟩ := h
    exact ⟨H', rfl, .refl, by simp⟩
  | e :: es, es', i, H, H', H1, d, h, ha => by
    simp only [takeRows, Option.bind_eq_some_iff, Option.some.injEq, Prod.mk.injEq] at h
    obtain ⟨⟨u, H2, d2⟩, h1, ⟨us', H3, d3⟩, h2, rfl, rfl, rfl⟩ := h
    obtain ⟨H2', g1, g2, g5⟩ := takeL_loc h1 (ha.mono fun r hr => by simp [rootsL_refs s t i e 0 r hr])
    obtain ⟨H3', g3, g4, g6⟩ := takeRows_loc h2 (g2.agree ha)
    refine ⟨H3', by simp [takeRows, g1, g3], g2.trans g4, fun r hr => ?_⟩
    rw [prs_app] at hr
    rcases List.mem_append.1 hr with hr | hr
    · exact rootsL_refs s t i e 0 r (g5 r hr)
    · exact g6 r hr

theorem srcT_loc {x : TV} {z : Nat} {es : List (List TV)} {d : List Path} (h : srcT H x = some (z, es, H1, d)) (ha : Agree (rootsT x) H H') :
    ∃ H1', srcT H' x = some (z, es, H1', d) ∧ TakeLoc H H' H1 d H1' ∧ ∀ r ∈ prs d, r ∈ rootsT x := by
  unfold srcT at h ⊢
  split at h
  · rename_i p off len
    have e : rootsT (.rf p off len) = pr p := rfl
    rw [e] at ha
    rw [cellAt_loc ha]
    split at h
    case h_2 => cases h
    rename_i z' es0 hc
    split at h
    · rename_i hn
      simp only [Option.some.injEq, Prod.mk.injEq] at h
      obtain ⟨rfl, rfl, rfl, rfl⟩ := h
      rw [if_pos hn]
      exact ⟨H', rfl, .refl, by simp⟩
    · rename_i hn
      rw [if_neg hn]
      simp only [Option.map_eq_some_iff, Prod.mk.injEq] at h
      obtain ⟨⟨es', H5, d5⟩, ht, rfl, rfl, rfl, rfl⟩ := h
      cases p with
      | nil => cases hc
      | cons s t =>
        obtain ⟨H1', g1, g2, g3⟩ := takeRows_loc ht (by simpa using ha)
        exact ⟨H1', by simp [g1], g2, fun r hr => by simp [rootsT, g3 r hr]⟩
  · split at h
    case isFalse => cases h
    rename_i hn
    rw [if_pos hn]
    simp only [Option.some.injEq, Prod.mk.injEq] at h
    obtain ⟨rfl, rfl, rfl, rfl⟩ := h
    exact ⟨H', rfl, .refl, by simp⟩
  · simp only [Option.some.injEq, Prod.mk.injEq] at h
    obtain ⟨rfl, rfl, rfl, rfl⟩ := h
    exact ⟨H', rfl, .refl, by simp⟩
  · cases h

/-! ### reading told -/
mutual
theorem roT_loc : ∀ (u : TV) (n : Nat), Agree (rootsT u) H H' → roT H' n u = roT H n u
  | .rf p off len, n, h => by
    have h : Agree (pr p) H H' := h
    simp only [roT, cellAt_loc h]
  | .pt p i f, n, h => by
    have h : Agree (pr p) H H' := h
    simp only [roT, rowAt_loc h]
  | .ag cs, n, h => by simp only [roT]; rw [roL_loc cs n h]
  | .fn g cs, n, h => by simp only [roT]; rw [roL_loc cs 0 h]
  | .tu _, _, _ => rfl
  | .b _, _, _ => rfl
  | .i _ _, _, _ => rfl
  | .f _, _, _ => rfl
  | .s _, _, _ => rfl
  | .np, _, _ => rfl
  | .sl true _ [], _, _ => rfl
  | .sl true _ (_ :: _), _, _ => rfl
  | .sl false _ _, _, _ => rfl
  | .po true _, _, _ => rfl
  | .po false _, _, _ => rfl
  | .junk, _, _ => rfl
  | .pin _, _, _ => rfl
theorem roL_loc : ∀ (us : List TV) (n : Nat), Agree (rootsL us) H H' → roL H' n us = roL H n us
  | [], _, _ => rfl
  | u :: us, n, h => by
    simp only [roL]
    rw [roT_loc u n (h.mono fun r hr => by simp [rootsL, hr]), roL_loc us n (h.mono fun r hr => by simp [rootsL, hr])]
end

theorem takeArgs_loc : ∀ {ms : List Mode} {as : List (TV × Nat)} {H H' H1 : Hp} {tk : List TV} {ds : List Path} {ps : List (Option Path)}, takeArgs H ms as = some (tk, H1, ds, ps) → Agree (rootsL (as.map (·.1))) H H' →
    ∃ H1', takeArgs H' ms as = some (tk, H1', ds, ps) ∧ TakeLoc H H' H1 ds H1' ∧ (∀ r ∈ prs ds, r ∈ rootsL (as.map (·.1)))
  | [], [], H, H', H1, tk, ds, ps, h, ha => by
    simp only [takeArgs, Option.some.injEq, Prod.mk.injEq] at h
    obtain ⟨rfl, rfl, rfl, rfl⟩ := h
    exact ⟨H', rfl, .refl, by simp⟩
  | .ro :: ms, (u, n) :: as, H, H', H1, tk, ds, ps, h, ha => by
    simp only [takeArgs, Option.bind_eq_some_iff, Option.some.injEq, Prod.mk.injEq] at h
    obtain ⟨⟨tk', H2, ds', ps'⟩, h1, rfl, rfl, rfl, rfl⟩ := h
    obtain ⟨H1', g1, g2, g3⟩ := takeArgs_loc h1 (ha.mono fun r hr => by simp [rootsL, hr])
    exact ⟨H1', by simp [takeArgs, g1], g2, fun r hr => by simp [rootsL, g3 r hr]⟩
  | .own :: ms, (u, n) :: as, H, H', H1, tk, ds, ps, h, ha => by
    simp only [takeArgs, Option.bind_eq_some_iff, Option.some.injEq, Prod.mk.injEq] at h
    obtain ⟨⟨us, H2, d2⟩, h1, ⟨tk', H3, ds', ps'⟩, h2, rfl, rfl, rfl, rfl⟩ := h
    have hru : ∀ r ∈ rootsL (cellsT u), r ∈ rootsT u := by
      intro r hr
      cases u <;> first | exact hr | simpa [cellsT, rootsL] using hr
    obtain ⟨H2', g1, g2, g5⟩ := takeL_loc h1 (ha.mono fun r hr => by simp [rootsL, hru r hr])
    obtain ⟨H3', g3, g4, g6⟩ := takeArgs_loc h2 (g2.agree (ha.mono fun r hr => by simp [rootsL, hr]))
    refine ⟨H3', by simp only [takeArgs, g1, Option.bind_some, g3], g2.trans g4, fun r hr => ?_⟩
    rw [prs_app] at hr
    simp only [List.map_cons, rootsL, List.mem_append]
    rcases List.mem_append.1 hr with hr | hr
    · exact .inl (hru r (g5 r hr))
    · exact .inr (g6 r hr)
  | [], _ :: _, _, _, _, _, _, _, h, _ => by simp [takeArgs] at h
  | m :: _, [], _, _, _, _, _, _, h, _ => by cases m <;> simp [takeArgs] at h

theorem roArgs_loc : ∀ {ms : List Mode} {as : List (TV × Nat)} {tk : List TV} {H H' : Hp}, Agree (rootsL (as.map (·.1))) H H' → roArgs H' ms as tk = roArgs H ms as tk
  | [], [], [], _, _, _ => rfl
  | .ro :: ms, (u, n) :: as, t :: tk, H, H', h => by
    simp only [roArgs]
    rw [roT_loc u n (h.mono fun r hr => by simp [rootsL, hr]), roArgs_loc (h.mono fun r hr => by simp [rootsL, hr])]
  | .own :: ms, (u, n) :: as, t :: tk, H, H', h => by
    simp only [roArgs]
    rw [roArgs_loc (h.mono fun r hr => by simp [rootsL, hr])]
  | [], _ :: _, _, _, _, _ => by simp [roArgs]
  | [], [], _ :: _, _, _, _ => by simp [roArgs]
  | m :: _, [], _, _, _, _ => by cases m <;> simp [roArgs]
  | m :: _, _ :: _, [], _, _, _ => by cases m <;> simp [roArgs]

theorem backOk_loc {G G1 G' G1' : Hp} : ∀ {ps : List (Option Path)} {os : List (Option TV)}, (∀ p, some p ∈ ps → Agree (pr p) G G' ∧ Agree (pr p) G1 G1') → backOk G G1 ps os → backOk G' G1' ps os
  | some p :: ps, some u :: os, ha, h => by
    obtain ⟨⟨h1, h2, h3⟩, h4⟩ := h
    obtain ⟨a1, a2⟩ := ha p (by simp)
    exact ⟨⟨by rw [shapeAt_loc a1]; exact h1, by rw [cellAt_loc a2]; exact h2, h3⟩, backOk_loc (fun p hp => ha p (List.mem_cons_of_mem _ hp)) h4⟩
  | none :: ps, some u :: os, ha, h => backOk_loc (ps := ps) (os := os) (fun p hp => ha p (List.mem_cons_of_mem _ hp)) h
  | some p :: ps, none :: os, ha, h => backOk_loc (ps := ps) (os := os) (fun p hp => ha p (List.mem_cons_of_mem _ hp)) h
  | none :: ps, none :: os, ha, h => backOk_loc (ps := ps) (os := os) (fun p hp => ha p (List.mem_cons_of_mem _ hp)) h
  | [], [], _, _ => trivial
  | [], _ :: _, _, h => by simp [backOk] at h
  | some _ :: _, [], _, h => by simp [backOk] at h
  | none :: _, [], _, h => by simp [backOk] at h

/-- Putting back turns roots that were taken from. -/
theorem putBack_loc {d : List Path} : ∀ {bks : List (Option Path)} {us : List TV} {H H' H1 H1' : Hp}, TakeLoc H H' H1 d H1' → (∀ p, some p ∈ bks → p ∈ d) → TakeLoc H H' (putBack H1 bks us) d (putBack H1' bks us)
  | [], us, H, H', H1, H1', h, _ => by simpa [putBack] using h
  | none :: bks, [], H, H', H1, H1', h, _ => by simpa [putBack] using h
  | some p :: bks, [], H, H', H1, H1', h, _ => by simpa [putBack] using h
  | none :: bks, u :: us, H, H', H1, H1', h, hb => by
    simp only [putBack]
    exact putBack_loc h fun p hp => hb p (List.mem_cons_of_mem _ hp)
  | some p :: bks, u :: us, H, H', H1, H1', h, hb => by
    simp only [putBack]
    refine putBack_loc ?_ fun p hp => hb p (List.mem_cons_of_mem _ hp)
    have hp := hb p (by simp)
    have hne := h.ne p hp
    cases p with
    | nil => exact absurd rfl hne
    | cons s t =>
      have hs := prs_mem hp
      refine ⟨fun r => ⟨fun hr => ?_, fun hr => ?_⟩, fun r hr => ?_, h.ne⟩
      · simp only [modH]
        split
        · rename_i h2; subst h2; rw [(h.mix s.1).1 hs]
        · exact (h.mix r).1 hr
      · have : r ∉ pr (s :: t) := by simp; rintro rfl; exact hr hs
        rw [modH_off this]; exact (h.mix r).2 hr
      · have : r ∉ pr (s :: t) := by simp; rintro rfl; exact hr hs
        rw [modH_off this]; exact h.off r hr
end
end Go.Proofs.YtloodkhdngipbaaT
