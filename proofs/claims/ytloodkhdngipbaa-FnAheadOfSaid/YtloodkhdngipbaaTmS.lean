/- TM, part S: what comes back from a call, and where it goes. -/
import Derived.Test.YtloodkhdngipbaaTmR
namespace Go.Proofs.YtloodkhdngipbaaT
set_option linter.unusedVariables false
set_option linter.unusedSimpArgs false
open Go

section
variable {P : Program} {F : Fr} {st : St} {w w' w0 : World} {S0 : Nat → Nat → Prop} {κ κ' κ1 : Path → Value} {γ γ' γ1 : Nat → Nat → Option Path} {H H' H1 : Hp} {A A' K : Nat → Nat → Prop} {L : List TV} {o : Oper} {E : Eff} {root : Nat}

theorem backOk_len : ∀ (ps : List (Option Path)) (os : List (Option TV)), backOk H H1 ps os → ps.length = os.length ∧ (backsOf ps os).length = os.length
  | [], [], _ => ⟨rfl, rfl⟩
  | p :: ps, none :: os, h => by
    have h' : backOk H H1 ps os := by cases p <;> exact h
    obtain ⟨h1, h2⟩ := backOk_len ps os h'
    exact ⟨by simp [h1], by simp [backsOf, h2]⟩
  | p :: ps, some u :: os, h => by
    have h' : backOk H H1 ps os := by cases p with
      | none => exact h
      | some p => exact h.2
    obtain ⟨h1, h2⟩ := backOk_len ps os h'
    exact ⟨by simp [h1], by simp [backsOf, h2]⟩
  | [], _ :: _, h => by simp [backOk] at h
  | _ :: _, [], h => by simp [backOk] at h

theorem backOk_at : ∀ (ps : List (Option Path)) (os : List (Option TV)), backOk H H1 ps os → ∀ (j : Nat) (p : Path), (backsOf ps os)[j]? = some (some p) →
    ps[j]? = some (some p) ∧ (cellAt H1 p).isSome = true ∧ ∃ u, os[j]? = some (some u) ∧ shape u = shapeAt H p
  | [], [], _, j, p, hj => by simp [backsOf] at hj
  | q :: ps, none :: os, h, j, p, hj => by
    have h' : backOk H H1 ps os := by cases q <;> exact h
    cases j with
    | zero => simp [backsOf] at hj
    | succ j => simpa using backOk_at ps os h' j p (by simpa [backsOf] using hj)
  | q :: ps, some u :: os, h, j, p, hj => by
    have h' : backOk H H1 ps os := by cases q with
      | none => exact h
      | some q => exact h.2
    cases j with
    | zero =>
      simp only [backsOf, List.getElem?_cons_zero, Option.some.injEq] at hj
      subst hj
      exact ⟨rfl, h.1.2.1, u, rfl, h.1.1⟩
    | succ j => simpa using backOk_at ps os h' j p (by simpa [backsOf] using hj)
  | [], _ :: _, h, _, _, _ => by simp [backOk] at h
  | _ :: _, [], h, _, _, _ => by simp [backOk] at h

theorem backOk_ne : ∀ (ps : List (Option Path)) (os : List (Option TV)), backOk H H1 ps os → ∀ (j k : Nat) (p p' : Path), j < k → (backsOf ps os)[j]? = some (some p) → (backsOf ps os)[k]? = some (some p') → p ≠ p'
  | [], [], _, j, k, p, p', _, hj, _ => by simp [backsOf] at hj
  | q :: ps, none :: os, h, j, k, p, p', hjk, hj, hk => by
    have h' : backOk H H1 ps os := by cases q <;> exact h
    obtain ⟨k, rfl⟩ : ∃ k', k = k' + 1 := ⟨k - 1, by omega⟩
    cases j with
    | zero => simp [backsOf] at hj
    | succ j => exact backOk_ne ps os h' j k p p' (by omega) (by simpa [backsOf] using hj) (by simpa [backsOf] using hk)
  | q :: ps, some u :: os, h, j, k, p, p', hjk, hj, hk => by
    have h' : backOk H H1 ps os := by cases q with
      | none => exact h
      | some q => exact h.2
    obtain ⟨k, rfl⟩ : ∃ k', k = k' + 1 := ⟨k - 1, by omega⟩
    cases j with
    | zero =>
      simp only [backsOf, List.getElem?_cons_zero, Option.some.injEq] at hj
      subst hj
      rintro rfl
      exact h.1.2.2 (List.mem_of_getElem? (by simpa [backsOf] using hk))
    | succ j => exact backOk_ne ps os h' j k p p' (by omega) (by simpa [backsOf] using hj) (by simpa [backsOf] using hk)
  | [], _ :: _, h, _, _, _, _, _, _, _ => by simp [backOk] at h
  | _ :: _, [], h, _, _, _, _, _, _, _ => by simp [backOk] at h

theorem down_modd_self (φ : TV → TV) : ∀ (r : Path) (u : TV), down (modd φ r u) r = (down u r).map φ
  | [], u => rfl
  | s :: r, u => by
    simp only [down, modd, kid_upk_same]
    cases kid u s with
    | none => rfl
    | some x => simpa using down_modd_self φ r x

theorem cellAt_modH_self (φ : TV → TV) (p : Path) : cellAt (modH H φ p) p = (cellAt H p).map φ := by
  cases p with
  | nil => rfl
  | cons s r =>
    simp only [cellAt]
    rw [modH_get]
    simp only [if_true]
    cases (H s.1)[s.2]? with
    | none => rfl
    | some x => simpa using down_modd_self φ r x

theorem down_modd_apart (φ : TV → TV) : ∀ (r q : Path) (u : TV), ¬ r <+: q → ¬ q <+: r → down (modd φ r u) q = down u q
  | [], q, u, h, _ => absurd List.nil_prefix h
  | s :: r, [], u, _, h => absurd List.nil_prefix h
  | s :: r, s' :: q, u, h, h' => by
    simp only [down, modd]
    by_cases hs : s' = s
    · subst hs
      rw [kid_upk_same]
      cases kid u s' with
      | none => rfl
      | some x => simpa using down_modd_apart φ r q x (fun hh => h (by simpa using hh)) (fun hh => h' (by simpa using hh))
    · rw [kid_upk_ne _ _ _ _ hs]

theorem cellAt_modH_apart (φ : TV → TV) (p q : Path) (h : ¬ p <+: q) (h' : ¬ q <+: p) : cellAt (modH H φ p) q = cellAt H q := by
  cases p with
  | nil => exact absurd List.nil_prefix h
  | cons s r =>
    cases q with
    | nil => rfl
    | cons s' q =>
      simp only [cellAt]
      rw [modH_get]
      by_cases hs : s' = s
      · subst hs
        simp only [if_true]
        cases (H s'.1)[s'.2]? with
        | none => rfl
        | some x => simpa using down_modd_apart φ r q x (fun hh => h (by simpa using hh)) (fun hh => h' (by simpa using hh))
      · simp [hs]

theorem putBack_apart : ∀ (bks : List (Option Path)) (us : List TV) (H : Hp) (q : Path), (∀ p, some p ∈ bks → ¬ p <+: q ∧ ¬ q <+: p) → cellAt (putBack H bks us) q = cellAt H q
  | [], us, H, q, _ => by simp [putBack]
  | none :: bks, [], H, q, _ => by simp [putBack]
  | some p :: bks, [], H, q, _ => by simp [putBack]
  | none :: bks, u :: us, H, q, h => by
    simp only [putBack]
    exact putBack_apart bks us H q fun p hp => h p (List.mem_cons_of_mem _ hp)
  | some p :: bks, u :: us, H, q, h => by
    simp only [putBack]
    rw [putBack_apart bks us _ q fun p hp => h p (List.mem_cons_of_mem _ hp)]
    exact cellAt_modH_apart _ _ _ (h p (by simp)).1 (h p (by simp)).2

theorem putBack_at : ∀ (bks : List (Option Path)) (us : List TV) (H : Hp), (∀ (j k : Nat) (p p' : Path), j < k → bks[j]? = some (some p) → bks[k]? = some (some p') → ¬ p <+: p' ∧ ¬ p' <+: p) →
    ∀ (j : Nat) (p : Path) (u : TV), bks[j]? = some (some p) → us[j]? = some u → (cellAt H p).isSome = true → cellAt (putBack H bks us) p = some u
  | [], us, H, _, j, p, u, hj, _, _ => by simp at hj
  | b :: bks, [], H, _, j, p, u, _, hu, _ => by simp at hu
  | none :: bks, x :: us, H, h, j, p, u, hj, hu, hc => by
    cases j with
    | zero => simp at hj
    | succ j =>
      simp only [putBack]
      exact putBack_at bks us H (fun j k p p' hjk h1 h2 => h (j + 1) (k + 1) p p' (by omega) (by simpa using h1) (by simpa using h2)) j p u (by simpa using hj) (by simpa using hu) hc
  | some q :: bks, x :: us, H, h, j, p, u, hj, hu, hc => by
    simp only [putBack]
    cases j with
    | zero =>
      simp only [List.getElem?_cons_zero, Option.some.injEq] at hj hu
      subst hj; subst hu
      rw [putBack_apart]
      · rw [cellAt_modH_self]
        obtain ⟨y, hy⟩ := Option.isSome_iff_exists.1 hc
        rw [hy]; rfl
      · intro p hp
        obtain ⟨k, hk⟩ := List.getElem?_of_mem hp
        exact ⟨(h 0 (k + 1) q p (by omega) rfl (by simpa using hk)).2, (h 0 (k + 1) q p (by omega) rfl (by simpa using hk)).1⟩
    | succ j =>
      refine putBack_at bks us _ (fun j k p p' hjk h1 h2 => h (j + 1) (k + 1) p p' (by omega) (by simpa using h1) (by simpa using h2)) j p u (by simpa using hj) (by simpa using hu) ?_
      rw [cellAt_modH_some _ _ _ (h 0 (j + 1) q p (by omega) rfl (by simpa using hj)).1]
      exact hc

theorem modH_setRoot (φ : TV → TV) (p : Path) (cells : List TV) (h : ∀ j r, p ≠ (root, j) :: r) : modH (setRoot H root cells) φ p = setRoot (modH H φ p) root cells := by
  cases p with
  | nil => rfl
  | cons s r =>
    have hs : s.1 ≠ root := by intro hh; exact h s.2 r (by rw [← hh])
    funext y
    simp only [modH, setRoot]
    by_cases hy : y = s.1
    · subst hy; simp [hs]
    · simp [hy]

theorem putBack_setRoot (cells : List TV) : ∀ (bks : List (Option Path)) (us : List TV) (H : Hp), (∀ p, some p ∈ bks → ∀ j r, p ≠ (root, j) :: r) → putBack (setRoot H root cells) bks us = setRoot (putBack H bks us) root cells
  | [], us, H, _ => by simp [putBack]
  | none :: bks, [], H, _ => by simp [putBack]
  | some p :: bks, [], H, _ => by simp [putBack]
  | none :: bks, u :: us, H, h => by
    simp only [putBack]
    exact putBack_setRoot cells bks us H fun p hp => h p (List.mem_cons_of_mem _ hp)
  | some p :: bks, u :: us, H, h => by
    simp only [putBack]
    rw [modH_setRoot _ _ _ (h p (by simp))]
    exact putBack_setRoot cells bks us _ fun p hp => h p (List.mem_cons_of_mem _ hp)

theorem putBack_nil {r : Nat} : ∀ (bks : List (Option Path)) (us : List TV) (H : Hp), H r = [] → putBack H bks us r = []
  | [], us, H, h => by simpa [putBack] using h
  | none :: bks, [], H, h => by simpa [putBack] using h
  | some p :: bks, [], H, h => by simpa [putBack] using h
  | none :: bks, u :: us, H, h => by
    simp only [putBack]
    exact putBack_nil bks us H h
  | some p :: bks, u :: us, H, h => by
    simp only [putBack]
    exact putBack_nil bks us _ (modH_nil _ h)

/-- The header of what is given whole. -/
theorem rv_head {c u : TV} {y : Value} {p q : Path} (hv : RV w κ H A c y) (hp : pathOf c = some p) (ht : TR w' κ' γ' A' q u y) (hs : shape u = shapeAt H p) : (shape u).isSome = true ∧ κ p = y := by
  unfold pathOf at hp
  split at hp
  · rename_i q0 len
    simp only [Option.some.injEq] at hp; subst hp
    cases hv with
    | pure u v h => cases h
    | rf0 p z off hk hc => exact ⟨by rw [hs, hc]; rfl, hk⟩
    | rf p z n c B o off len' hk hc hb hn =>
      rw [hc] at hs
      refine ⟨by rw [hs]; rfl, ?_⟩
      generalize hy : Value.slice (some ⟨B, o + 0 * z, none⟩) len (c - 0) = y at ht
      cases ht with
      | pure p u v h => rw [h.noshape] at hs; cases hs
      | sl0 p z' hk' => cases hy
      | sl p z' n' c' B' o' es arr T hk' hl =>
        simp only [shape, Option.some.injEq, Prod.mk.injEq, true_and] at hs
        cases hy
        rw [hk]
        simp only [Nat.zero_mul, Nat.add_zero, Nat.sub_zero]
        rw [← hl, hs.2]
      | po p B' o' cs arr T hk' => cases hy
    | rfE p z n c B o off o1 c1 hk hc g1 g2 g3 => exact absurd rfl g3
  · simp only [Option.some.injEq] at hp; subst hp
    cases hv with
    | pure u v h => cases h
    | ptS p z n c B o i f hk hc hi hf =>
      rw [hc] at hs
      refine ⟨by rw [hs]; rfl, ?_⟩
      generalize hy : Value.pointer (some ⟨B, o + 0 * z + 0, none⟩) = y at ht
      cases ht with
      | pure p u v h => rw [h.noshape] at hs; cases hs
      | sl0 p z' hk' => cases hy
      | sl p z' n' c' B' o' es arr T hk' hl => cases hy
      | po p B' o' cs arr T hk' => simp [shape] at hs
    | ptP p B o f n hk hc hf =>
      rw [hc] at hs
      exact ⟨by rw [hs]; rfl, by rw [hk]; rfl⟩
  · cases hp
end
end Go.Proofs.YtloodkhdngipbaaT
