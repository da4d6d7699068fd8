/- TM, part R: what was lent, all of it put back. -/
import Derived.Test.YtloodkhdngipbaaTmQ
namespace Go.Proofs.YtloodkhdngipbaaT
set_option linter.unusedVariables false
set_option linter.unusedSimpArgs false
open Go

section
variable {P : Program} {F : Fr} {st : St} {w w' w0 : World} {S0 : Nat → Nat → Prop} {κ κ' κ1 : Path → Value} {γ γ' γ1 : Nat → Nat → Option Path} {H H' H1 : Hp} {A A' K : Nat → Nat → Prop} {L : List TV} {o : Oper} {E : Eff} {root : Nat}

theorem cellAddr_shape {k : Value} {nd nd' : TV} {s : Nat × Nat} (h : shape nd = shape nd') : cellAddr k nd s = cellAddr k nd' s := by
  cases nd with
  | sl o1 z1 e1 =>
    cases o1 with
    | true =>
      cases nd' with
      | sl o2 z2 e2 => cases o2 <;> simp [shape] at h; obtain ⟨rfl, _⟩ := h; cases k <;> first | rfl | (rename_i a _ _; cases a <;> rfl)
      | po o2 e2 => cases o2 <;> simp [shape] at h
      | _ => simp [shape] at h
    | false =>
      cases nd' with
      | sl o2 z2 e2 => cases o2 <;> first | rfl | simp [shape] at h
      | po o2 e2 => cases o2 <;> first | rfl | simp [shape] at h
      | _ => rfl
  | po o1 e1 =>
    cases o1 with
    | true =>
      cases nd' with
      | sl o2 z2 e2 => cases o2 <;> simp [shape] at h
      | po o2 e2 => cases o2 <;> simp [shape] at h; cases k <;> first | rfl | (rename_i a; cases a <;> rfl)
      | _ => simp [shape] at h
    | false =>
      cases nd' with
      | sl o2 z2 e2 => cases o2 <;> first | rfl | simp [shape] at h
      | po o2 e2 => cases o2 <;> first | rfl | simp [shape] at h
      | _ => rfl
  | _ =>
    cases nd' with
    | sl o2 z2 e2 => cases o2 <;> first | rfl | simp [shape] at h
    | po o2 e2 => cases o2 <;> first | rfl | simp [shape] at h
    | _ => rfl

theorem down_modd_some (φ : TV → TV) : ∀ (r q : Path) (u : TV), ¬ r <+: q → (down (modd φ r u) q).isSome = (down u q).isSome := by
  intro r
  induction r with
  | nil => intro q u h; exact absurd (List.nil_prefix) h
  | cons s r ih =>
    intro q u h
    cases q with
    | nil => simp [down]
    | cons s' q =>
      simp only [down, modd]
      by_cases hs : s' = s
      · subst hs
        rw [kid_upk_same]
        have h' : ¬ r <+: q := fun hh => h (by simpa using hh)
        cases kid u s' with
        | none => rfl
        | some x => simpa using ih q x h'
      · rw [kid_upk_ne _ _ _ _ hs]

theorem cellAt_modH_some (φ : TV → TV) (t q : Path) (h : ¬ t <+: q) : (cellAt (modH H φ t) q).isSome = (cellAt H q).isSome := by
  cases t with
  | nil => exact absurd (List.nil_prefix) h
  | cons s r =>
    cases q with
    | nil => rfl
    | cons s' q =>
      simp only [cellAt]
      rw [modH_get]
      by_cases hs : s' = s
      · subst hs
        simp only [if_true]
        have h' : ¬ r <+: q := fun hh => h (by simpa using hh)
        cases (H s'.1)[s'.2]? with
        | none => rfl
        | some x => simpa using down_modd_some φ r q x h'
      · simp [hs]

/-- The model's cell at a place holds the place's value. -/
def Conc (w : World) (κ : Path → Value) (H : Hp) (p : Path) : Prop :=
  ∀ pn s nd, p = pn ++ [s] → cellAt H pn = some nd → ∀ B off arr T, cellAddr (κ pn) nd s = some (B, off) → w.heap[B]? = some (.cells arr T (0, 0)) → (arr[off]?).getD undef = κ p

theorem Conc.mod {p t : Path} {φ : TV → TV} (h : Conc w κ H p) (hn : ¬ t <+: p) (hκ : ∀ q, ¬ t <+: q → κ' q = κ q) : Conc w κ' (modH H φ t) p := by
  intro pn s nd hp hc B off arr T ha hb
  have hn2 : ¬ t <+: pn := fun hh => hn (by rw [hp]; exact hh.trans (List.prefix_append _ _))
  have hs := shapeAt_modH H φ t pn hn2
  rw [hκ pn hn2] at ha
  rw [hκ p hn]
  have hsome := cellAt_modH_some (H := H) φ t pn hn2
  rw [hc] at hsome
  obtain ⟨nd0, h0⟩ := Option.isSome_iff_exists.1 hsome.symm
  simp only [shapeAt, hc, h0, Option.bind_some] at hs
  exact h pn s nd0 hp h0 B off arr T (by rw [cellAddr_shape hs.symm]; exact ha) hb

theorem putBack_ok : ∀ (bks : List (Option Path)) (outs : List TV) (bs : List Nat) (L : List TV) (H : Hp) (κ : Path → Value) (γ : Nat → Nat → Option Path), HR w0 S0 A w κ γ (wr0 H L) → H 0 = [] →
    bks.length = outs.length → bks.length = bs.length →
    (∀ (j : Nat) (p : Path) (c : Nat) (u : TV), bks[j]? = some (some p) → bs[j]? = some c → outs[j]? = some u → L[c]? = some u ∧ κ [(0, c)] = κ p ∧ (cellAt H p).isSome = true ∧ Conc w κ H p) →
    (∀ (j k : Nat) (p p' : Path), j < k → bks[j]? = some (some p) → bks[k]? = some (some p') → ¬ p <+: p' ∧ bs[j]? ≠ bs[k]?) →
    ∃ κ' γ' L', HR w0 S0 A w κ' γ' (wr0 (putBack H bks outs) L') ∧ (putBack H bks outs) 0 = [] ∧ (∀ q, (∀ p, some p ∈ bks → ¬ p <+: q ∨ q = p) → (∀ p, some p ∈ bks → p <+: q → q = p) → κ' q = κ q) ∧
      (∀ q, (∀ p, some p ∈ bks → ¬ p <+: q) → shapeAt (putBack H bks outs) q = shapeAt H q)
  | [], outs, bs, L, H, κ, γ, h, h0, hl, hl2, hi, hd => by
    have : outs = [] := List.eq_nil_of_length_eq_zero (by simpa using hl.symm)
    subst this
    exact ⟨κ, γ, L, h, h0, fun _ _ _ => rfl, fun _ _ => rfl⟩
  | none :: bks, u :: outs, c :: bs, L, H, κ, γ, h, h0, hl, hl2, hi, hd => by
    obtain ⟨κ', γ', L', g1, g2, g3, g4⟩ := putBack_ok bks outs bs L H κ γ h h0 (by simpa using hl) (by simpa using hl2) (fun j p c u h1 h2 h3 => hi (j + 1) p c u (by simpa using h1) (by simpa using h2) (by simpa using h3))
      (fun j k p p' hjk h1 h2 => by simpa using hd (j + 1) (k + 1) p p' (by omega) (by simpa using h1) (by simpa using h2))
    exact ⟨κ', γ', L', g1, g2, fun q hq hq' => g3 q (fun p hp => hq p (List.mem_cons_of_mem _ hp)) (fun p hp => hq' p (List.mem_cons_of_mem _ hp)), fun q hq => g4 q fun p hp => hq p (List.mem_cons_of_mem _ hp)⟩
  | some p :: bks, u :: outs, c :: bs, L, H, κ, γ, h, h0, hl, hl2, hi, hd => by
    obtain ⟨i1, i2, i3, i4⟩ := hi 0 p c u rfl rfl rfl
    obtain ⟨κ1, γ1, e1, e2, e3⟩ := h.putback1 h0 i1 i3 i2 i4
    have n0 : ∀ c', ¬ p <+: [(0, c')] := by
      rintro c' ⟨t, ht⟩
      obtain ⟨x, hx⟩ := Option.isSome_iff_exists.1 i3
      cases p with
      | nil => cases hx
      | cons s r =>
        simp at ht
        obtain ⟨rfl, _⟩ := ht
        exact not0_of_live h0 hx c' r rfl
    obtain ⟨κ', γ', L', g1, g2, g3, g4⟩ := putBack_ok bks outs bs _ _ κ1 γ1 e1 (modH_zero _ h0) (by simpa using hl) (by simpa using hl2)
      (fun j p' c' u' h1 h2 h3 => by
        obtain ⟨q1, q2, q3, q4⟩ := hi (j + 1) p' c' u' (by simpa using h1) (by simpa using h2) (by simpa using h3)
        obtain ⟨d1, d2⟩ := hd 0 (j + 1) p p' (by omega) rfl (by simpa using h1)
        have hcc : c ≠ c' := by rintro rfl; exact d2 (by simpa using h2.symm)
        refine ⟨?_, ?_, ?_, q4.mod d1 e3⟩
        · rw [List.getElem?_modify, q1]; simp [hcc]
        · rw [e3 _ (n0 c'), e3 _ d1]; exact q2
        · rw [cellAt_modH_some _ _ _ d1]; exact q3)
      (fun j k p p' hjk h1 h2 => by simpa using hd (j + 1) (k + 1) p p' (by omega) (by simpa using h1) (by simpa using h2))
    refine ⟨κ', γ', L', g1, g2, fun q hq hq' => ?_, fun q hq => ?_⟩
    · rw [g3 q (fun p hp => hq p (List.mem_cons_of_mem _ hp)) (fun p hp => hq' p (List.mem_cons_of_mem _ hp))]
      by_cases hpq : p <+: q
      · rw [hq' p (by simp) hpq]; exact e2
      · exact e3 q hpq
    · simp only [putBack]
      rw [g4 q fun p hp => hq p (List.mem_cons_of_mem _ hp)]
      exact shapeAt_modH _ _ _ _ (hq p (by simp))
  | _ :: _, [], _, _, _, _, _, _, _, hl, _, _, _ => by simp at hl
  | _ :: _, _ :: _, [], _, _, _, _, _, _, _, hl, _, _ => by simp at hl
end
end Go.Proofs.YtloodkhdngipbaaT
