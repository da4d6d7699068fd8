/- TM, part B: the relations kept while memory turns, while what is one's own is moved, while one cell is replaced. -/
import Derived.Test.YtloodkhdngipbaaTmA
namespace Go.Proofs.YtloodkhdngipbaaT
set_option linter.unusedVariables false
set_option linter.unusedSimpArgs false
open Go

theorem ix_lt {i f z n : Nat} (hi : i < n) (hf : f < z) : i * z + f < n * z := by
  have h1 : (i + 1) * z ≤ n * z := Nat.mul_le_mul_right z hi
  rw [Nat.add_mul] at h1; omega

theorem ix_inj {i f i' f' z : Nat} (hf : f < z) (hf' : f' < z) (h : i * z + f = i' * z + f') : i = i' ∧ f = f' := by
  rcases Nat.lt_trichotomy i i' with h1 | h1 | h1
  · have : (i + 1) * z ≤ i' * z := Nat.mul_le_mul_right z h1
    rw [Nat.add_mul] at this; omega
  · subst h1; exact ⟨rfl, by omega⟩
  · have : (i' + 1) * z ≤ i * z := Nat.mul_le_mul_right z h1
    rw [Nat.add_mul] at this; omega

theorem cell_lt {i f z n : Nat} {es : List (List TV)} {e : List TV} {u : TV} (hz : ∀ e ∈ es, e.length = z) (hl : es.length = n)
    (hi : es[i]? = some e) (hf : e[f]? = some u) : i < n ∧ f < z := by
  obtain ⟨h1, h2⟩ := List.getElem?_eq_some_iff.1 hi
  obtain ⟨h3, h4⟩ := List.getElem?_eq_some_iff.1 hf
  have := hz e (List.mem_of_getElem? hi)
  omega

section
variable {w w' : World} {A A' K : Nat → Nat → Prop}

theorem RR.keep {u : TV} {v : Value} (h : RR w A u v) (hk : Keep K w w') (hA : ∀ b o, A b o → K b o) (hA' : ∀ b o, A b o → A' b o) : RR w' A' u v := by
  induction h with
  | b x => exact .b x
  | i k n => exact .i k n
  | f x => exact .f x
  | s x => exact .s x
  | np => exact .np
  | sl0 z => exact .sl0 z
  | sle z c a => exact .sle z c a
  | junk v => exact .junk v
  | pin v h => exact .pin v h
  | fn g caps capv hl hc ih => exact .fn g caps capv hl ih
  | sl z n c B o es arr T fz hl hn hz hb hs ha hc ih =>
    obtain ⟨arr', h1, h2, h3⟩ := hk.cells B arr T fz hb
    refine .sl z n c B o es arr' T fz hl hn hz h1 (by omega) (fun k hk' => hA' _ _ (ha k hk')) fun i f e u hi hf => ?_
    obtain ⟨q1, q2⟩ := cell_lt hz hl hi hf
    have q3 := ix_lt q1 q2
    have := h3 (o + (i * z + f)) (hA _ _ (ha _ q3))
    rw [Nat.add_assoc, this, ← Nat.add_assoc]
    exact ih i f e u hi hf
  | po B o cs arr T fz hb hs ha hc ih =>
    obtain ⟨arr', h1, h2, h3⟩ := hk.cells B arr T fz hb
    refine .po B o cs arr' T fz h1 (by omega) (fun k hk' => hA' _ _ (ha k hk')) fun f u hf => ?_
    have := (List.getElem?_eq_some_iff.1 hf).1
    rw [h3 (o + f) (hA _ _ (ha _ this))]
    exact ih f u hf

theorem RR.nokid {u : TV} {v : Value} (h : RR w A u v) (s : Nat × Nat) : kid u s = none := by cases h <;> rfl
theorem RR.noshape {u : TV} {v : Value} (h : RR w A u v) : shape u = none := by cases h <;> rfl

variable {κ κ' : Path → Value} {γ γ' : Nat → Nat → Option Path}

/-- Renamed, and memory kept: what stood at p stands at p'. -/
theorem TR.ren {p : Path} {u : TV} {v : Value} (h : TR w κ γ A p u v) : ∀ (p' : Path),
    (∀ (r : Path) (nd : TV), down u r = some nd → (shape nd).isSome = true → κ' (p' ++ r) = κ (p ++ r) ∧ ∀ b o, γ b o = some (p ++ r) → γ' b o = some (p' ++ r) ∧ K b o) →
    Keep K w w' → (∀ b o, A b o → K b o) → (∀ b o, A b o → A' b o) → TR w' κ' γ' A' p' u v := by
  induction h with
  | pure p u v h => intro p' _ hk hA hA'; exact .pure p' u v (h.keep hk hA hA')
  | sl0 p z hk => intro p' hr _ _ _; exact .sl0 p' z (by have := (hr [] _ rfl rfl).1; simpa [hk] using this)
  | sl p z n c B o es arr T hk hl hn hz hb hs hg hc ih =>
    intro p' hr hkeep hA hA'
    obtain ⟨arr', h1, h2, h3⟩ := hkeep.cells B arr T (0, 0) hb
    have h0 := hr [] _ rfl rfl
    simp only [List.append_nil] at h0
    refine .sl p' z n c B o es arr' T (h0.1.trans hk) hl hn hz h1 (by omega) (fun k hk' => (h0.2 _ _ (hg k hk')).1) fun i f e u hi hf => ?_
    obtain ⟨q1, q2⟩ := cell_lt hz hl hi hf
    have q3 := ix_lt (n := c) (by omega : i < c) q2
    have := h3 (o + (i * z + f)) (h0.2 _ _ (hg _ q3)).2
    rw [Nat.add_assoc, this, ← Nat.add_assoc]
    refine ih i f e u hi hf (p' ++ [(i, f)]) (fun r nd hd hs' => ?_) hkeep hA hA'
    have := hr ((i, f) :: r) nd (by simp [down, kid, hi, hf, hd]) hs'
    simpa using this
  | po p B o cs arr T hk hb hs hg hc ih =>
    intro p' hr hkeep hA hA'
    obtain ⟨arr', h1, h2, h3⟩ := hkeep.cells B arr T (0, 0) hb
    have h0 := hr [] _ rfl rfl
    simp only [List.append_nil] at h0
    refine .po p' B o cs arr' T (h0.1.trans hk) h1 (by omega) (fun k hk' => (h0.2 _ _ (hg k hk')).1) fun f u hf => ?_
    have q := (List.getElem?_eq_some_iff.1 hf).1
    rw [h3 (o + f) (h0.2 _ _ (hg _ q)).2]
    refine ih f u hf (p' ++ [(0, f)]) (fun r nd hd hs' => ?_) hkeep hA hA'
    have := hr ((0, f) :: r) nd (by simp [down, kid, hf, hd]) hs'
    simpa using this

/-- The place of a cell of a node. -/
def cellAddr (k : Value) (nd : TV) (s : Nat × Nat) : Option (Nat × Nat) :=
  match nd, k with
  | .sl true z _, .slice (some a) _ _ => some (a.block, a.off + s.1 * z + s.2)
  | .po true _, .pointer (some a) => some (a.block, a.off + s.2)
  | _, _ => none

theorem TR.desc {p : Path} {u : TV} {v : Value} (h : TR w κ γ A p u v) : ∀ (r : Path) (u1 : TV), down u r = some u1 → ∃ v1, TR w κ γ A (p ++ r) u1 v1 := by
  induction h with
  | pure p u v h =>
    intro r u1 hd
    cases r with
    | nil => cases hd; exact ⟨v, by simpa using .pure p u v h⟩
    | cons s r => simp [down, h.nokid] at hd
  | sl0 p z hk =>
    intro r u1 hd
    cases r with
    | nil => cases hd; exact ⟨_, by simpa using .sl0 p z hk⟩
    | cons s r => simp [down, kid] at hd
  | sl p z n c B o es arr T hk hl hn hz hb hs hg hc ih =>
    intro r u1 hd
    cases r with
    | nil => cases hd; exact ⟨_, by simpa using .sl p z n c B o es arr T hk hl hn hz hb hs hg hc⟩
    | cons s r =>
      simp only [down, kid, Option.bind_eq_some_iff] at hd
      obtain ⟨u', ⟨e, he, hf⟩, hd⟩ := hd
      obtain ⟨v1, h1⟩ := ih s.1 s.2 e u' he hf r u1 hd
      exact ⟨v1, by simpa using h1⟩
  | po p B o cs arr T hk hb hs hg hc ih =>
    intro r u1 hd
    cases r with
    | nil => cases hd; exact ⟨_, by simpa using .po p B o cs arr T hk hb hs hg hc⟩
    | cons s r =>
      obtain ⟨i, f⟩ := s
      simp only [down, kid, Option.bind_eq_some_iff] at hd
      obtain ⟨u', hf, hd⟩ := hd
      split at hf
      · rename_i h0
        cases h0
        obtain ⟨v1, h1⟩ := ih f u' hf r u1 hd
        exact ⟨v1, by simpa using h1⟩
      · cases hf

/-- The cell of a node that is one's own: where it lies, and that it holds what it should. -/
theorem TR.cell {p : Path} {u u0 : TV} {v : Value} {s : Nat × Nat} (h : TR w κ γ A p u v) (hs : kid u s = some u0) :
    ∃ B off arr T, cellAddr (κ p) u s = some (B, off) ∧ γ B off = some p ∧ w.heap[B]? = some (.cells arr T (0, 0)) ∧ off < arr.size ∧
      TR w κ γ A (p ++ [s]) u0 ((arr[off]?).getD undef) := by
  cases h with
  | pure p u v h => simp [h.nokid] at hs
  | sl0 p z hk => simp [kid] at hs
  | sl p z n c B o es arr T hk hl hn hz hb hsz hg hc =>
    simp only [kid, Option.bind_eq_some_iff] at hs
    obtain ⟨e, he, hf⟩ := hs
    obtain ⟨q1, q2⟩ := cell_lt hz hl he hf
    have q3 := ix_lt (n := c) (by omega : s.1 < c) q2
    refine ⟨B, o + s.1 * z + s.2, arr, T, by simp [cellAddr, hk], ?_, hb, by omega, hc _ _ _ _ he hf⟩
    rw [Nat.add_assoc]; exact hg _ q3
  | po p B o cs arr T hk hb hsz hg hc =>
    obtain ⟨i, f⟩ := s
    simp only [kid] at hs
    split at hs
    · rename_i h0
      cases h0
      have q := (List.getElem?_eq_some_iff.1 hs).1
      exact ⟨B, o + f, arr, T, by simp [cellAddr, hk], hg _ q, hb, by omega, hc _ _ hs⟩
    · cases hs

theorem pre_ne {p : Path} {s s' : Nat × Nat} {r r' : Path} (h : s ≠ s') : ¬ (p ++ s :: r <+: p ++ s' :: r') := by
  intro hp
  rw [List.prefix_append_right_inj] at hp
  obtain ⟨t, ht⟩ := hp
  simp at ht
  exact h ht.1

theorem npre_snoc (p : Path) (s : Nat × Nat) (r : Path) : ¬ (p ++ s :: r <+: p) := by
  intro h
  have h1 := h.length_le
  simp only [List.length_append, List.length_cons] at h1
  omega

/-- A node with one kid turned into another one. -/
theorem TR.upk {p : Path} {u u1 : TV} {v : Value} {s : Nat × Nat} {φ : TV → TV} (h : TR w κ γ A p u v) (hkid : kid u s = some u1)
    (hκ : κ' p = κ p) (hγ : ∀ b o, γ b o = some p → γ' b o = some p) (hkeep : Keep K w w')
    (hK : ∀ b o, γ b o = some p → cellAddr (κ p) u s ≠ some (b, o) → K b o)
    (hnew : ∀ B off arr arr' T, cellAddr (κ p) u s = some (B, off) → w.heap[B]? = some (.cells arr T (0, 0)) → w'.heap[B]? = some (.cells arr' T (0, 0)) → γ B off = some p →
      (K B off → arr'[off]? = arr[off]?) → TR w κ γ A (p ++ [s]) u1 ((arr[off]?).getD undef) → TR w' κ' γ' A' (p ++ [s]) (φ u1) ((arr'[off]?).getD undef))
    (hother : ∀ s2 u2 v2, s2 ≠ s → kid u s2 = some u2 → TR w κ γ A (p ++ [s2]) u2 v2 → TR w' κ' γ' A' (p ++ [s2]) u2 v2) :
    TR w' κ' γ' A' p (upk φ s u) v := by
  cases h with
  | pure p u v h => simp [h.nokid] at hkid
  | sl0 p z hk => simp [kid] at hkid
  | sl p z n c B o es arr T hk hl hn hz hb hsz hg hc =>
    obtain ⟨i, f⟩ := s
    simp only [kid, Option.bind_eq_some_iff] at hkid
    obtain ⟨e0, he0, hf0⟩ := hkid
    obtain ⟨q1, q2⟩ := cell_lt hz hl he0 hf0
    obtain ⟨arr', h1, h2, h3⟩ := hkeep.cells B arr T (0, 0) hb
    have hca : cellAddr (κ p) (.sl true z es) (i, f) = some (B, o + i * z + f) := by simp [cellAddr, hk]
    refine .sl p z n c B o _ arr' T (hκ.trans hk) (by simpa using hl) hn ?_ h1 (by omega) (fun k hk' => hγ _ _ (hg k hk')) ?_
    · intro e he
      obtain ⟨j, hj⟩ := List.getElem?_of_mem he
      rw [List.getElem?_modify] at hj
      cases hes : es[j]? with
      | none => simp [hes] at hj
      | some e1 =>
        have := hz e1 (List.mem_of_getElem? hes)
        simp only [hes, Option.map_eq_map, Option.map_some, Option.some.injEq] at hj
        split at hj <;> subst hj <;> simpa using this
    · intro i' f' e u he hf
      rw [List.getElem?_modify] at he
      cases hes : es[i']? with
      | none => simp [hes] at he
      | some e1 =>
        simp only [hes, Option.map_eq_map, Option.map_some, Option.some.injEq] at he
        have old : ∀ u, e1[f']? = some u → (i', f') ≠ (i, f) → TR w' κ' γ' A' (p ++ [(i', f')]) u ((arr'[o + i' * z + f']?).getD undef) := by
          intro u hu hne
          obtain ⟨q1', q2'⟩ := cell_lt hz hl hes hu
          have q3 := ix_lt (n := c) (by omega : i' < c) q2'
          have hne2 : o + i' * z + f' ≠ o + i * z + f := by
            intro heq
            obtain ⟨x1, x2⟩ := ix_inj q2' q2 (by omega : i' * z + f' = i * z + f)
            exact hne (by rw [x1, x2])
          have := h3 (o + i' * z + f') (hK _ _ (by rw [Nat.add_assoc]; exact hg _ q3) (by rw [hca]; simp; omega))
          rw [this]
          exact hother _ _ _ hne (by simp [kid, hes, hu]) (hc i' f' e1 u hes hu)
        split at he
        · rename_i hii
          subst hii; subst he
          rw [List.getElem?_modify] at hf
          split at hf
          · rename_i hff
            subst hff
            rw [he0] at hes; cases hes
            rw [hf0] at hf; simp at hf; subst hf
            have q3 := ix_lt (n := c) (by omega : i < c) q2
            exact hnew _ _ _ _ _ hca hb h1 (by rw [Nat.add_assoc]; exact hg _ q3) (h3 _) (hc _ _ _ _ he0 hf0)
          · rename_i hff
            exact old u (by simpa using hf) (by simp; omega)
        · rename_i hii
          subst he
          exact old u hf (by simp; omega)
  | po p B o cs arr T hk hb hsz hg hc =>
    obtain ⟨i, f⟩ := s
    simp only [kid] at hkid
    split at hkid
    case isFalse => cases hkid
    rename_i h0
    cases h0
    have q1 := (List.getElem?_eq_some_iff.1 hkid).1
    have hca : cellAddr (κ p) (.po true cs) (0, f) = some (B, o + f) := by simp [cellAddr, hk]
    obtain ⟨arr', h1, h2, h3⟩ := hkeep.cells B arr T (0, 0) hb
    simp only [Go.Proofs.YtloodkhdngipbaaT.upk, if_true]
    refine .po p B o _ arr' T (hκ.trans hk) h1 (by simp; omega) (fun k hk' => hγ _ _ (hg k (by simpa using hk'))) ?_
    intro f' u hf
    rw [List.getElem?_modify] at hf
    split at hf
    · rename_i hff
      subst hff
      rw [hkid] at hf; simp at hf; subst hf
      exact hnew _ _ _ _ _ hca hb h1 (hg _ q1) (h3 _) (hc _ _ hkid)
    · rename_i hff
      have hu : cs[f']? = some u := by simpa using hf
      have q := (List.getElem?_eq_some_iff.1 hu).1
      have := h3 (o + f') (hK _ _ (hg _ q) (by rw [hca]; simp; omega))
      rw [this]
      exact hother _ _ _ (by simp; omega) (by simp [kid, hu]) (hc f' u hu)

/-- One cell replaced, deep in what is one's own. -/
theorem TR.repl {t pn : Path} {s : Nat × Nat} {nd u0 u' : TV} {B off : Nat} (ht : t = pn ++ [s]) (hkid : kid nd s = some u0)
    (hca : cellAddr (κ pn) nd s = some (B, off)) (hgc : γ B off = some pn)
    (hκ : ∀ q, ¬ t <+: q → κ' q = κ q)
    (hγ : ∀ b o q, γ b o = some q → ¬ t <+: q → (b, o) ≠ (B, off) → K b o)
    (hkeep : Keep K w w') (hA : ∀ b o, A b o → K b o) (hA' : ∀ b o, A b o → A' b o)
    (hx : ∀ arr T, w'.heap[B]? = some (.cells arr T (0, 0)) → TR w' κ' γ' A' t u' ((arr[off]?).getD undef)) :
    ∀ (r0 : Path) (p : Path) (u : TV) (v : Value), p ++ r0 = pn → TR w κ γ A p u v → down u r0 = some nd →
      (∀ (r : Path) (x : TV), down u r = some x → (shape x).isSome = true → ¬ t <+: p ++ r → ∀ b o, γ b o = some (p ++ r) → γ' b o = some (p ++ r)) →
      TR w' κ' γ' A' p (modd (fun _ => u') (r0 ++ [s]) u) v := by
  have other : ∀ (p r1 : Path) (s1 s2 : Nat × Nat) (u u2 : TV) (v2 : Value), p ++ s1 :: r1 = t → p ++ s1 :: r1 ≠ pn → s2 ≠ s1 → kid u s2 = some u2 →
      (∀ (r : Path) (x : TV), down u r = some x → (shape x).isSome = true → ¬ t <+: p ++ r → ∀ b o, γ b o = some (p ++ r) → γ' b o = some (p ++ r)) →
      TR w κ γ A (p ++ [s2]) u2 v2 → TR w' κ' γ' A' (p ++ [s2]) u2 v2 := by
    intro p r1 s1 s2 u u2 v2 htp hpn hne hk2 hg' h2
    refine h2.ren _ (fun r nd' hd' hs' => ?_) hkeep hA hA'
    have hn1 : ¬ t <+: p ++ [s2] ++ r := by rw [← htp]; simpa using pre_ne (p := p) (r := r1) (r' := r) (Ne.symm hne)
    refine ⟨hκ _ hn1, fun b o' hb' => ⟨?_, ?_⟩⟩
    · have := hg' (s2 :: r) nd' (by simp [down, hk2, hd']) hs' (by simpa using hn1) b o' (by simpa using hb')
      simpa using this
    · refine hγ _ _ _ hb' hn1 ?_
      intro hh
      simp only [Prod.mk.injEq] at hh
      obtain ⟨rfl, rfl⟩ := hh
      rw [hgc] at hb'
      simp only [Option.some.injEq] at hb'
      subst hb'
      rw [ht] at htp
      cases r1 with
      | nil =>
        have := congrArg List.length htp
        simp at this
      | cons a r1 =>
        have h3 : p ++ s1 :: a :: r1 = p ++ s2 :: (r ++ [s]) := by simpa using htp
        simp at h3
        exact hne h3.1.symm
  intro r0
  induction r0 with
  | nil =>
    intro p u v hp h hd hg'
    simp only [List.append_nil] at hp; subst hp
    cases hd
    have hnt : ¬ t <+: p := by subst ht; exact npre_snoc _ _ _
    have hroot := hg' [] _ rfl (by cases h <;> first | rfl | (rename_i hh; simp [hh.nokid] at hkid)) (by simpa using hnt)
    simp only [List.append_nil] at hroot
    simp only [modd, List.nil_append]
    refine h.upk hkid (hκ _ hnt) (fun b o hb => hroot b o hb) hkeep (fun b o hb hne => hγ _ _ _ hb hnt ?_) ?_ ?_
    · rintro hh; rw [hca] at hne; simp only [Prod.mk.injEq] at hh; exact hne (by rw [hh.1, hh.2])
    · intro B1 off1 arr arr' T h1 h2 h3 h4 h5 h6
      rw [hca] at h1; simp only [Option.some.injEq, Prod.mk.injEq] at h1
      obtain ⟨rfl, rfl⟩ := h1
      rw [← ht]; exact hx _ _ h3
    · intro s2 u2 v2 hne hk2 h2
      exact other p [] s s2 _ u2 v2 ht.symm (by intro hh; have := congrArg List.length hh; simp at this) hne hk2 hg' h2
  | cons s1 r1 ih =>
    intro p u v hp h hd hg'
    simp only [down, Option.bind_eq_some_iff] at hd
    obtain ⟨u1, hk1, hd1⟩ := hd
    have htp : p ++ s1 :: (r1 ++ [s]) = t := by subst ht; subst hp; simp
    have hnt : ¬ t <+: p := by rw [← htp]; exact npre_snoc _ _ _
    have hpn : pn ≠ p := by subst hp; intro hh; have := congrArg List.length hh; simp at this
    have hroot := hg' [] _ rfl (by cases h <;> first | rfl | (rename_i hh; simp [hh.nokid] at hk1)) (by simpa using hnt)
    simp only [List.append_nil] at hroot
    simp only [modd, List.cons_append]
    have notc : ∀ b o, γ b o = some p → K b o := fun b o hb => hγ _ _ _ hb hnt (by
      intro hh
      simp only [Prod.mk.injEq] at hh
      obtain ⟨rfl, rfl⟩ := hh
      rw [hgc] at hb; cases hb; exact hpn rfl)
    refine h.upk hk1 (hκ _ hnt) (fun b o hb => hroot b o hb) hkeep (fun b o hb _ => notc b o hb) ?_ ?_
    · intro B1 off1 arr arr' T h1 h2 h3 h4 h5 h6
      rw [h5 (notc _ _ h4)]
      exact ih (p ++ [s1]) u1 _ (by simpa using hp) h6 hd1 (fun r x hx1 hs' hn' b o hb => by
        have := hg' (s1 :: r) x (by simp [down, hk1, hx1]) hs' (by simpa using hn') b o (by simpa using hb)
        simpa using this)
    · intro s2 u2 v2 hne hk2 h2
      exact other p (r1 ++ [s]) s1 s2 u u2 v2 htp (by subst hp; intro hh; have := congrArg List.length hh; simp at this) hne hk2 hg' h2
end
end Go.Proofs.YtloodkhdngipbaaT
