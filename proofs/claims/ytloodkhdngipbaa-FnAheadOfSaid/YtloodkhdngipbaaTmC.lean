/- TM, part C: the heap's relation, and its steps: a root set, a cell written, what is one's own moved. -/
import Derived.Test.YtloodkhdngipbaaTmB
namespace Go.Proofs.YtloodkhdngipbaaT
set_option linter.unusedVariables false
set_option linter.unusedSimpArgs false
open Go

/-- The heap's relation: w0 the world at the call, S0 the cells that the call may turn, A the cells that it may read. -/
structure HR (w0 : World) (S0 A : Nat → Nat → Prop) (w : World) (κ : Path → Value) (γ : Nat → Nat → Option Path) (H : Hp) : Prop where
  root : ∀ (s : Nat × Nat) (u : TV), (H s.1)[s.2]? = some u → TR w κ γ A [s] u (κ [s])
  own : ∀ b o q, γ b o = some q → b < w.heap.size ∧ (S0 b o ∨ w0.heap.size ≤ b)
  old : ∀ b o, A b o → b < w0.heap.size ∧ ¬ S0 b o
  chg : Chg S0 w0 w

/-- A node that lives: where, and of which shape. -/
def Live (H : Hp) (q : Path) : Prop := ∃ x, cellAt H q = some x ∧ (shape x).isSome = true

section
variable {w0 w w' : World} {S0 A K : Nat → Nat → Prop} {κ κ' : Path → Value} {γ γ' : Nat → Nat → Option Path} {H : Hp}

theorem down_append (u : TV) (p q : Path) : down u (p ++ q) = (down u p).bind (down · q) := by
  induction p generalizing u with
  | nil => rfl
  | cons s p ih =>
    simp only [List.cons_append, down]
    cases kid u s with
    | none => rfl
    | some u1 => exact ih u1

theorem cellAt_append (p q : Path) (hp : p ≠ []) : cellAt H (p ++ q) = (cellAt H p).bind (down · q) := by
  cases p with
  | nil => exact absurd rfl hp
  | cons s p =>
    simp only [List.cons_append, cellAt]
    cases (H s.1)[s.2]? with
    | none => rfl
    | some u => exact down_append u p q

theorem down_snoc (u : TV) (p : Path) (s : Nat × Nat) : down u (p ++ [s]) = (down u p).bind (kid · s) := by
  rw [down_append]
  cases down u p with
  | none => rfl
  | some x => simp [down]

theorem cellAt_snoc (p : Path) (s : Nat × Nat) (hp : p ≠ []) : cellAt H (p ++ [s]) = (cellAt H p).bind (kid · s) := by
  rw [cellAt_append p [s] hp]
  cases cellAt H p with
  | none => rfl
  | some x => simp [down]

theorem HR.at (h : HR w0 S0 A w κ γ H) {p : Path} {u : TV} (hp : cellAt H p = some u) : ∃ v, TR w κ γ A p u v := by
  cases p with
  | nil => cases hp
  | cons s r =>
    simp only [cellAt, Option.bind_eq_some_iff] at hp
    obtain ⟨u0, h0, h1⟩ := hp
    obtain ⟨v, hv⟩ := (h.root s u0 h0).desc r u h1
    exact ⟨v, by simpa using hv⟩

/-- The cell of a node that lives. -/
theorem HR.cell (h : HR w0 S0 A w κ γ H) {pn : Path} {nd u0 : TV} {s : Nat × Nat} (hp : cellAt H pn = some nd) (hk : kid nd s = some u0) :
    ∃ B off arr T, cellAddr (κ pn) nd s = some (B, off) ∧ γ B off = some pn ∧ w.heap[B]? = some (.cells arr T (0, 0)) ∧ off < arr.size ∧
      TR w κ γ A (pn ++ [s]) u0 ((arr[off]?).getD undef) := by
  obtain ⟨v, hv⟩ := h.at hp
  exact hv.cell hk

theorem HR.notA (h : HR w0 S0 A w κ γ H) {b o : Nat} {q : Path} (hg : γ b o = some q) : ¬ A b o := by
  intro ha
  obtain ⟨h1, h2⟩ := h.old b o ha
  rcases (h.own b o q hg).2 with h3 | h3
  · exact h2 h3
  · omega

/-- What is kept of a root that is not touched. -/
theorem HR.root_keep (h : HR w0 S0 A w κ γ H) {s : Nat × Nat} {u : TV} (hu : (H s.1)[s.2]? = some u)
    (hl : ∀ q, [s] <+: q → Live H q → κ' q = κ q ∧ ∀ b o, γ b o = some q → γ' b o = some q ∧ K b o)
    (hkeep : Keep K w w') (hA : ∀ b o, A b o → K b o) : TR w' κ' γ' A [s] u (κ [s]) := by
  refine (h.root s u hu).ren [s] (fun r nd hd hs => ?_) hkeep hA (fun _ _ h => h)
  exact hl ([s] ++ r) (List.prefix_append _ _) ⟨nd, by simp [cellAt, hu, hd], hs⟩

/-- A root set anew. -/
theorem HR.setroot (h : HR w0 S0 A w κ γ H) (id : Nat) (cells : List TV)
    (hl : ∀ q, (∀ j r, q ≠ (id, j) :: r) → Live H q → κ' q = κ q ∧ ∀ b o, γ b o = some q → γ' b o = some q ∧ K b o)
    (hκr : ∀ s : Nat × Nat, s.1 ≠ id → κ' [s] = κ [s])
    (hkeep : Keep K w w') (hA : ∀ b o, A b o → K b o)
    (hown : ∀ b o q, γ' b o = some q → b < w'.heap.size ∧ (S0 b o ∨ w0.heap.size ≤ b))
    (hchg : Chg S0 w0 w')
    (hnew : ∀ j u, cells[j]? = some u → TR w' κ' γ' A [(id, j)] u (κ' [(id, j)])) :
    HR w0 S0 A w' κ' γ' (fun x => if x = id then cells else H x) := by
  refine ⟨?_, hown, h.old, hchg⟩
  intro s u hu
  obtain ⟨i, j⟩ := s
  by_cases hi : i = id
  · subst hi
    simp only [if_true] at hu
    exact hnew j u hu
  · simp only [hi, if_false] at hu
    rw [hκr _ hi]
    refine h.root_keep hu (fun q hq hlq => hl q ?_ hlq) hkeep hA
    rintro j' r rfl
    obtain ⟨t, ht⟩ := hq
    simp at ht
    exact hi ht.1.1

theorem modH_get (φ : TV → TV) (s0 : Nat × Nat) (r : Path) (s : Nat × Nat) :
    (modH H φ (s0 :: r) s.1)[s.2]? = if s = s0 then ((H s.1)[s.2]?).map (modd φ r) else (H s.1)[s.2]? := by
  obtain ⟨i, j⟩ := s
  obtain ⟨i0, j0⟩ := s0
  simp only [modH]
  by_cases hi : i = i0
  · subst hi
    simp only [if_true]
    rw [List.getElem?_modify]
    by_cases hj : j0 = j
    · subst hj; simp
    · simp [hj, Ne.symm hj]
  · simp [hi]

/-- One cell of a node that lives, replaced. -/
theorem HR.repl (h : HR w0 S0 A w κ γ H) {pn : Path} {nd u0 u' : TV} {s : Nat × Nat} {B off : Nat} (hp : cellAt H pn = some nd) (hk : kid nd s = some u0)
    (hca : cellAddr (κ pn) nd s = some (B, off)) (hgc : γ B off = some pn)
    (hκ : ∀ q, ¬ pn ++ [s] <+: q → κ' q = κ q)
    (hγ : ∀ b o q, γ b o = some q → ¬ pn ++ [s] <+: q → (b, o) ≠ (B, off) → K b o)
    (hγ' : ∀ q, Live H q → ¬ pn ++ [s] <+: q → ∀ b o, γ b o = some q → γ' b o = some q)
    (hkeep : Keep K w w') (hA : ∀ b o, A b o → K b o)
    (hown : ∀ b o q, γ' b o = some q → b < w'.heap.size ∧ (S0 b o ∨ w0.heap.size ≤ b))
    (hchg : Chg S0 w0 w')
    (hx : ∀ arr T, w'.heap[B]? = some (.cells arr T (0, 0)) → TR w' κ' γ' A (pn ++ [s]) u' ((arr[off]?).getD undef)) :
    HR w0 S0 A w' κ' γ' (modH H (fun _ => u') (pn ++ [s])) := by
  refine ⟨?_, hown, h.old, hchg⟩
  intro s1 u hu
  cases pn with
  | nil => cases hp
  | cons s0 r0 =>
    have hroot : ∀ s1 : Nat × Nat, κ' [s1] = κ [s1] := fun s1 => hκ _ (by
      intro hh
      have := hh.length_le
      simp at this)
    rw [hroot]
    rw [List.cons_append, modH_get] at hu
    simp only [cellAt, Option.bind_eq_some_iff] at hp
    obtain ⟨ur, hur, hd⟩ := hp
    split at hu
    · rename_i hs
      subst hs
      rw [hur] at hu
      simp only [Option.map_some, Option.some.injEq] at hu
      subst hu
      refine TR.repl (t := s1 :: r0 ++ [s]) rfl hk hca hgc hκ hγ hkeep hA (fun _ _ h => h) hx r0 [s1] ur _ rfl (h.root _ _ hur) hd ?_
      intro r x hd' hs' hn b o hb
      exact hγ' _ ⟨x, by simp [cellAt, hur, hd'], hs'⟩ hn b o hb
    · rename_i hs
      refine h.root_keep hu (fun q hq hlq => ?_) hkeep hA
      have hn : ¬ s0 :: r0 ++ [s] <+: q := by
        obtain ⟨t, rfl⟩ := hq
        intro hh
        obtain ⟨t', ht'⟩ := hh
        simp at ht'
        exact hs ht'.1.symm
      refine ⟨hκ _ hn, fun b o hb => ⟨hγ' q hlq hn b o hb, hγ b o q hb hn ?_⟩⟩
      intro hh
      simp only [Prod.mk.injEq] at hh
      obtain ⟨rfl, rfl⟩ := hh
      rw [hgc] at hb
      cases hb
      obtain ⟨t, ht⟩ := hq
      simp at ht
      exact hs ht.1

/-! ### what is one's own, taken elsewhere -/

/-- Renaming of places: what lay under ps lies under t, its elements from off on. -/
def rnm (ps t : Path) (off : Nat) (q : Path) : Path :=
  if ps <+: q then
    match q.drop ps.length with
    | [] => t
    | s :: r => t ++ (s.1 - off, s.2) :: r
  else q

theorem rnm_self (ps t : Path) (off : Nat) : rnm ps t off ps = t := by simp [rnm]
theorem rnm_under (ps t : Path) (off : Nat) (s : Nat × Nat) (r : Path) : rnm ps t off (ps ++ s :: r) = t ++ (s.1 - off, s.2) :: r := by simp [rnm]
theorem rnm_not (ps t : Path) (off : Nat) (q : Path) (h : ¬ ps <+: q) : rnm ps t off q = q := by simp [rnm, h]

/-- A stretch of a slice, abstractly and in the model. -/
def cutU (off len : Nat) : TV → TV
  | .sl true z es => .sl true z ((es.drop off).take len)
  | u => u
def cutV (z off len : Nat) : Value → Value
  | .slice (some a) _ c => .slice (some ⟨a.block, a.off + off * z, none⟩) len (c - off)
  | v => v

/-- The values of the nodes behind a move. -/
def mvκ (κ : Path → Value) (ps t : Path) (off : Nat) (v : Value) (q : Path) : Value :=
  if t <+: q then
    match q.drop t.length with
    | [] => v
    | s :: r => κ (ps ++ (s.1 + off, s.2) :: r)
  else κ q

theorem mvκ_self {ps t : Path} {off : Nat} {v : Value} : mvκ κ ps t off v t = v := by simp [mvκ]
theorem mvκ_under {ps t : Path} {off : Nat} {v : Value} (s : Nat × Nat) (r : Path) : mvκ κ ps t off v (t ++ s :: r) = κ (ps ++ (s.1 + off, s.2) :: r) := by simp [mvκ]
theorem mvκ_not {ps t : Path} {off : Nat} {v : Value} (q : Path) (h : ¬ t <+: q) : mvκ κ ps t off v q = κ q := by simp [mvκ, h]

theorem TR.move {ps t : Path} {z off len : Nat} {es : List (List TV)} {v : Value} (h : TR w κ γ A ps (.sl true z es) v) (hl : off + len ≤ es.length) :
    TR w (mvκ κ ps t off (cutV z off len v)) (fun b o => (γ b o).map (rnm ps t off)) A t (cutU off len (.sl true z es)) (cutV z off len v) := by
  cases h with
  | pure p u v h => cases h
  | sl0 p z hk =>
    have h1 : off = 0 := by simp at hl; omega
    have h2 : len = 0 := by simp at hl; omega
    subst h1; subst h2
    exact .sl0 t z (by simp [mvκ_self, cutV])
  | sl p z n c B o es arr T hk hln hn hz hb hs hg hc =>
    simp only [cutU, cutV]
    have hsz : (o + off * z) + (c - off) * z ≤ arr.size := by
      have : off * z + (c - off) * z = c * z := by rw [← Nat.add_mul]; congr 1; omega
      omega
    refine .sl t z len (c - off) B (o + off * z) _ arr T mvκ_self (by simp; omega) (by omega) (fun e he => hz e (List.mem_of_mem_drop (List.mem_of_mem_take he))) hb hsz ?_ ?_
    · intro k hk'
      have : off * z + k < c * z := by
        have : off * z + (c - off) * z = c * z := by rw [← Nat.add_mul]; congr 1; omega
        omega
      rw [Nat.add_assoc, hg _ this]
      simp [rnm_self]
    · intro i f e u he hf
      rw [List.getElem?_take] at he
      split at he
      case isFalse => cases he
      rw [List.getElem?_drop] at he
      have hch := hc _ _ _ _ he hf
      have : o + (off + i) * z + f = o + off * z + i * z + f := by rw [Nat.add_mul]; omega
      rw [this] at hch
      refine hch.ren (K := fun _ _ => True) _ (fun r nd hd hs' => ⟨?_, fun b o' hb' => ⟨?_, trivial⟩⟩) (Keep.refl _ w) (fun _ _ _ => trivial) (fun _ _ h => h)
      · have := mvκ_under (κ := κ) (ps := ps) (t := t) (off := off) (v := Value.slice (some ⟨B, o + off * z, none⟩) len (c - off)) (i, f) r
        simpa [Nat.add_comm] using this
      · rw [hb']
        have := rnm_under ps t off (off + i, f) r
        simpa using this

theorem TR.moveP {ps t : Path} {cs : List TV} {v : Value} (h : TR w κ γ A ps (.po true cs) v) :
    TR w (mvκ κ ps t 0 v) (fun b o => (γ b o).map (rnm ps t 0)) A t (.po true cs) v := by
  refine h.ren (K := fun _ _ => True) _ (fun r nd hd hs' => ⟨?_, fun b o' hb' => ⟨?_, trivial⟩⟩) (Keep.refl _ w) (fun _ _ _ => trivial) (fun _ _ h => h)
  · cases r with
    | nil =>
      simp only [List.append_nil]
      rw [mvκ_self]
      cases h with
      | pure p u v h => cases h
      | po p B o cs arr T hk => exact hk.symm
    | cons s r =>
      have := mvκ_under (κ := κ) (ps := ps) (t := t) (off := 0) (v := v) s r
      simpa using this
  · rw [hb']
    cases r with
    | nil => simp [rnm_self]
    | cons s r =>
      have := rnm_under ps t 0 s r
      simpa using this

theorem cellAt_root (s : Nat × Nat) : cellAt H [s] = (H s.1)[s.2]? := by
  simp only [cellAt]
  cases (H s.1)[s.2]? <;> rfl

/-- A cell given up. -/
theorem HR.junk (h : HR w0 S0 A w κ γ H) {t : Path} {u0 : TV} (ht : cellAt H t = some u0) : HR w0 S0 A w κ γ (modH H (fun _ => .junk) t) := by
  rcases List.eq_nil_or_concat t with rfl | ⟨pn, s, rfl⟩
  · cases ht
  · rw [List.concat_eq_append] at ht ⊢
    cases pn with
    | nil =>
      refine ⟨?_, h.own, h.old, h.chg⟩
      intro s1 u hu
      rw [List.nil_append, modH_get] at hu
      split at hu
      · rename_i hs
        subst hs
        cases hc : (H s1.1)[s1.2]? with
        | none => simp [hc] at hu
        | some x =>
          simp only [hc, Option.map_some, modd, Option.some.injEq] at hu
          subst hu
          exact .pure _ _ _ (.junk _)
      · exact h.root _ _ hu
    | cons s0 r =>
      rw [cellAt_snoc _ _ (by simp)] at ht
      simp only [Option.bind_eq_some_iff] at ht
      obtain ⟨nd, h1, h2⟩ := ht
      obtain ⟨B, off, arr, T, c1, c2, c3, c4, c5⟩ := h.cell h1 h2
      refine h.repl (K := fun _ _ => True) h1 h2 c1 c2 (fun _ _ => rfl) (fun _ _ _ _ _ _ => trivial) (fun _ _ _ _ _ hb => hb) (Keep.refl _ w) (fun _ _ _ => trivial) h.own h.chg ?_
      intro arr' T' _
      exact .pure _ _ _ (.junk _)

/-- A cell that was given up takes what stood elsewhere. -/
theorem HR.fill (h : HR w0 S0 A w κ γ H) {ps pn : Path} {s : Nat × Nat} {nd u u' : TV} {x : Value} {o1 : Nat}
    (hp : cellAt H pn = some nd) (hk : kid nd s = some u)
    (hdet : ∀ q, Live H q → ¬ ps <+: q)
    (hT : TR w (mvκ κ ps (pn ++ [s]) o1 x) (fun b o => (γ b o).map (rnm ps (pn ++ [s]) o1)) A (pn ++ [s]) u' x)
    (hx : ∀ B off arr T, cellAddr (κ pn) nd s = some (B, off) → w.heap[B]? = some (.cells arr T (0, 0)) → (arr[off]?).getD undef = x) :
    HR w0 S0 A w (mvκ κ ps (pn ++ [s]) o1 x) (fun b o => (γ b o).map (rnm ps (pn ++ [s]) o1)) (modH H (fun _ => u') (pn ++ [s])) := by
  obtain ⟨B, off, arr, T, c1, c2, c3, c4, c5⟩ := h.cell hp hk
  refine h.repl (K := fun _ _ => True) hp hk c1 c2 (fun q hq => mvκ_not q hq) (fun _ _ _ _ _ _ => trivial) (fun q hl hq b o hb => ?_) (Keep.refl _ w) (fun _ _ _ => trivial) ?_ h.chg ?_
  · rw [hb]; simp [rnm_not _ _ _ _ (hdet q hl)]
  · intro b o q hb
    cases hg : γ b o with
    | none => simp [hg] at hb
    | some q0 => exact h.own b o q0 hg
  · intro arr' T' hb
    rw [hx B off arr' T' c1 hb]
    exact hT

/-- Behind the cells of a root: what stood elsewhere. -/
theorem HR.push (h : HR w0 S0 A w κ γ H) {ps : Path} {u' : TV} {x : Value} {o1 id : Nat}
    (hdet : ∀ q, Live H q → ¬ ps <+: q)
    (hT : TR w (mvκ κ ps [(id, (H id).length)] o1 x) (fun b o => (γ b o).map (rnm ps [(id, (H id).length)] o1)) A [(id, (H id).length)] u' x) :
    HR w0 S0 A w (mvκ κ ps [(id, (H id).length)] o1 x) (fun b o => (γ b o).map (rnm ps [(id, (H id).length)] o1)) (fun y => if y = id then H id ++ [u'] else H y) := by
  have kept : ∀ q, ¬ [(id, (H id).length)] <+: q → Live H q → mvκ κ ps [(id, (H id).length)] o1 x q = κ q ∧
      ∀ b o, γ b o = some q → (γ b o).map (rnm ps [(id, (H id).length)] o1) = some q ∧ True := by
    intro q hq hl
    refine ⟨mvκ_not q hq, fun b o hb => ⟨?_, trivial⟩⟩
    rw [hb]; simp [rnm_not _ _ _ _ (hdet q hl)]
  have nlast : ∀ j, j < (H id).length → ∀ q, [(id, j)] <+: q → ¬ [(id, (H id).length)] <+: q := by
    rintro j hj q ⟨t, rfl⟩ ⟨t', ht'⟩
    simp at ht'
    omega
  refine h.setroot id _ (K := fun _ _ => True) (fun q hq hl => ?_) (fun s hs => mvκ_not _ ?_) (Keep.refl _ w) (fun _ _ _ => trivial) ?_ h.chg ?_
  · refine kept q ?_ hl
    rintro ⟨t, rfl⟩
    exact hq _ _ rfl
  · rintro ⟨t, ht⟩
    simp at ht
    exact hs (by rw [← ht.1])
  · intro b o q hb
    cases hg : γ b o with
    | none => simp [hg] at hb
    | some q0 => exact h.own b o q0 hg
  · intro j u hu
    rcases Nat.lt_or_ge j (H id).length with hj | hj
    · rw [List.getElem?_append_left hj] at hu
      have hne := nlast j hj [(id, j)] (List.prefix_refl _)
      rw [mvκ_not _ hne]
      exact h.root_keep (s := (id, j)) hu (fun q hq hl => kept q (nlast j hj q hq) hl) (Keep.refl (fun _ _ => True) w) (fun _ _ _ => trivial)
    · rw [List.getElem?_append_right hj] at hu
      have : j = (H id).length := by
        cases hjj : j - (H id).length with
        | zero => omega
        | succ n => rw [hjj] at hu; simp at hu
      subst this
      simp only [Nat.sub_self, List.getElem?_cons_zero, Option.some.injEq] at hu
      subst hu
      rw [mvκ_self]
      exact hT

/-- What is given up is no node, nor is anything under it. -/
theorem live_junk {ps : Path} {u0 : TV} (ht : cellAt H ps = some u0) : ∀ q, Live (modH H (fun _ => .junk) ps) q → ¬ ps <+: q := by
  rintro q ⟨x, hx, hs⟩ ⟨r, rfl⟩
  have key : ∀ (r1 : Path) (u : TV) (u1 : TV), down u r1 = some u1 → down (modd (fun _ => .junk) r1 u) r1 = some .junk := by
    intro r1
    induction r1 with
    | nil => intro u u1 _; rfl
    | cons s r1 ih =>
      intro u u1 hd
      simp only [down, Option.bind_eq_some_iff] at hd
      obtain ⟨u2, h2, h3⟩ := hd
      have := ih u2 u1 h3
      have hkid : kid (modd (fun _ => .junk) (s :: r1) u) s = some (modd (fun _ => .junk) r1 u2) := by
        cases u with
        | sl own z es =>
          cases own with
          | false => simp [kid] at h2
          | true =>
            simp only [kid, Option.bind_eq_some_iff] at h2
            obtain ⟨e, he, hf⟩ := h2
            simp [modd, upk, kid, he, hf]
        | po own cs =>
          cases own with
          | false => simp [kid] at h2
          | true =>
            simp only [kid] at h2
            split at h2
            · rename_i h0; simp [modd, upk, kid, h0, h2]
            · cases h2
        | _ => simp [kid] at h2
      simp [down, hkid, this]
  have hj : cellAt (modH H (fun _ => .junk) ps) ps = some .junk := by
    cases ps with
    | nil => cases ht
    | cons s r1 =>
      simp only [cellAt, Option.bind_eq_some_iff] at ht
      obtain ⟨u, h1, h2⟩ := ht
      simp only [cellAt]
      rw [modH_get]
      simp [h1, key r1 u u0 h2]
  have hne : ps ≠ [] := by rintro rfl; cases ht
  rw [cellAt_append ps r hne, hj] at hx
  cases r with
  | nil => simp [down] at hx; subst hx; cases hs
  | cons s r => simp [down, kid] at hx
end
end Go.Proofs.YtloodkhdngipbaaT
