/- TM, part O: what is one's own, told as what is only read. -/
import Derived.Test.YtloodkhdngipbaaTmN
namespace Go.Proofs.YtloodkhdngipbaaT
set_option linter.unusedVariables false
set_option linter.unusedSimpArgs false
open Go

theorem fzL_eq (cs : List TV) : fzL cs = cs.map fz := by
  induction cs with
  | nil => rfl
  | cons c cs ih => simp [fzL, ih]
theorem fzLL_eq (es : List (List TV)) : fzLL es = es.map (·.map fz) := by
  induction es with
  | nil => rfl
  | cons c cs ih => simp [fzLL, ih, fzL_eq]

section
variable {P : Program} {F : Fr} {st : St} {w w' w0 : World} {S0 : Nat → Nat → Prop} {κ κ' : Path → Value} {γ γ' : Nat → Nat → Option Path} {H H1 : Hp} {A A' K : Nat → Nat → Prop} {L : List TV} {o : Oper} {E : Eff} {root : Nat}

theorem RR.fz {u : TV} {v : Value} (h : RR w A u v) : fz u = u := by
  induction h with
  | sl0 z => rfl
  | sle z c a => rfl
  | sl z n c B o es arr T fz' hl hn hz hb hs ha hc ih =>
    simp only [Go.Proofs.YtloodkhdngipbaaT.fz, fzLL_eq]
    congr 1
    refine List.ext_getElem? fun i => ?_
    rw [List.getElem?_map]
    cases he : es[i]? with
    | none => rfl
    | some e =>
      simp only [Option.map_some, Option.some.injEq]
      refine List.ext_getElem? fun f => ?_
      rw [List.getElem?_map]
      cases hf : e[f]? with
      | none => rfl
      | some u => simp [ih i f e u he hf]
  | po B o cs arr T fz' hb hs ha hc ih =>
    simp only [Go.Proofs.YtloodkhdngipbaaT.fz, fzL_eq]
    congr 1
    refine List.ext_getElem? fun f => ?_
    rw [List.getElem?_map]
    cases hf : cs[f]? with
    | none => rfl
    | some u => simp [ih f u hf]
  | fn g caps capv hl hc ih =>
    simp only [Go.Proofs.YtloodkhdngipbaaT.fz, fzL_eq]
    congr 1
    refine List.ext_getElem? fun f => ?_
    rw [List.getElem?_map]
    cases hf : caps[f]? with
    | none => rfl
    | some u => simp [ih f u hf]
  | _ => rfl

theorem fz_row {es : List (List TV)} {i f : Nat} {e : List TV} {u : TV} (he : (fzLL es)[i]? = some e) (hu : e[f]? = some u) : ∃ e0 u0, es[i]? = some e0 ∧ e0[f]? = some u0 ∧ u = fz u0 := by
  rw [fzLL_eq, List.getElem?_map] at he
  cases h1 : es[i]? with
  | none => simp [h1] at he
  | some e0 =>
    simp only [h1, Option.map_some, Option.some.injEq] at he
    subst he
    rw [List.getElem?_map] at hu
    cases h2 : e0[f]? with
    | none => simp [h2] at hu
    | some u0 =>
      simp only [h2, Option.map_some, Option.some.injEq] at hu
      exact ⟨e0, u0, rfl, h2, hu.symm⟩

theorem TR.ro {p : Path} {u : TV} {v : Value} (h : TR w κ γ A p u v) (hA : ∀ b o, A b o → A' b o)
    (hg : ∀ (r : Path) (nd : TV), down u r = some nd → (shape nd).isSome = true → ∀ b o, γ b o = some (p ++ r) → A' b o) : RR w A' (fz u) v := by
  induction h with
  | pure p u v h => rw [h.fz]; exact h.keep (K := fun _ _ => True) (Keep.refl _ w) (fun _ _ _ => trivial) hA
  | sl0 p z hk => exact .sl0 z
  | sl p z n c B o es arr T hk hl hn hz hb hs hgg hc ih =>
    have h0 := hg [] _ rfl rfl
    simp only [List.append_nil] at h0
    have hnc : n * z ≤ c * z := Nat.mul_le_mul_right z hn
    refine .sl z n c B o (fzLL es) arr T (0, 0) (by rw [fzLL_eq]; simpa using hl) hn ?_ hb (by omega) (fun k hk' => h0 _ _ (hgg k (by omega))) fun i f e u he hu => ?_
    · intro e he
      rw [fzLL_eq, List.mem_map] at he
      obtain ⟨e0, h1, rfl⟩ := he
      simpa using hz e0 h1
    · obtain ⟨e0, u0, h1, h2, rfl⟩ := fz_row he hu
      refine ih i f e0 u0 h1 h2 fun r nd hd hs' b o' hb' => ?_
      exact hg ((i, f) :: r) nd (by simp [down, kid, h1, h2, hd]) hs' b o' (by simpa using hb')
  | po p B o cs arr T hk hb hs hgg hc ih =>
    have h0 := hg [] _ rfl rfl
    simp only [List.append_nil] at h0
    refine .po B o (fzL cs) arr T (0, 0) hb (by rw [fzL_eq]; simpa using hs) (fun k hk' => h0 _ _ (hgg k (by rw [fzL_eq] at hk'; simpa using hk'))) fun f u hu => ?_
    rw [fzL_eq, List.getElem?_map] at hu
    cases h2 : cs[f]? with
    | none => simp [h2] at hu
    | some u0 =>
      simp only [h2, Option.map_some, Option.some.injEq] at hu
      subst hu
      refine ih f u0 h2 fun r nd hd hs' b o' hb' => ?_
      exact hg ((0, f) :: r) nd (by simp [down, kid, h2, hd]) hs' b o' (by simpa using hb')

/-- The cells that a call may read: what the caller may read, and what is the caller's own and stands. -/
def Acall (A : Nat → Nat → Prop) (γ : Nat → Nat → Option Path) (ro : Bool) (b o : Nat) : Prop := A b o ∨ (ro = true ∧ ∃ q, γ b o = some q ∧ ∀ j r, q ≠ (0, j) :: r)

theorem roT_ref (hh : HR w0 S0 A w κ γ (wr0 H1 L)) (h0 : H1 0 = []) {p : Path} {nd : TV} (hc : cellAt H1 p = some nd) : ∃ v0, TR w κ γ A p nd v0 ∧ RR w (Acall A γ true) (fz nd) v0 := by
  have hn := not0_of_live h0 hc
  obtain ⟨v0, hT⟩ := hh.at (p := p) (u := nd) (by rw [cellAt_wr0 _ _ hn]; exact hc)
  refine ⟨v0, hT, hT.ro (fun b o h => .inl h) fun r x hd hs b o hb => .inr ⟨rfl, _, hb, ?_⟩⟩
  intro j r' hh'
  cases p with
  | nil => cases hc
  | cons s q =>
    simp only [List.cons_append, List.cons.injEq] at hh'
    exact hn j q (by rw [hh'.1])

theorem drop_take_sub {z c o off len n : Nat} (h : off + len ≤ n) (hc : n ≤ c) : off * z + len * z ≤ n * z ∧ off * z ≤ n * z := by
  rw [← Nat.add_mul]
  exact ⟨Nat.mul_le_mul_right z h, Nat.mul_le_mul_right z (by omega)⟩

/-- A stretch of a slice that is only read. -/
theorem RR.cut {z off len c1 B o n c : Nat} {es : List (List TV)} (h : RR w A (.sl false z es) (.slice (some ⟨B, o, none⟩) n c)) (hl : off + len ≤ n) (hc1 : len ≤ c1) :
    RR w A (.sl false z ((es.drop off).take len)) (.slice (some ⟨B, o + off * z, none⟩) len c1) := by
  cases h with
  | sle z c a =>
    obtain rfl : len = 0 := by omega
    rw [List.take_zero]; exact .sle _ _ _
  | sl z n c B o es arr T fz' hln hn hz hb hs ha hc =>
    obtain ⟨e1, e2⟩ := drop_take_sub (z := z) (c := c) (o := o) hl hn
    refine .sl z len c1 B _ _ arr T fz' (by simp; omega) hc1 (fun e he => hz e (List.mem_of_mem_drop (List.mem_of_mem_take he))) hb (by omega) (fun k hk => ?_) (fun i f e u he hf => ?_)
    · rw [Nat.add_assoc]; exact ha _ (by omega)
    · rw [List.getElem?_take] at he
      split at he
      case isFalse => cases he
      rw [List.getElem?_drop] at he
      have := hc _ f e u he hf
      rwa [show o + (off + i) * z + f = o + off * z + i * z + f by rw [Nat.add_mul]; omega] at this

theorem RR.row {z i f n B o m c : Nat} {es : List (List TV)} {e : List TV} (h : RR w A (.sl false z es) (.slice (some ⟨B, o, none⟩) m c)) (he : es[i]? = some e) (hl : f + n ≤ e.length) :
    RR w A (.po false ((e.drop f).take n)) (.pointer (some ⟨B, o + i * z + f, none⟩)) := by
  cases h with
  | sle z c a => simp at he
  | sl z m c B o es arr T fz' hln hn hz hb hs ha hc =>
    have hze := hz e (List.mem_of_getElem? he)
    have hi : i < m := by have := (List.getElem?_eq_some_iff.1 he).1; omega
    have h4 : (i + 1) * z ≤ m * z := Nat.mul_le_mul_right z hi
    rw [Nat.add_mul] at h4
    refine .po B _ _ arr T fz' hb (by simp; omega) (fun k hk => ?_) (fun j u hu => ?_)
    · simp at hk
      rw [show o + i * z + f + k = o + (i * z + f + k) by omega]; exact ha _ (by omega)
    · rw [List.getElem?_take] at hu
      split at hu
      case isFalse => cases hu
      rw [List.getElem?_drop] at hu
      have := hc i _ e u he hu
      rwa [show o + i * z + (f + j) = o + i * z + f + j by omega] at this

theorem RR.prow {f n B o : Nat} {e : List TV} (h : RR w A (.po false e) (.pointer (some ⟨B, o, none⟩))) (hl : f + n ≤ e.length) :
    RR w A (.po false ((e.drop f).take n)) (.pointer (some ⟨B, o + f, none⟩)) := by
  cases h with
  | po B o e arr T fz' hb hs ha hc =>
    refine .po B _ _ arr T fz' hb (by simp; omega) (fun k hk => ?_) (fun j u hu => ?_)
    · simp at hk
      rw [Nat.add_assoc]; exact ha _ (by omega)
    · rw [List.getElem?_take] at hu
      split at hu
      case isFalse => cases hu
      rw [List.getElem?_drop] at hu
      have := hc _ u hu
      rwa [← Nat.add_assoc] at this

theorem roT_rf (hh : HR w0 S0 A w κ γ (wr0 H1 L)) (h0 : H1 0 = []) {p : Path} {off len z : Nat} {es : List (List TV)} {v : Value} (hv : RV w κ H1 A (.rf p off len) v) (hc : cellAt H1 p = some (.sl true z es)) :
    RR w (Acall A γ true) (.sl false z (fzLL ((es.drop off).take len))) v := by
  obtain ⟨v0, hT, hR⟩ := roT_ref hh h0 hc
  have hk0 := hT.val rfl
  simp only [fz] at hR
  have ecut : fzLL ((es.drop off).take len) = ((fzLL es).drop off).take len := by simp [fzLL_eq, List.map_take, List.map_drop]
  rw [ecut]
  cases hv with
  | pure u v h => cases h
  | rf0 p z' off hk hcs =>
    rw [List.take_zero]; exact .sl0 z
  | rf p z' n c B o off len hk hcs hb hn =>
    rw [hk] at hk0; subst hk0
    simp only [shapeAt, hc, Option.bind_some, shape, Option.some.injEq, Prod.mk.injEq, true_and] at hcs
    obtain ⟨rfl, hln⟩ := hcs
    exact hR.cut hb (by omega)
  | rfE p z' n c B o off o1 c1 hk hcs g1 g2 _ =>
    rw [hk] at hk0; subst hk0
    rw [List.take_zero]
    cases hT with
    | pure p u v h => cases h
    | sl p z n c B o es arr T hk' hl hn hz hb hs hg hcc =>
      simp only [shapeAt, hc, Option.bind_some, shape, Option.some.injEq, Prod.mk.injEq, true_and] at hcs
      obtain ⟨rfl, _⟩ := hcs
      exact .sl z 0 c1 B o1 [] arr T (0, 0) rfl (Nat.zero_le _) (by simp) hb (by omega) (by simp) (by simp)

theorem roT_pt (hh : HR w0 S0 A w κ γ (wr0 H1 L)) (h0 : H1 0 = []) {p : Path} {i f n : Nat} {cs : List TV} {v : Value} (hv : RV w κ H1 A (.pt p i f) v) (hc : rowAt H1 p i = some cs) (hl : f + n ≤ cs.length) :
    RR w (Acall A γ true) (.po false (fzL ((cs.drop f).take n))) v := by
  simp only [rowAt, Option.bind_eq_some_iff] at hc
  obtain ⟨es, ⟨nd, h1, h2⟩, h3⟩ := hc
  obtain ⟨v0, hT, hR⟩ := roT_ref hh h0 h1
  have ecut : fzL ((cs.drop f).take n) = ((fzL cs).drop f).take n := by simp [fzL_eq, List.map_take, List.map_drop]
  rw [ecut]
  have hl' : f + n ≤ (fzL cs).length := by rw [fzL_eq]; simpa using hl
  cases hv with
  | pure u v h => cases h
  | ptS p z m c B o i f hk hcs hi hf =>
    unfold rows at h2
    split at h2
    · simp only [Option.some.injEq] at h2; subst h2
      rename_i z' es'
      have hk0 := hT.val rfl
      rw [hk] at hk0; subst hk0
      simp only [shapeAt, h1, Option.bind_some, shape, Option.some.injEq, Prod.mk.injEq, true_and] at hcs
      obtain ⟨rfl, _⟩ := hcs
      simp only [fz] at hR
      exact hR.row (by rw [fzLL_eq, List.getElem?_map, h3, fzL_eq]; rfl) hl'
    · simp [shapeAt, h1, shape] at hcs
    · cases h2
  | ptP p B o f m hk hcs hf =>
    unfold rows at h2
    split at h2
    · simp [shapeAt, h1, shape] at hcs
    · simp only [Option.some.injEq] at h2; subst h2
      simp only [List.getElem?_cons_zero, Option.some.injEq] at h3; subst h3
      have hk0 := hT.val rfl
      rw [hk] at hk0; subst hk0
      simp only [fz] at hR
      exact hR.prow hl'
    · cases h2

theorem Acall_mono {b b' : Bool} (h : b = true → b' = true) (x y : Nat) (ha : Acall A γ b x y) : Acall A γ b' x y := by
  rcases ha with ha | ⟨h1, h2⟩
  · exact .inl ha
  · exact .inr ⟨h h1, h2⟩

theorem roL_get : ∀ {cs xs : List TV} {n : Nat} {b : Bool}, roL H n cs = some (xs, b) → xs.length = cs.length ∧ ∀ (j : Nat) (c x : TV), cs[j]? = some c → xs[j]? = some x → ∃ b', roT H n c = some (x, b') ∧ (b' = true → b = true)
  | [], xs, n, b, h => by
    simp only [roL, Option.some.injEq, Prod.mk.injEq] at h
    obtain ⟨rfl, rfl⟩ := h
    simp
  | c :: cs, xs, n, b, h => by
    simp only [roL, Option.bind_eq_some_iff, Option.some.injEq, Prod.mk.injEq] at h
    obtain ⟨⟨x, b1⟩, h1, ⟨ys, b2⟩, h2, rfl, rfl⟩ := h
    obtain ⟨i1, i2⟩ := roL_get h2
    refine ⟨by simp [i1], fun j c' x' hc hx => ?_⟩
    cases j with
    | zero => simp at hc hx; subst hc; subst hx; exact ⟨b1, h1, fun h => by simp [h]⟩
    | succ j =>
      obtain ⟨b', q1, q2⟩ := i2 j c' x' (by simpa using hc) (by simpa using hx)
      exact ⟨b', q1, fun h => by simp [q2 h]⟩

theorem RR.roT {u : TV} {v : Value} (h : RR w A u v) : ∀ (n : Nat) (x : TV) (b : Bool), Go.Proofs.YtloodkhdngipbaaT.roT H n u = some (x, b) → x = u := by
  induction h with
  | fn g caps capv hl hc ih =>
    intro n x b hx
    simp only [Go.Proofs.YtloodkhdngipbaaT.roT, Option.bind_eq_some_iff, Option.some.injEq, Prod.mk.injEq] at hx
    obtain ⟨⟨xs, b1⟩, h1, rfl, rfl⟩ := hx
    obtain ⟨i1, i2⟩ := roL_get h1
    congr 1
    refine List.ext_getElem? fun j => ?_
    cases hj : caps[j]? with
    | none =>
      rw [List.getElem?_eq_none_iff] at hj ⊢
      show xs.length ≤ j
      omega
    | some c =>
      have hlt : j < xs.length := by have := (List.getElem?_eq_some_iff.1 hj).1; omega
      have hx : xs[j]? = some xs[j] := List.getElem?_eq_getElem hlt
      obtain ⟨b', q1, _⟩ := i2 j c xs[j] hj hx
      rw [hx, ih j c hj 0 _ _ q1]
  | _ =>
    intro n x b hx
    simp only [Go.Proofs.YtloodkhdngipbaaT.roT, Option.some.injEq, Prod.mk.injEq, reduceCtorEq] at hx
    try exact hx.1.symm

theorem roT_rv (hh : HR w0 S0 A w κ γ (wr0 H1 L)) (h0 : H1 0 = []) {u : TV} {v : Value} (hv : RV w κ H1 A u v) : ∀ (n : Nat) (x : TV) (b : Bool), roT H1 n u = some (x, b) → RV w κ' (fun _ => []) (Acall A γ b) x v := by
  have mono : ∀ {u v b}, RR w A u v → RR w (Acall A γ b) u v := fun h => h.keep (K := fun _ _ => True) (Keep.refl _ w) (fun _ _ _ => trivial) (fun _ _ h => .inl h)
  have monoV : ∀ {u v b b'}, RV w κ' (fun _ => []) (Acall A γ b') u v → (b' = true → b = true) → RV w κ' (fun _ => []) (Acall A γ b) u v := by
    intro u v b b' h hb
    induction h with
    | pure u v h => exact .pure _ _ (h.keep (K := fun _ _ => True) (Keep.refl _ w) (fun _ _ _ => trivial) (fun x y h => Acall_mono hb x y h))
    | nil z => exact .nil z
    | rf0 p z off hk hc => exact .rf0 p z off hk hc
    | rf p z n c B o off len hk hc hb hn => exact .rf p z n c B o off len hk hc hb hn
    | rfE p z n c B o off o1 c1 hk hc g1 g2 g3 => exact .rfE p z n c B o off o1 c1 hk hc g1 g2 g3
    | ptS p z n c B o i f hk hc hi hf => exact .ptS p z n c B o i f hk hc hi hf
    | ptP p B o f n hk hc hf => exact .ptP p B o f n hk hc hf
    | ag cs vs hl hc ih => exact .ag cs vs hl ih
    | tu cs vs hl hc ih => exact .tu cs vs hl ih
    | fn g cs vs hl hc ih => exact .fn g cs vs hl ih
  have rfc : ∀ (p : Path) (off len : Nat) (v : Value), RV w κ H1 A (.rf p off len) v → ∀ (n : Nat) (x : TV) (b : Bool), roT H1 n (.rf p off len) = some (x, b) → RV w κ' (fun _ => []) (Acall A γ b) x v := by
    intro p off len v hv n x b hx
    simp only [roT] at hx
    split at hx
    case h_2 => cases hx
    rename_i z es hc
    simp only [Option.some.injEq, Prod.mk.injEq] at hx
    obtain ⟨rfl, rfl⟩ := hx
    exact .pure _ _ (roT_rf hh h0 hv hc)
  have ptc : ∀ (p : Path) (i f : Nat) (v : Value), RV w κ H1 A (.pt p i f) v → ∀ (n : Nat) (x : TV) (b : Bool), roT H1 n (.pt p i f) = some (x, b) → RV w κ' (fun _ => []) (Acall A γ b) x v := by
    intro p i f v hv n x b hx
    simp only [roT, Option.bind_eq_some_iff] at hx
    obtain ⟨cs, hc, hx⟩ := hx
    split at hx
    · split at hx
      case isFalse => cases hx
      rename_i hle
      simp only [Option.some.injEq, Prod.mk.injEq] at hx
      obtain ⟨rfl, rfl⟩ := hx
      have := roT_pt hh h0 (n := cs.length - f) hv hc (by omega)
      rw [List.take_of_length_le (by simp)] at this
      exact .pure _ _ this
    · split at hx
      case isFalse => cases hx
      rename_i hle
      simp only [Option.some.injEq, Prod.mk.injEq] at hx
      obtain ⟨rfl, rfl⟩ := hx
      exact .pure _ _ (roT_pt hh h0 hv hc hle)
  induction hv with
  | pure u v h =>
    intro n x b hx
    rw [h.roT n x b hx]
    exact .pure _ _ (mono h)
  | nil z =>
    intro n x b hx
    simp only [roT, Option.some.injEq, Prod.mk.injEq] at hx
    obtain ⟨rfl, rfl⟩ := hx
    exact .pure _ _ (.sl0 z)
  | rf0 p z off hk hc => exact rfc _ _ _ _ (.rf0 p z off hk hc)
  | rf p z n c B o off len hk hc hb hn => exact rfc _ _ _ _ (.rf p z n c B o off len hk hc hb hn)
  | rfE p z n c B o off o1 c1 hk hc g1 g2 g3 => exact rfc _ _ _ _ (.rfE p z n c B o off o1 c1 hk hc g1 g2 g3)
  | ptS p z n c B o i f hk hc hi hf => exact ptc _ _ _ _ (.ptS p z n c B o i f hk hc hi hf)
  | ptP p B o f n hk hc hf => exact ptc _ _ _ _ (.ptP p B o f n hk hc hf)
  | tu cs vs hl hc ih => intro n x b hx; simp [roT] at hx
  | ag cs vs hl hc ih =>
    intro n x b hx
    simp only [roT, Option.bind_eq_some_iff, Option.some.injEq, Prod.mk.injEq] at hx
    obtain ⟨⟨xs, b1⟩, h1, rfl, rfl⟩ := hx
    obtain ⟨i1, i2⟩ := roL_get h1
    refine .ag xs vs (by omega) fun j y hy => ?_
    have hlt : j < cs.length := by have := (List.getElem?_eq_some_iff.1 hy).1; omega
    have hcj : cs[j]? = some cs[j] := List.getElem?_eq_getElem hlt
    obtain ⟨b', q1, q2⟩ := i2 j _ y hcj hy
    exact monoV (ih j _ hcj n y b' q1) q2
  | fn g cs vs hl hc ih =>
    intro n x b hx
    simp only [roT, Option.bind_eq_some_iff, Option.some.injEq, Prod.mk.injEq] at hx
    obtain ⟨⟨xs, b1⟩, h1, rfl, rfl⟩ := hx
    obtain ⟨i1, i2⟩ := roL_get h1
    refine .fn g xs vs (by omega) fun j y hy => ?_
    have hlt : j < cs.length := by have := (List.getElem?_eq_some_iff.1 hy).1; omega
    have hcj : cs[j]? = some cs[j] := List.getElem?_eq_getElem hlt
    obtain ⟨b', q1, q2⟩ := i2 j _ y hcj hy
    exact monoV (ih j _ hcj 0 y b' q1) q2

mutual
theorem roT_kill {d : Path → Bool} (hl : ∀ q, Live H q → d q = false) : ∀ (u : TV) (n : Nat) (x : TV) (b : Bool), roT H n u = some (x, b) → killT d u = u
  | .rf p off len, n, x, b, h => by
    simp only [roT] at h
    split at h
    case h_2 => cases h
    rename_i z es hc
    simp [killT, hl p ⟨_, hc, rfl⟩]
  | .pt p i f, n, x, b, h => by
    simp only [roT, Option.bind_eq_some_iff] at h
    obtain ⟨cs, hc, _⟩ := h
    have : Live H p := by
      simp only [rowAt, Option.bind_eq_some_iff] at hc
      obtain ⟨es, ⟨nd, q1, q2⟩, q3⟩ := hc
      refine ⟨nd, q1, ?_⟩
      unfold rows at q2
      split at q2 <;> first | rfl | cases q2
    simp [killT, hl p this]
  | .ag cs, n, x, b, h => by
    simp only [roT, Option.bind_eq_some_iff] at h
    obtain ⟨⟨xs, b1⟩, h1, _⟩ := h
    simp only [killT]; rw [roL_kill hl cs n xs b1 h1]
  | .fn g cs, n, x, b, h => by
    simp only [roT, Option.bind_eq_some_iff] at h
    obtain ⟨⟨xs, b1⟩, h1, _⟩ := h
    simp only [killT]; rw [roL_kill hl cs 0 xs b1 h1]
  | .tu cs, n, x, b, h => by simp [roT] at h
  | .b _, _, _, _, _ => rfl
  | .i _ _, _, _, _, _ => rfl
  | .f _, _, _, _, _ => rfl
  | .s _, _, _, _, _ => rfl
  | .np, _, _, _, _ => rfl
  | .sl _ _ _, _, _, _, _ => rfl
  | .po _ _, _, _, _, _ => rfl
  | .junk, _, _, _, _ => rfl
  | .pin _, _, _, _, _ => rfl
theorem roL_kill {d : Path → Bool} (hl : ∀ q, Live H q → d q = false) : ∀ (us : List TV) (n : Nat) (xs : List TV) (b : Bool), roL H n us = some (xs, b) → killL d us = us
  | [], _, _, _, _ => rfl
  | u :: us, n, xs, b, h => by
    simp only [roL, Option.bind_eq_some_iff] at h
    obtain ⟨⟨x, b1⟩, h1, ⟨ys, b2⟩, h2, _⟩ := h
    simp only [killL]
    rw [roT_kill hl u n x b1 h1, roL_kill hl us n ys b2 h2]
end
end
end Go.Proofs.YtloodkhdngipbaaT
