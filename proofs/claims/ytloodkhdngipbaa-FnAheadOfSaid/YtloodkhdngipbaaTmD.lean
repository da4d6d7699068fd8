/- TM, part D: shapes kept, references killed, cells taken, written and filled. -/
import Derived.Test.YtloodkhdngipbaaTmC
namespace Go.Proofs.YtloodkhdngipbaaT
set_option linter.unusedVariables false
set_option linter.unusedSimpArgs false
open Go

/-! ### shapes -/
section
theorem shape_upk (φ : TV → TV) (s : Nat × Nat) (u : TV) : shape (upk φ s u) = shape u := by
  cases u with
  | sl own z es => cases own <;> simp [upk, shape]
  | po own cs =>
    cases own
    · rfl
    · simp only [upk, shape]; split <;> simp
  | _ => rfl

theorem kid_upk_same (φ : TV → TV) (s : Nat × Nat) (u : TV) : kid (upk φ s u) s = (kid u s).map φ := by
  cases u with
  | sl own z es =>
    cases own
    · rfl
    · simp only [upk, kid, List.getElem?_modify_eq]
      cases es[s.1]? with
      | none => rfl
      | some e => simp
  | po own cs =>
    cases own
    · rfl
    · simp only [upk, kid]; split <;> simp
  | _ => rfl

theorem kid_upk_ne (φ : TV → TV) (s s' : Nat × Nat) (u : TV) (h : s' ≠ s) : kid (upk φ s u) s' = kid u s' := by
  obtain ⟨i, f⟩ := s
  obtain ⟨i', f'⟩ := s'
  cases u with
  | sl own z es =>
    cases own
    · rfl
    · simp only [upk, kid, List.getElem?_modify]
      by_cases hi : i = i'
      · subst hi
        have hf : f ≠ f' := by rintro rfl; exact h rfl
        cases es[i]? with
        | none => rfl
        | some e => simp [hf]
      · simp [hi]
  | po own cs =>
    cases own
    · rfl
    · simp only [upk, kid]
      by_cases hi : i' = 0
      · subst hi
        by_cases hi : i = 0
        · subst hi
          have hf : f ≠ f' := by rintro rfl; exact h rfl
          simp [hf]
        · simp [hi]
      · simp [hi]
  | _ => rfl

theorem down_modd_shape (φ : TV → TV) : ∀ (r q : Path) (u : TV), ¬ r <+: q → (down (modd φ r u) q).bind shape = (down u q).bind shape := by
  intro r
  induction r with
  | nil => intro q u h; exact absurd (List.nil_prefix) h
  | cons s r ih =>
    intro q u h
    cases q with
    | nil => simp [down, modd, shape_upk]
    | cons s' q =>
      simp only [down, modd]
      by_cases hs : s' = s
      · subst hs
        rw [kid_upk_same]
        have h' : ¬ r <+: q := fun hh => h (by simpa using hh)
        cases kid u s' with
        | none => rfl
        | some x => simpa using ih q x h'
      · rw [kid_upk_ne _ _ _ _ hs]

theorem shapeAt_modH (H : Hp) (φ : TV → TV) (t q : Path) (h : ¬ t <+: q) : shapeAt (modH H φ t) q = shapeAt H q := by
  cases t with
  | nil => exact absurd (List.nil_prefix) h
  | cons s r =>
    cases q with
    | nil => rfl
    | cons s' q =>
      simp only [shapeAt, cellAt]
      rw [modH_get]
      by_cases hs : s' = s
      · subst hs
        simp only [if_true]
        have h' : ¬ r <+: q := fun hh => h (by simpa using hh)
        cases (H s'.1)[s'.2]? with
        | none => rfl
        | some x => simpa using down_modd_shape φ r q x h'
      · simp [hs]

theorem live_iff (H : Hp) (q : Path) : Live H q ↔ (shapeAt H q).isSome = true := by
  unfold Live shapeAt
  cases cellAt H q with
  | none => simp
  | some x => simp
end

/-! ### references that die -/
mutual
def killT (d : Path → Bool) : TV → TV
  | .rf p o l => if d p then .junk else .rf p o l
  | .pt p i f => if d p then .junk else .pt p i f
  | .ag cs => .ag (killL d cs)
  | .tu cs => .tu (killL d cs)
  | .fn g cs => .fn g (killL d cs)
  | .b x => .b x
  | .i k n => .i k n
  | .f x => .f x
  | .s x => .s x
  | .np => .np
  | .sl o z es => .sl o z es
  | .po o cs => .po o cs
  | .junk => .junk
  | .pin v => .pin v
def killL (d : Path → Bool) : List TV → List TV
  | [] => []
  | u :: us => killT d u :: killL d us
end

theorem killL_eq (d : Path → Bool) (cs : List TV) : killL d cs = cs.map (killT d) := by
  induction cs with
  | nil => rfl
  | cons c cs ih => simp [killL, ih]

section
variable {w0 w w' : World} {S0 A K : Nat → Nat → Prop} {κ κ' : Path → Value} {γ γ' : Nat → Nat → Option Path} {H H' : Hp}

theorem RR.kill {u : TV} {v : Value} (h : RR w A u v) (d : Path → Bool) : killT d u = u := by
  induction h with
  | fn g caps capv hl hc ih =>
    simp only [killT, killL_eq]
    congr 1
    refine List.ext_getElem? fun j => ?_
    rw [List.getElem?_map]
    cases hj : caps[j]? with
    | none => rfl
    | some u => simp [ih j u hj]
  | _ => rfl

theorem RV.kill {u : TV} {v : Value} (h : RV w κ H A u v) (d : Path → Bool)
    (hd : ∀ q, d q = false → (shapeAt H q).isSome = true → κ' q = κ q ∧ shapeAt H' q = shapeAt H q)
    (hk : Keep K w w') (hA : ∀ b o, A b o → K b o) : RV w' κ' H' A (killT d u) v := by
  induction h with
  | pure u v h => rw [h.kill]; exact .pure u v (h.keep hk hA (fun _ _ h => h))
  | nil z => exact .nil z
  | rf0 p z off hk' hc =>
    simp only [killT]
    split
    · exact .pure _ _ (.junk _)
    · rename_i hp
      obtain ⟨h1, h2⟩ := hd p (by simpa using hp) (by rw [hc]; rfl)
      exact .rf0 p z off (h1.trans hk') (h2.trans hc)
  | rf p z n c B o off len hk' hc hb hn =>
    simp only [killT]
    split
    · exact .pure _ _ (.junk _)
    · rename_i hp
      obtain ⟨h1, h2⟩ := hd p (by simpa using hp) (by rw [hc]; rfl)
      exact .rf p z n c B o off len (h1.trans hk') (h2.trans hc) hb hn
  | rfE p z n c B o off o1 c1 hk' hc g1 g2 g3 =>
    simp only [killT]
    split
    · exact .pure _ _ (.junk _)
    · rename_i hp
      obtain ⟨h1, h2⟩ := hd p (by simpa using hp) (by rw [hc]; rfl)
      exact .rfE p z n c B o off o1 c1 (h1.trans hk') (h2.trans hc) g1 g2 g3
  | ptS p z n c B o i f hk' hc hi hf =>
    simp only [killT]
    split
    · exact .pure _ _ (.junk _)
    · rename_i hp
      obtain ⟨h1, h2⟩ := hd p (by simpa using hp) (by rw [hc]; rfl)
      exact .ptS p z n c B o i f (h1.trans hk') (h2.trans hc) hi hf
  | ptP p B o f n hk' hc hf =>
    simp only [killT]
    split
    · exact .pure _ _ (.junk _)
    · rename_i hp
      obtain ⟨h1, h2⟩ := hd p (by simpa using hp) (by rw [hc]; rfl)
      exact .ptP p B o f n (h1.trans hk') (h2.trans hc) hf
  | ag cs vs hl hc ih =>
    simp only [killT, killL_eq]
    refine .ag _ vs (by simpa using hl) fun j u hu => ?_
    rw [List.getElem?_map] at hu
    cases hj : cs[j]? with
    | none => simp [hj] at hu
    | some x => simp only [hj, Option.map_some, Option.some.injEq] at hu; subst hu; exact ih j x hj
  | tu cs vs hl hc ih =>
    simp only [killT, killL_eq]
    refine .tu _ vs (by simpa using hl) fun j u hu => ?_
    rw [List.getElem?_map] at hu
    cases hj : cs[j]? with
    | none => simp [hj] at hu
    | some x => simp only [hj, Option.map_some, Option.some.injEq] at hu; subst hu; exact ih j x hj
  | fn g cs vs hl hc ih =>
    simp only [killT, killL_eq]
    refine .fn g _ vs (by simpa using hl) fun j u hu => ?_
    rw [List.getElem?_map] at hu
    cases hj : cs[j]? with
    | none => simp [hj] at hu
    | some x => simp only [hj, Option.map_some, Option.some.injEq] at hu; subst hu; exact ih j x hj

theorem RV.mono {u : TV} {v : Value} (h : RV w κ H A u v)
    (hd : ∀ q, (shapeAt H q).isSome = true → κ' q = κ q ∧ shapeAt H' q = shapeAt H q)
    (hk : Keep K w w') (hA : ∀ b o, A b o → K b o) : RV w' κ' H' A u v := by
  induction h with
  | pure u v h => exact .pure u v (h.keep hk hA (fun _ _ h => h))
  | nil z => exact .nil z
  | rf0 p z off hk' hc => obtain ⟨h1, h2⟩ := hd p (by rw [hc]; rfl); exact .rf0 p z off (h1.trans hk') (h2.trans hc)
  | rf p z n c B o off len hk' hc hb hn => obtain ⟨h1, h2⟩ := hd p (by rw [hc]; rfl); exact .rf p z n c B o off len (h1.trans hk') (h2.trans hc) hb hn
  | rfE p z n c B o off o1 c1 hk' hc g1 g2 g3 => obtain ⟨h1, h2⟩ := hd p (by rw [hc]; rfl); exact .rfE p z n c B o off o1 c1 (h1.trans hk') (h2.trans hc) g1 g2 g3
  | ptS p z n c B o i f hk' hc hi hf => obtain ⟨h1, h2⟩ := hd p (by rw [hc]; rfl); exact .ptS p z n c B o i f (h1.trans hk') (h2.trans hc) hi hf
  | ptP p B o f n hk' hc hf => obtain ⟨h1, h2⟩ := hd p (by rw [hc]; rfl); exact .ptP p B o f n (h1.trans hk') (h2.trans hc) hf
  | ag cs vs hl hc ih => exact .ag cs vs hl ih
  | tu cs vs hl hc ih => exact .tu cs vs hl ih
  | fn g cs vs hl hc ih => exact .fn g cs vs hl ih

/-! ### taking -/
mutual
/-- No reference in it, nor anything that is no single cell. -/
def noref : TV → Bool
  | .rf .. | .pt .. | .ag _ | .tu _ | .junk => false
  | .sl own _ _ => !own
  | .po own _ => !own
  | .fn _ cs => norefL cs
  | .b _ | .i .. | .f _ | .s _ | .np | .pin _ => true
def norefL : List TV → Bool
  | [] => true
  | u :: us => noref u && norefL us
end
theorem norefL_eq (cs : List TV) : norefL cs = cs.all noref := by
  induction cs with
  | nil => rfl
  | cons c cs ih => simp [norefL, ih]

theorem RV.pure_of {u : TV} {v : Value} (h : RV w κ H A u v) (hn : noref u = true) : RR w A u v := by
  induction h with
  | pure u v h => exact h
  | fn g cs vs hl hc ih =>
    refine .fn g cs vs hl fun j u hu => ih j u hu ?_
    simp only [noref, norefL_eq, List.all_eq_true] at hn
    exact hn u (List.mem_of_getElem? hu)
  | _ => cases hn

/-- A cell's content, taken from where it stands. -/
def take1 (H : Hp) : TV → Option (TV × Hp × List Path)
  | .rf p off len => match cellAt H p with
    | some (.sl true z es) => some (.sl true z ((es.drop off).take len), modH H (fun _ => .junk) p, [p])
    | _ => none
  | .pt p 0 0 => match cellAt H p with
    | some (.po true cs) => some (.po true cs, modH H (fun _ => .junk) p, [p])
    | _ => none
  | .sl true z [] => some (.sl true z [], H, [])
  | u => if noref u then some (u, H, []) else none

def takeL : List TV → Hp → Option (List TV × Hp × List Path)
  | [], H => some ([], H, [])
  | c :: cs, H => (take1 H c).bind fun x => (takeL cs x.2.1).bind fun y => some (x.1 :: y.1, y.2.1, x.2.2 ++ y.2.2)

/-- The heap with a list of loose cells at root 0. -/
def wr0 (H : Hp) (L : List TV) : Hp := fun y => if y = 0 then L else H y

theorem wr0_self (h : H 0 = []) : wr0 H [] = H := by
  funext y; simp only [wr0]; split
  · rename_i hy; rw [hy, h]
  · rfl

theorem cellAt_wr0 (L : List TV) (p : Path) (h : ∀ j r, p ≠ (0, j) :: r) : cellAt (wr0 H L) p = cellAt H p := by
  cases p with
  | nil => rfl
  | cons s r =>
    have : s.1 ≠ 0 := by intro h0; exact h s.2 r (by rw [← h0])
    simp [cellAt, wr0, this]

theorem modH_wr0 (φ : TV → TV) (L : List TV) (p : Path) (h : ∀ j r, p ≠ (0, j) :: r) : modH (wr0 H L) φ p = wr0 (modH H φ p) L := by
  cases p with
  | nil => rfl
  | cons s r =>
    have h1 : s.1 ≠ 0 := by intro h0; exact h s.2 r (by rw [← h0])
    funext y
    simp only [modH, wr0]
    by_cases hy : y = 0
    · subst hy; simp [Ne.symm h1]
    · simp [hy]

theorem not0_of_live (h0 : H 0 = []) {p : Path} {x : TV} (h : cellAt H p = some x) : ∀ j r, p ≠ (0, j) :: r := by
  rintro j r rfl
  simp [cellAt, h0] at h

theorem modH_zero (φ : TV → TV) {p : Path} (h0 : H 0 = []) : modH H φ p 0 = [] := by
  cases p with
  | nil => exact h0
  | cons s r => simp only [modH]; split <;> simp [h0]

theorem TR.move0 {ps t : Path} {u : TV} {v : Value} (h : TR w κ γ A ps u v) :
    TR w (mvκ κ ps t 0 v) (fun b o => (γ b o).map (rnm ps t 0)) A t u v := by
  refine h.ren (K := fun _ _ => True) _ (fun r nd hd hs' => ⟨?_, fun b o' hb' => ⟨?_, trivial⟩⟩) (Keep.refl _ w) (fun _ _ _ => trivial) (fun _ _ h => h)
  · cases r with
    | nil =>
      simp only [List.append_nil]
      rw [mvκ_self]
      cases hd
      cases h with
      | pure p u v h => rw [h.noshape] at hs'; cases hs'
      | sl0 p z hk => exact hk.symm
      | sl p z n c B o es arr T hk => exact hk.symm
      | po p B o cs arr T hk => exact hk.symm
    | cons s r => simpa using mvκ_under (κ := κ) (ps := ps) (t := t) (off := 0) (v := v) s r
  · rw [hb']
    cases r with
    | nil => simp [rnm_self]
    | cons s r => simpa using rnm_under ps t 0 s r

theorem take1_ok {L : List TV} {c u : TV} {v : Value} {H1 : Hp} {d : List Path} (h : HR w0 S0 A w κ γ (wr0 H L)) (h0 : H 0 = [])
    (hv : RV w κ H A c v) (ht : take1 H c = some (u, H1, d)) :
    ∃ κ' γ', HR w0 S0 A w κ' γ' (wr0 H1 (L ++ [u])) ∧ H1 0 = [] ∧ κ' [(0, L.length)] = v ∧
      (∀ q, ¬ [(0, L.length)] <+: q → κ' q = κ q) ∧ (∀ q, (∀ p ∈ d, ¬ p <+: q) → shapeAt H1 q = shapeAt H q) ∧
      ((shape u).isSome = true ∨ RR w A u v) ∧ (∀ q, Live H1 q → ∀ p ∈ d, ¬ p <+: q) := by
  have hlen : (wr0 H L 0).length = L.length := by simp [wr0]
  have hwr : ∀ (X : Hp) (y : TV), (fun z => if z = 0 then wr0 X L 0 ++ [y] else wr0 X L z) = wr0 X (L ++ [y]) := by
    intro X y; funext z; simp only [wr0]; by_cases hz : z = 0 <;> simp [hz]
  have pureCase : noref c = true → u = c → H1 = H → d = [] → ∃ κ' γ', HR w0 S0 A w κ' γ' (wr0 H1 (L ++ [u])) ∧ H1 0 = [] ∧ κ' [(0, L.length)] = v ∧
      (∀ q, ¬ [(0, L.length)] <+: q → κ' q = κ q) ∧ (∀ q, (∀ p ∈ d, ¬ p <+: q) → shapeAt H1 q = shapeAt H q) ∧
      ((shape u).isSome = true ∨ RR w A u v) ∧ (∀ q, Live H1 q → ∀ p ∈ d, ¬ p <+: q) := by
    rintro hn rfl rfl rfl
    have hr := hv.pure_of hn
    have hp := h.push (ps := [(0, (wr0 H1 L 0).length)]) (u' := u) (x := v) (o1 := 0) (id := 0) (by
      rintro q ⟨x, hx, hs⟩ ⟨r, rfl⟩
      simp [cellAt] at hx) (.pure _ _ _ hr)
    rw [hwr, hlen] at hp
    exact ⟨_, _, hp, h0, mvκ_self, fun q hq => mvκ_not q hq, fun _ _ => rfl, .inr hr, fun _ _ _ hp => by cases hp⟩
  have other : (∀ p o l, c ≠ .rf p o l) → (∀ p i f, c ≠ .pt p i f) → (∀ z, c ≠ .sl true z []) → noref c = true ∧ u = c ∧ H1 = H ∧ d = [] := by
    intro h1 h2 h3
    have : take1 H c = if noref c then some (c, H, []) else none := by
      cases c with
      | rf p o l => exact absurd rfl (h1 p o l)
      | pt p i f => exact absurd rfl (h2 p i f)
      | sl o z es =>
        cases o with
        | false => rfl
        | true =>
          cases es with
          | nil => exact absurd rfl (h3 z)
          | cons e es => rfl
      | _ => rfl
    rw [this] at ht
    split at ht
    · rename_i hn
      simp only [Option.some.injEq, Prod.mk.injEq] at ht
      exact ⟨hn, ht.1.symm, ht.2.1.symm, ht.2.2.symm⟩
    · cases ht
  have nodeCase : ∀ (p : Path) (x : TV), cellAt H p = some x → (shape u).isSome = true → H1 = modH H (fun _ => .junk) p → d = [p] →
      (∀ t, ∃ o1, TR w (mvκ κ p t o1 v) (fun b o => (γ b o).map (rnm p t o1)) A t u v) →
      ∃ κ' γ', HR w0 S0 A w κ' γ' (wr0 H1 (L ++ [u])) ∧ H1 0 = [] ∧ κ' [(0, L.length)] = v ∧
      (∀ q, ¬ [(0, L.length)] <+: q → κ' q = κ q) ∧ (∀ q, (∀ p ∈ d, ¬ p <+: q) → shapeAt H1 q = shapeAt H q) ∧
      ((shape u).isSome = true ∨ RR w A u v) ∧ (∀ q, Live H1 q → ∀ p ∈ d, ¬ p <+: q) := by
    rintro p x hx hs rfl rfl hT
    have hn0 := not0_of_live h0 hx
    have hx' : cellAt (wr0 H L) p = some x := by rw [cellAt_wr0 _ _ hn0]; exact hx
    have hj := h.junk hx'
    have hl := live_junk hx'
    rw [modH_wr0 _ _ _ hn0] at hj hl
    have hlen' : (wr0 (modH H (fun _ => .junk) p) L 0).length = L.length := by simp [wr0]
    obtain ⟨o1, hT1⟩ := hT [(0, (wr0 (modH H (fun _ => .junk) p) L 0).length)]
    have hp := hj.push (id := 0) hl hT1
    rw [hwr, hlen'] at hp
    exact ⟨_, _, hp, modH_zero _ h0, mvκ_self, fun q hq => mvκ_not q hq, fun q hq => shapeAt_modH _ _ _ _ (hq p (by simp)), .inl hs, fun q hq p' hp' => by
      simp only [List.mem_singleton] at hp'; subst hp'; exact live_junk hx q hq⟩
  have owned : ∀ (p : Path) (x : TV), cellAt H p = some x → ∃ v1, TR w κ γ A p x v1 := by
    intro p x hx
    have hn0 := not0_of_live h0 hx
    exact h.at (by rw [cellAt_wr0 _ _ hn0]; exact hx)
  cases hv with
  | pure u v hr =>
    obtain ⟨h1, h2, h3, h4⟩ := other (by rintro p o l rfl; cases hr) (by rintro p i f rfl; cases hr) (by rintro z rfl; cases hr)
    exact pureCase h1 h2 h3 h4
  | nil z =>
    simp only [take1, Option.some.injEq, Prod.mk.injEq] at ht
    obtain ⟨rfl, rfl, rfl⟩ := ht
    have hp := h.push (ps := [(0, (wr0 H L 0).length)]) (u' := .sl true z []) (x := .slice none 0 0) (o1 := 0) (id := 0) (by
      rintro q ⟨x, hx, hs⟩ ⟨r, rfl⟩
      simp [cellAt] at hx) (.sl0 _ _ mvκ_self)
    rw [hwr, hlen] at hp
    exact ⟨_, _, hp, h0, mvκ_self, fun q hq => mvκ_not q hq, fun _ _ => rfl, .inl rfl, fun _ _ _ hp => by cases hp⟩
  | ag cs vs hl hc => exact pureCase (other (by simp) (by simp) (by simp)).1 (other (by simp) (by simp) (by simp)).2.1 (other (by simp) (by simp) (by simp)).2.2.1 (other (by simp) (by simp) (by simp)).2.2.2
  | tu cs vs hl hc => exact pureCase (other (by simp) (by simp) (by simp)).1 (other (by simp) (by simp) (by simp)).2.1 (other (by simp) (by simp) (by simp)).2.2.1 (other (by simp) (by simp) (by simp)).2.2.2
  | fn g cs vs hl hc => exact pureCase (other (by simp) (by simp) (by simp)).1 (other (by simp) (by simp) (by simp)).2.1 (other (by simp) (by simp) (by simp)).2.2.1 (other (by simp) (by simp) (by simp)).2.2.2
  | rf0 p z off hk hc =>
    simp only [take1] at ht
    split at ht
    case h_2 => cases ht
    rename_i z' es hx
    simp only [Option.some.injEq, Prod.mk.injEq] at ht
    obtain ⟨rfl, rfl, rfl⟩ := ht
    simp only [shapeAt, hx, Option.bind_some, shape, Option.some.injEq, Prod.mk.injEq, true_and] at hc
    obtain ⟨rfl, hlz⟩ := hc
    obtain ⟨v1, hv1⟩ := owned p _ hx
    refine nodeCase p _ hx rfl rfl rfl fun t => ⟨0, ?_⟩
    have hm := hv1.move (t := t) (off := 0) (len := 0) (by omega)
    have hv1' : v1 = .slice none 0 0 := by
      cases hv1 with
      | pure p u v h => cases h
      | sl0 p z hk => rfl
      | sl p z n c B o es arr T hk2 => rw [hk] at hk2; cases hk2
    subst hv1'
    simpa [cutU, cutV] using hm
  | rf p z n c B o off len hk hc hb hn =>
    simp only [take1] at ht
    split at ht
    case h_2 => cases ht
    rename_i z' es hx
    simp only [Option.some.injEq, Prod.mk.injEq] at ht
    obtain ⟨rfl, rfl, rfl⟩ := ht
    simp only [shapeAt, hx, Option.bind_some, shape, Option.some.injEq, Prod.mk.injEq, true_and] at hc
    obtain ⟨rfl, hlz⟩ := hc
    obtain ⟨v1, hv1⟩ := owned p _ hx
    refine nodeCase p _ hx rfl rfl rfl fun t => ⟨off, ?_⟩
    have hm := hv1.move (t := t) (off := off) (len := len) (by omega)
    have hv1' : v1 = .slice (some ⟨B, o, none⟩) n c := by
      cases hv1 with
      | pure p u v h => cases h
      | sl0 p z hk2 => rw [hk] at hk2; cases hk2
      | sl p z n c B o es arr T hk2 => rw [hk] at hk2; exact hk2.symm
    subst hv1'
    simpa [cutU, cutV] using hm
  | rfE p z n c B o off o1 c1 hk hc g1 g2 g3 =>
    simp only [take1] at ht
    split at ht
    case h_2 => cases ht
    rename_i z' es hx
    simp only [Option.some.injEq, Prod.mk.injEq] at ht
    obtain ⟨rfl, rfl, rfl⟩ := ht
    simp only [shapeAt, hx, Option.bind_some, shape, Option.some.injEq, Prod.mk.injEq, true_and] at hc
    obtain ⟨rfl, hlz⟩ := hc
    obtain ⟨v1, hv1⟩ := owned p _ hx
    refine nodeCase p _ hx rfl rfl rfl fun t => ⟨0, ?_⟩
    cases hv1 with
    | pure p u v h => cases h
    | sl0 p z hk2 => rw [hk] at hk2; cases hk2
    | sl p z n' c' B' o' es arr T hk2 hl hn hz hb hs hg hcc =>
      rw [hk] at hk2; cases hk2
      rw [List.take_zero]
      refine .sl t _ 0 c1 B o1 [] arr T mvκ_self rfl (Nat.zero_le _) (by simp) hb (by omega) (fun k hk' => ?_) (by simp)
      have := hg (o1 - o + k) (by omega)
      rw [show o + (o1 - o + k) = o1 + k by omega] at this
      rw [this]; simp [rnm_self]
  | ptS p z n c B o i f hk hc hi hf =>
    cases i with
    | succ i => simp [take1, noref] at ht
    | zero =>
      cases f with
      | succ f => simp [take1, noref] at ht
      | zero =>
        simp only [take1] at ht
        split at ht
        case h_2 => cases ht
        rename_i cs hx
        simp [shapeAt, hx, shape] at hc
  | ptP p B o f n hk hc hf =>
    cases f with
    | succ f => simp [take1, noref] at ht
    | zero =>
      simp only [take1] at ht
      split at ht
      case h_2 => cases ht
      rename_i cs hx
      simp only [Option.some.injEq, Prod.mk.injEq] at ht
      obtain ⟨rfl, rfl, rfl⟩ := ht
      obtain ⟨v1, hv1⟩ := owned p _ hx
      refine nodeCase p _ hx rfl rfl rfl fun t => ⟨0, ?_⟩
      have hv1' : v1 = .pointer (some ⟨B, o, none⟩) := by
        cases hv1 with
        | pure p u v h => cases h
        | po p B o cs arr T hk2 => rw [hk] at hk2; exact hk2.symm
      subst hv1'
      exact hv1.move0

/-- What is known of a cell that is to be taken: enough, if it can be taken at all. -/
structure Rs (w : World) (κ : Path → Value) (H : Hp) (A : Nat → Nat → Prop) (c : TV) (v : Value) : Prop where
  pure : noref c = true → RR w A c v
  rf : ∀ p o l, c = .rf p o l → Live H p → RV w κ H A c v
  pt : ∀ p i f, c = .pt p i f → Live H p → RV w κ H A c v
  nil : ∀ z, c = .sl true z [] → v = .slice none 0 0

theorem RV.rs {c : TV} {v : Value} (h : RV w κ H A c v) : Rs w κ H A c v := ⟨h.pure_of, fun _ _ _ _ _ => h, fun _ _ _ _ _ => h, fun z hz => by subst hz; cases h with | pure u v h => cases h | nil z => rfl⟩

theorem Rs.rv {c u : TV} {v : Value} {H1 : Hp} {d : List Path} (h : Rs w κ H A c v) (ht : take1 H c = some (u, H1, d)) : RV w κ H A c v := by
  cases c with
  | rf p o l =>
    refine h.rf p o l rfl ?_
    simp only [take1] at ht
    split at ht
    · rename_i z es hx; exact ⟨_, hx, rfl⟩
    · cases ht
  | pt p i f =>
    refine h.pt p i f rfl ?_
    cases i with
    | succ i => simp [take1, noref] at ht
    | zero =>
      cases f with
      | succ f => simp [take1, noref] at ht
      | zero =>
        simp only [take1] at ht
        split at ht
        · rename_i cs hx; exact ⟨_, hx, rfl⟩
        · cases ht
  | sl o z es =>
    cases o with
    | false => exact .pure _ _ (h.pure rfl)
    | true =>
      cases es with
      | nil => rw [h.nil z rfl]; exact .nil z
      | cons e es => simp [take1, noref] at ht
  | _ =>
    refine .pure _ _ (h.pure ?_)
    simp only [take1] at ht
    split at ht
    · assumption
    · cases ht

theorem Rs.after {c : TV} {v : Value} (h : Rs w κ H A c v) (hl : ∀ q, Live H' q → Live H q ∧ κ' q = κ q ∧ shapeAt H' q = shapeAt H q) : Rs w κ' H' A c v := by
  refine ⟨h.pure, ?_, ?_, h.nil⟩
  · rintro p o l rfl hlv
    obtain ⟨h1, h2, h3⟩ := hl p hlv
    have hr := h.rf p o l rfl h1
    cases hr with
    | pure u v h => cases h
    | rf0 p z off hk hc => exact .rf0 _ _ _ (h2.trans hk) (h3.trans hc)
    | rf p z n c B o off len hk hc hb hn => exact .rf _ _ _ _ _ _ _ _ (h2.trans hk) (h3.trans hc) hb hn
    | rfE p z n c B o off o1 c1 hk hc g1 g2 g3 => exact .rfE _ _ _ _ _ _ _ _ _ (h2.trans hk) (h3.trans hc) g1 g2 g3
  · rintro p i f rfl hlv
    obtain ⟨h1, h2, h3⟩ := hl p hlv
    have hr := h.pt p i f rfl h1
    cases hr with
    | pure u v h => cases h
    | ptS p z n c B o i f hk hc hi hf => exact .ptS _ _ _ _ _ _ _ _ (h2.trans hk) (h3.trans hc) hi hf
    | ptP p B o f n hk hc hf => exact .ptP _ _ _ _ _ (h2.trans hk) (h3.trans hc) hf

/-- A whole list taken. -/
theorem takeL_ok : ∀ (cs : List TV) (vs : List Value) (L us : List TV) (H H1 : Hp) (κ : Path → Value) (γ : Nat → Nat → Option Path) (d : List Path),
    HR w0 S0 A w κ γ (wr0 H L) → H 0 = [] → cs.length = vs.length → (∀ (j : Nat) (c : TV) (v : Value), cs[j]? = some c → vs[j]? = some v → Rs w κ H A c v) → takeL cs H = some (us, H1, d) →
    ∃ κ' γ', HR w0 S0 A w κ' γ' (wr0 H1 (L ++ us)) ∧ H1 0 = [] ∧ us.length = cs.length ∧ (∀ (j : Nat) (v : Value), vs[j]? = some v → κ' [(0, L.length + j)] = v) ∧
      (∀ q, (∀ j r, q ≠ (0, L.length + j) :: r) → κ' q = κ q) ∧ (∀ q, (∀ p ∈ d, ¬ p <+: q) → shapeAt H1 q = shapeAt H q) ∧
      (∀ (j : Nat) (u : TV) (v : Value), us[j]? = some u → vs[j]? = some v → (shape u).isSome = true ∨ RR w A u v) ∧ (∀ q, Live H1 q → ∀ p ∈ d, ¬ p <+: q) := by
  intro cs
  induction cs with
  | nil =>
    intro vs L us H H1 κ γ d h h0 hlen hv ht
    simp only [takeL, Option.some.injEq, Prod.mk.injEq] at ht
    obtain ⟨rfl, rfl, rfl⟩ := ht
    have : vs = [] := List.eq_nil_of_length_eq_zero (by simpa using hlen.symm)
    subst this
    exact ⟨κ, γ, by simpa using h, h0, rfl, by simp, fun _ _ => rfl, fun _ _ => rfl, by simp, by simp⟩
  | cons c cs ih =>
    intro vs L us H H1 κ γ d h h0 hlen hv ht
    cases vs with
    | nil => simp at hlen
    | cons v vs =>
      simp only [takeL, Option.bind_eq_some_iff, Option.some.injEq, Prod.mk.injEq] at ht
      obtain ⟨⟨u, H2, d2⟩, h1, ⟨us', H3, d3⟩, h2, rfl, rfl, rfl⟩ := ht
      obtain ⟨κ1, γ1, k1, k2, k3, k4, k5, k6, k7⟩ := take1_ok h h0 ((hv 0 c v rfl rfl).rv h1) h1
      have not0 : ∀ q, Live H2 q → ¬ [(0, L.length)] <+: q := by
        rintro q ⟨x, hx, _⟩ ⟨r, rfl⟩
        exact not0_of_live k2 hx _ _ rfl
      have hlv : ∀ q, Live H2 q → Live H q ∧ κ1 q = κ q ∧ shapeAt H2 q = shapeAt H q := by
        intro q hq
        have e := k5 q (k7 q hq)
        exact ⟨by rw [live_iff] at hq ⊢; rw [← e]; exact hq, k4 q (not0 q hq), e⟩
      have hv' : ∀ (j : Nat) (c : TV) (v : Value), cs[j]? = some c → vs[j]? = some v → Rs w κ1 H2 A c v :=
        fun j c' v' hc hv'' => (hv (j + 1) c' v' (by simpa using hc) (by simpa using hv'')).after hlv
      obtain ⟨κ2, γ2, m1, m2, m3, m4, m5, m6, m7, m8⟩ := ih vs (L ++ [u]) us' H2 H3 κ1 γ1 d3 k1 k2 (by simpa using hlen) hv' h2
      have hlen1 : (L ++ [u]).length = L.length + 1 := by simp
      rw [hlen1] at m4 m5
      have shapes : ∀ q, (∀ p ∈ d2 ++ d3, ¬ p <+: q) → shapeAt H3 q = shapeAt H q := fun q hq =>
        (m6 q fun p hp => hq p (List.mem_append_right _ hp)).trans (k5 q fun p hp => hq p (List.mem_append_left _ hp))
      refine ⟨κ2, γ2, by simpa using m1, m2, by simpa using m3, ?_, ?_, shapes, ?_, ?_⟩
      · intro j v' hj
        cases j with
        | zero =>
          simp only [List.getElem?_cons_zero, Option.some.injEq] at hj
          subst hj
          rw [Nat.add_zero, m5 _ (by intro j r hh; simp at hh; omega)]
          exact k3
        | succ j =>
          have := m4 j v' (by simpa using hj)
          rw [show L.length + (j + 1) = L.length + 1 + j by omega]; exact this
      · intro q hq
        rw [m5 q (fun j r hh => hq (j + 1) r (by rw [hh]; congr 2; omega))]
        refine k4 q ?_
        rintro ⟨r, rfl⟩
        exact hq 0 r rfl
      · intro j u' v' hu hv''
        cases j with
        | zero => simp at hu hv''; subst hu; subst hv''; exact k6
        | succ j => exact m7 j u' v' (by simpa using hu) (by simpa using hv'')
      · intro q hq p hp
        rcases List.mem_append.1 hp with hp | hp
        · have e := m6 q (m8 q hq)
          exact k7 q (by rw [live_iff] at hq ⊢; rw [← e]; exact hq) p hp
        · exact m8 q hq p hp
end
end Go.Proofs.YtloodkhdngipbaaT
