/- Texts of this session's own, one behind the other: TmE. -/
import Derived.Test.YtmedelmfkciblaaPk1
import Derived.Deep.MidRow
namespace Go.Proofs.YtmedelmfkciblaaT
set_option linter.unusedVariables false
set_option linter.unusedSimpArgs false
open Go
section
variable {w0 w w' : World} {S0 A K : Nat → Nat → Prop} {κ κ' : Path → Value} {γ γ' : Nat → Nat → Option Path} {H H' : Hp}
theorem setCell_heap {B off : Nat} {arr : Array Value} {T : TypeId} {fz : Nat × Nat} (hb : w.heap[B]? = some (.cells arr T fz)) (x : Value) (k : Nat) :
  (w.setCell ⟨B, off, none⟩ x).heap[k]? = if k = B then some (.cells (arr.setIfInBounds off x) T fz) else w.heap[k]? := by
 simp only [World.setCell, Array.getElem?_modify]
 by_cases hk : k = B
 ·subst hk; simp [hb]
 ·simp [hk, Ne.symm hk]
theorem Keep.setCell {B off : Nat} {arr : Array Value} {T : TypeId} {fz : Nat × Nat} (hb : w.heap[B]? = some (.cells arr T fz)) (x : Value) :
  Keep (fun b o => (b, o) ≠ (B, off)) w (w.setCell ⟨B, off, none⟩ x) := by
 refine ⟨by simp, fun b arr' T' fz' hb' => ?_, fun b o ho hno => ?_⟩
 ·rw [setCell_heap hb]
  by_cases hk : b = B
  ·subst hk
   rw [hb] at hb'; cases hb'
   refine ⟨arr.setIfInBounds off x, by simp, by simp, fun o ho => ?_⟩
   have : off ≠ o := by rintro rfl; exact ho rfl
   rw [Array.getElem?_setIfInBounds_ne this]
  ·simp only [hk, if_false]; exact ⟨arr', hb', rfl, fun _ _ => rfl⟩
 ·rw [setCell_heap hb]
  by_cases hk : b = B
  ·subst hk; rw [hb] at ho; cases ho; exact absurd rfl (hno _ _ _)
  ·simp only [hk, if_false]; exact ho
theorem kid_mod (φ : TV → TV) (p : Path) (s : Nat × Nat) (hp : p ≠ []) : cellAt (modH H φ (p ++ [s])) p = (cellAt H p).map (upk φ s) := by
 cases p with
 | nil => exact absurd rfl hp
 | cons s0 r =>
  simp only [cellAt, List.cons_append]
  rw [modH_get]
  simp only [if_true]
  have key : ∀ (r : Path) (u : TV), down (modd φ (r ++ [s]) u) r = (down u r).map (upk φ s) := by
   intro r
   induction r with
   | nil => intro u; rfl
   | cons s1 r ih =>
    intro u
    simp only [List.cons_append, modd, down]
    rw [kid_upk_same]
    cases kid u s1 with
    | none => rfl
    | some x => simpa using ih x
  cases (H s0.1)[s0.2]? with
  | none => rfl
  | some u => simpa using key r u
theorem cellAddr_upk (k : Value) (φ : TV → TV) (s s' : Nat × Nat) (nd : TV) : cellAddr k (upk φ s nd) s' = cellAddr k nd s' := by
 cases nd with
 | sl own z es => cases own <;> cases k <;> first | rfl | (rename_i a _ _; cases a <;> rfl)
 | po own cs => cases own <;> cases k <;> first | rfl | (rename_i a; cases a <;> rfl)
 | _ => rfl
theorem cellAddr_add {k : Value} {nd : TV} {i f B off : Nat} (h : cellAddr k nd (i, f) = some (B, off)) (j : Nat) : cellAddr k nd (i, f + j) = some (B, off + j) := by
 unfold cellAddr at *
 split at h
 ·simp at h ⊢; omega
 ·simp at h ⊢; omega
 ·cases h
theorem HR.write1 (h : HR w0 S0 A w κ γ H) {p : Path} {nd u0 : TV} {s : Nat × Nat} {B off : Nat} (hp : cellAt H p = some nd) (hk : kid nd s = some u0)
  (hca : cellAddr (κ p) nd s = some (B, off)) (x : Value) :
  HR w0 S0 A (w.setCell ⟨B, off, none⟩ x) κ γ (modH H (fun _ => .junk) (p ++ [s])) := by
 obtain ⟨B', off', arr, T, c1, c2, c3, c4, c5⟩ := h.cell hp hk
 rw [hca] at c1
 simp only [Option.some.injEq, Prod.mk.injEq] at c1
 obtain ⟨rfl, rfl⟩ := c1
 refine h.repl (K := fun b o => (b, o) ≠ (B, off)) hp hk hca c2 (fun _ _ => rfl) (fun _ _ _ _ _ hne => hne) (fun _ _ _ _ _ hb => hb) (Keep.setCell c3 x) ?_ ?_ ?_ ?_
 ·rintro b o ha hh
  simp only [Prod.mk.injEq] at hh
  obtain ⟨rfl, rfl⟩ := hh
  exact h.notA c2 ha
 ·intro b o q hb
  have := h.own b o q hb
  simpa using this
 ·refine h.chg.trans (S' := fun b o => b = B ∧ o = off) ⟨rfl, rfl, rfl, (Keep.setCell c3 x).mono ?_⟩ ?_
  ·intro b o hn hh
   simp only [Prod.mk.injEq] at hh
   exact hn hh
  ·rintro b o ⟨rfl, rfl⟩ hlt
   rcases (h.own b o _ c2).2 with h3 | h3
   ·exact h3
   ·omega
 ·intro arr' T' _
  exact .pure _ _ _ (.junk _)
def putL (p : Path) (i : Nat) : Nat → List TV → Hp → Hp
 | _, [], H => H
 | f, u :: us, H => putL p i (f + 1) us (modH H (fun _ => u) (p ++ [(i, f)]))
theorem Keep.setCells {B : Nat} {T : TypeId} {fz : Nat × Nat} : ∀ (vs : List Value) (off : Nat) (w : World) (arr : Array Value), w.heap[B]? = some (.cells arr T fz) → off + vs.length ≤ arr.size →
  Keep (fun b o => b ≠ B ∨ o < off ∨ off + vs.length ≤ o) w (w.setCells B off vs) ∧
  ∃ arr', (w.setCells B off vs).heap[B]? = some (.cells arr' T fz) ∧ arr'.size = arr.size ∧ ∀ j v, vs[j]? = some v → arr'[off + j]? = some v
 | [], off, w, arr, hb, _ => ⟨.refl _ w, arr, hb, rfl, by simp⟩
 | v :: vs, off, w, arr, hb, hs => by
  simp only [List.length_cons] at hs
  have h1 : (w.setCell ⟨B, off, none⟩ v).heap[B]? = some (.cells (arr.setIfInBounds off v) T fz) := by rw [setCell_heap hb]; simp
  obtain ⟨k1, arr', k2, k3, k4⟩ := Keep.setCells vs (off + 1) (w.setCell ⟨B, off, none⟩ v) _ h1 (by simp; omega)
  refine ⟨((Keep.setCell hb v).trans k1).mono fun b o ho => ?_, arr', k2, by simpa using k3, fun j x hj => ?_⟩
  ·simp only [List.length_cons] at ho
   refine ⟨?_, by omega⟩
   intro hh
   simp only [Prod.mk.injEq] at hh
   omega
  ·cases j with
   | zero =>
    simp only [List.getElem?_cons_zero, Option.some.injEq] at hj
    subst hj
    obtain ⟨a2, m1, m2, m3⟩ := k1.cells B _ T fz h1
    have e : a2 = arr' := by rw [k2] at m1; cases m1; rfl
    subst e
    rw [Nat.add_zero, m3 off (by omega), Array.getElem?_setIfInBounds]
    have : off < arr.size := by omega
    simp [this]
   | succ j => rw [show off + (j + 1) = off + 1 + j by omega]; exact k4 j x (by simpa using hj)
theorem HR.writeL {p : Path} {i B : Nat} (hp0 : p ≠ []) : ∀ (vs : List Value) (f off : Nat) (w : World) (H : Hp) (nd : TV), HR w0 S0 A w κ γ H → cellAt H p = some nd →
  (∀ j, j < vs.length → (kid nd (i, f + j)).isSome = true) → cellAddr (κ p) nd (i, f) = some (B, off) →
  HR w0 S0 A (w.setCells B off vs) κ γ (putL p i f (vs.map fun _ => .junk) H)
 | [], _, _, _, _, _, h, _, _, _ => h
 | v :: vs, f, off, w, H, nd, h, hp, hk, hca => by
  obtain ⟨u0, hu0⟩ := Option.isSome_iff_exists.1 (hk 0 (by simp))
  have h1 := h.write1 hp hu0 hca v
  simp only [List.map_cons, putL, World.setCells]
  refine HR.writeL hp0 vs (f + 1) (off + 1) _ _ (upk (fun _ => .junk) (i, f) nd) h1 (by rw [kid_mod _ _ _ hp0, hp]; rfl) (fun j hj => ?_) ?_
  ·rw [kid_upk_ne _ _ _ _ (by simp; omega)]
   have := hk (j + 1) (by simp; omega)
   rwa [show f + 1 + j = f + (j + 1) by omega]
  ·rw [cellAddr_upk]; exact cellAddr_add hca 1
theorem HR.fillL {p : Path} {i B : Nat} (hp0 : p ≠ []) (hpz : ∀ j r, p ≠ (0, j) :: r) {arr : Array Value} {T : TypeId} (hb : w.heap[B]? = some (.cells arr T (0, 0))) :
  ∀ (us : List TV) (vs : List Value) (f off j : Nat) (L : List TV) (H : Hp) (nd : TV) (κ : Path → Value) (γ : Nat → Nat → Option Path),
  HR w0 S0 A w κ γ (wr0 H L) → H 0 = [] → us.length = vs.length → (∀ (k : Nat) (u : TV) (v : Value), us[k]? = some u → vs[k]? = some v → L[j + k]? = some u ∧ κ [(0, j + k)] = v) →
  cellAt H p = some nd → (∀ k, k < us.length → (kid nd (i, f + k)).isSome = true) → cellAddr (κ p) nd (i, f) = some (B, off) →
  (∀ (k : Nat) (v : Value), vs[k]? = some v → (arr[off + k]?).getD undef = v) →
  ∃ κ' γ' L', HR w0 S0 A w κ' γ' (wr0 (putL p i f us H) L') ∧ (putL p i f us H) 0 = [] ∧ (∀ q, (∀ k, k < us.length → ¬ p ++ [(i, f + k)] <+: q) → κ' q = κ q) := by
 intro us
 induction us with
 | nil => intro vs f off j L H nd κ γ h h0 _ _ _ _ _ _; exact ⟨κ, γ, L, h, h0, fun _ _ => rfl⟩
 | cons u us ih =>
  intro vs f off j L H nd κ γ h h0 hlen hL hp hk hca hv
  cases vs with
  | nil => simp at hlen
  | cons v vs =>
   obtain ⟨l1, l2⟩ := hL 0 u v rfl rfl
   simp only [Nat.add_zero] at l1 l2
   have hcell : cellAt (wr0 H L) [(0, j)] = some u := by rw [cellAt_root]; simpa [wr0] using l1
   have hT := h.root (0, j) u (by simpa [wr0] using l1)
   rw [l2] at hT
   have hj := h.junk hcell
   have hl := live_junk hcell
   have e1 : modH (wr0 H L) (fun _ => .junk) [(0, j)] = wr0 H (L.modify j fun _ => .junk) := by
    funext y
    simp only [modH, wr0]
    by_cases hy : y = 0 <;> simp [hy, modd]
   rw [e1] at hj hl
   have hp' : cellAt (wr0 H (L.modify j fun _ => .junk)) p = some nd := by rw [cellAt_wr0 _ _ hpz]; exact hp
   obtain ⟨u0, hu0⟩ := Option.isSome_iff_exists.1 (hk 0 (by simp))
   simp only [Nat.add_zero] at hu0
   have hf := hj.fill (ps := [(0, j)]) (u' := u) (x := v) (o1 := 0) hp' hu0 hl hT.move0 (by
    intro B1 off1 arr1 T1 g1 g2
    rw [hca] at g1
    simp only [Option.some.injEq, Prod.mk.injEq] at g1
    obtain ⟨rfl, rfl⟩ := g1
    rw [hb] at g2; cases g2
    simpa using hv 0 v rfl)
   have hpz' : ∀ j r, p ++ [(i, f)] ≠ (0, j) :: r := by
    cases p with
    | nil => exact absurd rfl hp0
    | cons s0 r0 =>
     intro j r hh
     simp only [List.cons_append, List.cons.injEq] at hh
     exact hpz j r0 (by rw [hh.1])
   rw [modH_wr0 _ _ _ hpz'] at hf
   have np : ¬ p ++ [(i, f)] <+: p := npre_snoc _ _ _
   have n0 : ∀ k, ¬ p ++ [(i, f)] <+: [(0, k)] := by
    rintro k ⟨t, ht⟩
    cases p with
    | nil => exact absurd rfl hp0
    | cons s0 r0 => simp at ht
   obtain ⟨κ', γ', L', m1, m2, m3⟩ := ih vs (f + 1) (off + 1) (j + 1) _ _ (upk (fun _ => u) (i, f) nd) _ _ hf (modH_zero _ h0) (by simpa using hlen)
    (by
     intro k u' v' hu hv'
     obtain ⟨x1, x2⟩ := hL (k + 1) u' v' (by simpa using hu) (by simpa using hv')
     refine ⟨?_, ?_⟩
     ·rw [show j + 1 + k = j + (k + 1) by omega, List.getElem?_modify, x1]; simp
     ·rw [mvκ_not _ (n0 _)]; rw [show j + 1 + k = j + (k + 1) by omega]; exact x2)
    (by rw [kid_mod _ _ _ hp0, hp]; rfl)
    (by
     intro k hk'
     rw [kid_upk_ne _ _ _ _ (by simp; omega)]
     have := hk (k + 1) (by simp; omega)
     rwa [show f + 1 + k = f + (k + 1) by omega])
    (by rw [cellAddr_upk, mvκ_not _ np]; exact cellAddr_add hca 1)
    (by
     intro k v' hv'
     have := hv (k + 1) v' (by simpa using hv')
     rwa [show off + 1 + k = off + (k + 1) by omega])
   refine ⟨κ', γ', L', m1, m2, fun q hq => ?_⟩
   rw [m3 q (fun k hk' => by have := hq (k + 1) (by simp; omega); rwa [show f + 1 + k = f + (k + 1) by omega])]
   exact mvκ_not q (by simpa using hq 0 (by simp))
theorem HR.drop0 {L : List TV} (h : HR w0 S0 A w κ γ (wr0 H L)) (h0 : H 0 = []) : HR w0 S0 A w κ γ H := by
 have := h.setroot 0 [] (K := fun _ _ => True) (fun _ _ _ => ⟨rfl, fun _ _ hb => ⟨hb, trivial⟩⟩) (fun _ _ => rfl) (Keep.refl _ w) (fun _ _ _ => trivial) h.own h.chg (by simp)
 have e : (fun x => if x = 0 then [] else wr0 H L x) = H := by
  funext y
  by_cases hy : y = 0
  ·simp [hy, h0]
  ·simp [hy, wr0]
 rwa [e] at this
end
end Go.Proofs.YtmedelmfkciblaaT

