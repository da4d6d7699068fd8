/- TM, part K: new places out of loose cells; box, slice literals. -/
import Derived.Test.YtloodkhdngipbaaTmJ
namespace Go.Proofs.YtloodkhdngipbaaT
set_option linter.unusedVariables false
set_option linter.unusedSimpArgs false
open Go

section
variable {P : Program} {F : Fr} {st : St} {w w' w0 : World} {S0 : Nat → Nat → Prop} {κ κ' : Path → Value} {γ γ' : Nat → Nat → Option Path} {H H1 : Hp} {A K : Nat → Nat → Prop} {o : Oper} {E : Eff} {root : Nat}

/-- The loose cells become parts of a new root. -/
theorem HR.regroup {L : List TV} {cells : List TV} (h : HR w0 S0 A w κ γ (wr0 H1 L)) (h0 : H1 0 = []) (hr0 : root ≠ 0)
    (hl : ∀ q, (∀ j r, q ≠ (root, j) :: r) → (∀ j r, q ≠ (0, j) :: r) → Live H1 q → κ' q = κ q ∧ ∀ b o, γ b o = some q → γ' b o = some q ∧ K b o)
    (hκr : ∀ s : Nat × Nat, s.1 ≠ root → s.1 ≠ 0 → κ' [s] = κ [s])
    (hkeep : Keep K w w') (hA : ∀ b o, A b o → K b o)
    (hown : ∀ b o q, γ' b o = some q → b < w'.heap.size ∧ (S0 b o ∨ w0.heap.size ≤ b))
    (hchg : Chg S0 w0 w')
    (hnew : ∀ j u, cells[j]? = some u → TR w' κ' γ' A [(root, j)] u (κ' [(root, j)])) :
    HR w0 S0 A w' κ' γ' (setRoot H1 root cells) := by
  refine ⟨?_, hown, h.old, hchg⟩
  rintro ⟨i, j⟩ u hu
  by_cases hi : i = root
  · subst hi
    simp only [setRoot, if_true] at hu
    exact hnew j u hu
  · simp only [setRoot, hi, if_false] at hu
    have hi0 : i ≠ 0 := by rintro rfl; simp [h0] at hu
    rw [hκr _ hi hi0]
    have hu' : (wr0 H1 L (i, j).1)[(i, j).2]? = some u := by simpa [wr0, hi0] using hu
    refine h.root_keep hu' (fun q hq hlq => ?_) hkeep hA
    obtain ⟨t, rfl⟩ := hq
    refine hl _ ?_ ?_ ?_
    · intro j' r hh; simp at hh; exact hi hh.1.1
    · intro j' r hh; simp at hh; exact hi0 hh.1.1
    · obtain ⟨x, hx, hs⟩ := hlq
      refine ⟨x, ?_, hs⟩
      rw [cellAt_wr0] at hx
      · exact hx
      · intro j' r hh; simp at hh; exact hi0 hh.1.1

/-- Places of the cells of a new node made of loose cells. -/
def grpκ (κ : Path → Value) (root z : Nat) (v : Value) : Path → Value
  | [s] => if s = (root, 0) then v else κ [s]
  | s :: t :: r => if s = (root, 0) then κ ((0, t.1 * z + t.2) :: r) else κ (s :: t :: r)
  | [] => κ []
def grpγ (γ : Nat → Nat → Option Path) (root z B : Nat) (b o : Nat) : Option Path :=
  if b = B then some [(root, 0)] else match γ b o with
    | some (s :: r) => if s.1 = 0 then some ((root, 0) :: (s.2 / z, s.2 % z) :: r) else some (s :: r)
    | x => x

theorem grpκ_root {z : Nat} {v : Value} : grpκ κ root z v [(root, 0)] = v := if_pos rfl
theorem grpκ_kid {z : Nat} {v : Value} (i f : Nat) (r : Path) : grpκ κ root z v ([(root, 0), (i, f)] ++ r) = κ ((0, i * z + f) :: r) := if_pos rfl
theorem grpκ_other {z : Nat} {v : Value} (q : Path) (h : ∀ j r, q ≠ (root, j) :: r) : grpκ κ root z v q = κ q := by
  cases q with
  | nil => rfl
  | cons s q =>
    have hs : s ≠ (root, 0) := by rintro rfl; exact h _ _ rfl
    cases q <;> simp [grpκ, hs]

theorem Keep.alloc (w : World) (ob : Obj) (K : Nat → Nat → Prop) : Keep K w (w.alloc ob) := by
  have hh : ∀ b : Nat, b < w.heap.size → (w.alloc ob).heap[b]? = w.heap[b]? := fun b hb => RowKit.Below.heap_alloc w ob b hb
  have lt : ∀ (b : Nat) (x : Obj), w.heap[b]? = some x → b < w.heap.size := by
    intro b x hx
    rcases Nat.lt_or_ge b w.heap.size with h | h
    · exact h
    · rw [Array.getElem?_eq_none h] at hx; cases hx
  exact ⟨by simp, fun b arr T fz hb => ⟨arr, by rw [hh b (lt b _ hb)]; exact hb, rfl, fun _ _ => rfl⟩, fun b x hb _ => by rw [hh b (lt b _ hb)]; exact hb⟩

theorem heap_new (w : World) (ob : Obj) : (w.alloc ob).heap[w.heap.size]? = some ob := by
  show (w.heap.push ob)[w.heap.size]? = some ob
  exact Array.getElem?_push_size

theorem HR.size_le (h : HR w0 S0 A w κ γ H) : w0.heap.size ≤ w.heap.size := h.chg.keep.size

/-- A new block, its cells the loose ones. -/
theorem HR.newFlat {L : List TV} {arr : Array Value} {T : TypeId} {z : Nat} {u : TV} {v : Value} (h : HR w0 S0 A w κ γ (wr0 H1 L)) (h0 : H1 0 = []) (hr0 : root ≠ 0)
    (hv : ∀ (k : Nat) (c : TV), L[k]? = some c → (arr[k]?).getD undef = κ [(0, k)])
    (hkid : (u = .po true L ∧ z = L.length ∧ v = .pointer (some ⟨w.heap.size, 0, none⟩)) ∨ (∃ len, u = .sl true z (chunk z len L) ∧ z ≠ 0 ∧ L.length = len * z ∧ v = .slice (some ⟨w.heap.size, 0, none⟩) len len))
    (hsz : arr.size = L.length) :
    HR w0 S0 A (w.alloc (.cells arr T)) (grpκ κ root z v) (grpγ γ root z w.heap.size) (setRoot H1 root [u]) := by
  have hB : ∀ b o q, γ b o = some q → b ≠ w.heap.size := fun b o q hb => by have := (h.own b o q hb).1; omega
  have loose : ∀ (k : Nat) (c : TV) (i f : Nat), L[k]? = some c → i * z + f = k → f < z → TR (w.alloc (.cells arr T)) (grpκ κ root z v) (grpγ γ root z w.heap.size) A [(root, 0), (i, f)] c ((arr[k]?).getD undef) := by
    intro k c i f hc hk hf
    rw [hv k c hc]
    have hT := h.root (0, k) c (by simpa [wr0] using hc)
    refine hT.ren (K := fun _ _ => True) _ (fun r nd hd hs => ⟨?_, fun b o' hb => ⟨?_, trivial⟩⟩) (Keep.alloc _ _ _) (fun _ _ _ => trivial) (fun _ _ h => h)
    · have := grpκ_kid (κ := κ) (root := root) (z := z) (v := v) i f r
      rw [hk] at this; simpa using this
    · simp only [grpγ, hB b o' _ hb, if_false, hb]
      have e1 : k / z = i := by
        rw [← hk, Nat.mul_comm, Nat.mul_add_div (by omega), Nat.div_eq_of_lt hf, Nat.add_zero]
      have e2 : k % z = f := by
        rw [← hk, Nat.mul_comm, Nat.mul_add_mod, Nat.mod_eq_of_lt hf]
      simp [e1, e2]
  refine h.regroup (K := fun _ _ => True) h0 hr0 (fun q hq hq0 hl => ⟨grpκ_other q hq, fun b o hb => ⟨?_, trivial⟩⟩) (fun s hs hs0 => grpκ_other _ (by rintro j r hh; simp at hh; exact hs (by rw [hh.1]))) (Keep.alloc _ _ _) (fun _ _ _ => trivial) ?_ ?_ ?_
  · simp only [grpγ, hB b o q hb, if_false, hb]
    cases q with
    | nil => rfl
    | cons s r =>
      have : s.1 ≠ 0 := by intro hs; exact hq0 s.2 r (by rw [← hs])
      simp [this]
  · intro b o q hb
    simp only [World.size_alloc]
    simp only [grpγ] at hb
    split at hb
    · rename_i hbb; subst hbb
      exact ⟨by omega, .inr h.size_le⟩
    · have : ∃ q', γ b o = some q' := by
        cases hg : γ b o with
        | none => rw [hg] at hb; cases hb
        | some q' => exact ⟨q', rfl⟩
      obtain ⟨q', hq'⟩ := this
      have := h.own b o q' hq'
      exact ⟨by omega, this.2⟩
  · exact h.chg.trans (S' := fun _ _ => False) ⟨rfl, rfl, rfl, Keep.alloc _ _ _⟩ (fun _ _ h => h.elim)
  · intro j x hx
    cases j with
    | succ j => simp at hx
    | zero =>
      simp only [List.getElem?_cons_zero, Option.some.injEq] at hx
      subst hx
      rw [grpκ_root]
      rcases hkid with ⟨rfl, rfl, rfl⟩ | ⟨len, rfl, hz0, hlen, rfl⟩
      · refine .po _ _ _ _ arr T grpκ_root (heap_new _ _) (by omega) (fun k _ => by simp [grpγ]) fun f u hf => ?_
        rw [Nat.zero_add]
        exact loose f u 0 f hf (by simp) (List.getElem?_eq_some_iff.1 hf).1
      · have chunk_get : ∀ (len : Nat) (L : List TV) (i : Nat) (e : List TV), (chunk z len L)[i]? = some e → i < len ∧ e = (L.drop (i * z)).take z := by
          intro len
          induction len with
          | zero => intro L i e he; simp [chunk] at he
          | succ len ih =>
            intro L i e he
            cases i with
            | zero => simp [chunk] at he; exact ⟨by omega, by simp [he]⟩
            | succ i =>
              simp only [chunk, List.getElem?_cons_succ] at he
              obtain ⟨h1, h2⟩ := ih _ _ _ he
              refine ⟨by omega, ?_⟩
              rw [h2, List.drop_drop]
              congr 2; rw [Nat.add_mul]; omega
        have chunk_len : ∀ (len : Nat) (L : List TV), (chunk z len L).length = len := by
          intro len
          induction len with
          | zero => intro L; rfl
          | succ len ih => intro L; simp [chunk, ih]
        refine .sl _ z len len _ _ _ arr T grpκ_root (chunk_len _ _) (Nat.le_refl _) (fun e he => ?_) (heap_new _ _) (by omega) (fun k _ => by simp [grpγ]) fun i f e u he hf => ?_
        · obtain ⟨i, hi⟩ := List.getElem?_of_mem he
          obtain ⟨h1, rfl⟩ := chunk_get _ _ _ _ hi
          have : (i + 1) * z ≤ len * z := Nat.mul_le_mul_right z h1
          rw [Nat.add_mul] at this
          simp; omega
        · obtain ⟨h1, rfl⟩ := chunk_get _ _ _ _ he
          rw [List.getElem?_take] at hf
          split at hf
          case isFalse => cases hf
          rename_i hfz
          rw [List.getElem?_drop] at hf
          rw [Nat.zero_add]
          exact loose (i * z + f) u i f hf rfl hfz

theorem modH_nil (φ : TV → TV) {p : Path} {r : Nat} (h : H r = []) : modH H φ p r = [] := by
  cases p with
  | nil => exact h
  | cons s q => simp only [modH]; split <;> simp [h]

theorem take1_nil {c u : TV} {d : List Path} {r : Nat} (ht : take1 H c = some (u, H1, d)) (h : H r = []) : H1 r = [] := by
  unfold take1 at ht
  split at ht
  · split at ht
    · simp only [Option.some.injEq, Prod.mk.injEq] at ht
      obtain ⟨_, rfl, _⟩ := ht; exact modH_nil _ h
    · cases ht
  · split at ht
    · simp only [Option.some.injEq, Prod.mk.injEq] at ht
      obtain ⟨_, rfl, _⟩ := ht; exact modH_nil _ h
    · cases ht
  · simp only [Option.some.injEq, Prod.mk.injEq] at ht
    obtain ⟨_, rfl, _⟩ := ht; exact h
  · split at ht
    · simp only [Option.some.injEq, Prod.mk.injEq] at ht
      obtain ⟨_, rfl, _⟩ := ht; exact h
    · cases ht

theorem takeL_nil : ∀ {cs us : List TV} {H H1 : Hp} {d : List Path} {r : Nat}, takeL cs H = some (us, H1, d) → H r = [] → H1 r = []
  | [], us, H, H1, d, r, ht, h => by
    simp only [takeL, Option.some.injEq, Prod.mk.injEq] at ht
    obtain ⟨_, rfl, _⟩ := ht; exact h
  | c :: cs, us, H, H1, d, r, ht, h => by
    simp only [takeL, Option.bind_eq_some_iff, Option.some.injEq, Prod.mk.injEq] at ht
    obtain ⟨⟨u, H2, d2⟩, h1, ⟨us', H3, d3⟩, h2, rfl, rfl, rfl⟩ := ht
    exact takeL_nil h2 (take1_nil h1 h)

theorem shapeAt_setRoot {cells : List TV} {q : Path} (h : ∀ j r, q ≠ (root, j) :: r) : shapeAt (setRoot H root cells) q = shapeAt H q := by
  cases q with
  | nil => rfl
  | cons s r =>
    have : s.1 ≠ root := by intro hs; exact h s.2 r (by rw [← hs])
    simp [shapeAt, cellAt, setRoot, this]

theorem live_notroot {q : Path} {r : Nat} (h : H r = []) (hq : (shapeAt H q).isSome = true) : ∀ j t, q ≠ (r, j) :: t := by
  rintro j t rfl
  simp [shapeAt, cellAt, h] at hq

theorem under_false {ds : List Path} {q : Path} (h : under ds q = false) : ∀ p ∈ ds, ¬ p <+: q := by
  intro p hp hh
  have : under ds q = true := List.any_eq_true.2 ⟨p, hp, List.isPrefixOf_iff_prefix.2 hh⟩
  rw [h] at this; cases this

/-- Behind an operation that made a new root out of what it took. -/
theorem Rel.freshF {dst : Option Nat} {a : Act} {x : Value} {v : TV} {ds : List Path} {cells : List TV} {wr : List Nat} {norg : List (Option Nat)} (h0 : st.H 0 = []) (hH1 : H1 0 = []) (hroot : ∀ q, (∀ p ∈ ds, ¬ p <+: q) → (shapeAt st.H q).isSome = true → ∀ j r, q ≠ (root, j) :: r) (hr0 : 2 ≤ root)
    (hs : a.tmps.size = F.N) (hd : ∀ d, dst = some d → d < F.N) (hdef : a.defers = []) (h6 : ∀ b, κ [(1, b)] = F.k1 b) (h7 : ∀ q m, st.org q = some m → Live st.H q → κ q = F.k1 m) (h8 : ∀ (f m : Nat), norg[f]? = some (some m) → κ' [(root, 0), (0, f)] = F.k1 m)
    (ht : ∀ k, RV w κ st.H F.A (st.t k) ((a.tmps[k]?).getD undef))
    (hh : HR F.w0 F.S0 F.A w' κ' γ' (setRoot H1 root cells))
    (hκ : ∀ q, (∀ j r, q ≠ (0, j) :: r) → (∀ j r, q ≠ (root, j) :: r) → κ' q = κ q)
    (hsh : ∀ q, (∀ p ∈ ds, ¬ p <+: q) → shapeAt H1 q = shapeAt st.H q)
    (hk : Keep K w w') (hA : ∀ b o, F.A b o → K b o)
    (hv : dst ≠ none → RV w' κ' (setRoot H1 root cells) F.A v x) :
    Rel F (st.put dst { v, dead := if ds = [] then none else some (under ds), H := setRoot H1 root cells, wr, nr := some root, norg }) (a.put dst x) w' := by
  have step : ∀ q, (∀ p ∈ ds, ¬ p <+: q) → (shapeAt st.H q).isSome = true → κ' q = κ q ∧ shapeAt (setRoot H1 root cells) q = shapeAt st.H q := by
    intro q hq hl
    have n0 := live_notroot h0 hl
    have n1 := hroot q hq hl
    exact ⟨hκ q n0 n1, (shapeAt_setRoot n1).trans (hsh q hq)⟩
  refine Rel.put hh (by simp [setRoot, show 0 ≠ root by omega, hH1]) hs hd hdef (fun b => (hκ _ (by simp) (by intro j r hh; simp at hh; omega)).trans (h6 b)) (fun q m hq hl => ?_) hv fun k => ?_
  · obtain ⟨s, r, rfl, hcase⟩ := orgPut_some hq hl
    rcases hcase with ⟨hn, hs2, f, rfl, hnf⟩ | ⟨hn, hdd, hq⟩
    · obtain ⟨s1, s2⟩ := s
      simp only [Option.some.injEq] at hn hs2
      subst hn; subst hs2
      exact h8 _ _ hnf
    · have hs' : root ≠ s.1 := fun hh => hn (by rw [hh])
      have hnr : ∀ j t, s :: r ≠ (root, j) :: t := by rintro j t hh; cases hh; exact hs' rfl
      have hq' : ∀ p ∈ ds, ¬ p <+: s :: r := by
        by_cases hds : ds = []
        · intro p hp; rw [hds] at hp; cases hp
        · simp only [hds, if_false] at hdd
          exact under_false hdd
      have hl0 : (shapeAt st.H (s :: r)).isSome = true := by
        rw [live_iff, shapeAt_setRoot hnr, hsh _ hq'] at hl; exact hl
      rw [(step _ hq' hl0).1]
      exact h7 _ _ hq ((live_iff _ _).2 hl0)
  by_cases hds : ds = []
  · subst hds
    simp only [if_true, deadT]
    exact (ht k).mono (fun q hl => step q (by simp) hl) hk hA
  · simp only [hds, if_false, deadT]
    exact (ht k).kill _ (fun q hq hl => step q (under_false hq) hl) hk hA

theorem Rel.fresh {dst : Option Nat} {a : Act} {x : Value} {v : TV} {ds : List Path} {cells : List TV} {wr : List Nat} {norg : List (Option Nat)} (h0 : st.H 0 = []) (hH1 : H1 0 = []) (hroot : st.H root = []) (hr0 : 2 ≤ root)
    (hs : a.tmps.size = F.N) (hd : ∀ d, dst = some d → d < F.N) (hdef : a.defers = []) (h6 : ∀ b, κ [(1, b)] = F.k1 b) (h7 : ∀ q m, st.org q = some m → Live st.H q → κ q = F.k1 m) (h8 : ∀ (f m : Nat), norg[f]? = some (some m) → κ' [(root, 0), (0, f)] = F.k1 m)
    (ht : ∀ k, RV w κ st.H F.A (st.t k) ((a.tmps[k]?).getD undef))
    (hh : HR F.w0 F.S0 F.A w' κ' γ' (setRoot H1 root cells))
    (hκ : ∀ q, (∀ j r, q ≠ (0, j) :: r) → (∀ j r, q ≠ (root, j) :: r) → κ' q = κ q)
    (hsh : ∀ q, (∀ p ∈ ds, ¬ p <+: q) → shapeAt H1 q = shapeAt st.H q)
    (hk : Keep K w w') (hA : ∀ b o, F.A b o → K b o)
    (hv : dst ≠ none → RV w' κ' (setRoot H1 root cells) F.A v x) :
    Rel F (st.put dst { v, dead := if ds = [] then none else some (under ds), H := setRoot H1 root cells, wr, nr := some root, norg }) (a.put dst x) w' :=
  Rel.freshF h0 hH1 (fun q _ hl => live_notroot hroot hl) hr0 hs hd hdef h6 h7 h8 ht hh hκ hsh hk hA hv
theorem notroot_free {ds : List Path} (hroot : freeR H1 root = true) (hsh : ∀ q, (∀ p ∈ ds, ¬ p <+: q) → shapeAt H1 q = shapeAt st.H q) :
    ∀ q, (∀ p ∈ ds, ¬ p <+: q) → (shapeAt st.H q).isSome = true → ∀ j r, q ≠ (root, j) :: r := by
  rintro q hq hl j r rfl
  rw [← hsh _ hq] at hl
  simp only [shapeAt, cellAt] at hl
  cases hc : (H1 root)[j]? with
  | none => simp [hc] at hl
  | some u =>
    have hu := List.all_eq_true.1 hroot u (List.mem_of_getElem? hc)
    have : u = .junk := by cases u <;> first | rfl | cases hu
    subst this
    simp only [hc, Option.bind_some] at hl
    cases r with
    | nil => simp [down, shape] at hl
    | cons s r => simp [down, kid] at hl

theorem rv_cells {x : TV} {v : Value} (h : RV w κ H A x v) (hne : ∀ c ∈ cellsT x, c ≠ .junk) (hn : isAg x = true ∨ (∀ vs, x ≠ .tu vs)) :
    (cellsT x).length = (cellsV v).length ∧ ∀ (j : Nat) (c : TV) (y : Value), (cellsT x)[j]? = some c → (cellsV v)[j]? = some y → RV w κ H A c y := by
  have h' := h
  cases h with
  | ag cs vs hl hc =>
    refine ⟨by simpa [cellsT, cellsV] using hl, fun j c y hj hy => ?_⟩
    have := hc j c hj
    simp only [cellsV, Array.getElem?_toList] at hy
    simpa [hy] using this
  | tu cs vs hl hc =>
    rcases hn with hn | hn
    · cases hn
    · exact absurd rfl (hn cs)
  | pure u v h =>
    cases h with
    | junk => exact absurd rfl (hne _ (by simp [cellsT]))
    | pin v h1 =>
      have hcv : cellsV v = [v] := by cases v <;> first | rfl | cases h1
      rw [hcv]
      refine ⟨rfl, fun j c y hj hy => ?_⟩
      cases j with
      | zero => simp [cellsT] at hj; simp at hy; subst hj; subst hy; exact h'
      | succ j => simp [cellsT] at hj
    | _ =>
      refine ⟨rfl, fun j c y hj hy => ?_⟩
      cases j with
      | zero => simp [cellsT] at hj; simp [cellsV] at hy; subst hj; subst hy; exact h'
      | succ j => simp [cellsT] at hj
  | _ =>
    refine ⟨rfl, fun j c y hj hy => ?_⟩
    cases j with
    | zero => simp [cellsT] at hj; simp [cellsV] at hy; subst hj; subst hy; exact h'
    | succ j => simp [cellsT] at hj
end
end Go.Proofs.YtloodkhdngipbaaT
