/- TM, part Q: a call. -/
import Derived.Test.YtloodkhdngipbaaTmP
namespace Go.Proofs.YtloodkhdngipbaaT
set_option linter.unusedVariables false
set_option linter.unusedSimpArgs false
open Go

section
variable {P : Program} {F : Fr} {st : St} {w w' w0 : World} {S0 : Nat → Nat → Prop} {κ κ' κ1 : Path → Value} {γ γ' γ1 : Nat → Nat → Option Path} {H H' H1 : Hp} {A A' K : Nat → Nat → Prop} {L : List TV} {o : Oper} {E : Eff} {root : Nat}

theorem under_true {ds : List Path} {q : Path} (h : ∀ p ∈ ds, ¬ p <+: q) : under ds q = false := by
  cases hu : under ds q with
  | false => rfl
  | true =>
    obtain ⟨p, h1, h2⟩ := List.any_eq_true.1 hu
    exact absurd (List.isPrefixOf_iff_prefix.1 h2) (h p h1)

/-- What a temporary holds, behind a taking. -/
theorem RV.took {n : Nat} {ds : List Path} {u : TV} {v : Value} (hv : RV w κ H A u v) (hk : Took κ κ1 H H1 n ds) (h0 : H 0 = []) : RV w κ1 H1 A (killT (under ds) u) v := by
  refine hv.kill (K := fun _ _ => True) _ (fun q hq hl => ?_) (Keep.refl _ w) (fun _ _ _ => trivial)
  refine ⟨hk.kap q fun j r hh => ?_, hk.shp q (under_false hq)⟩
  exact live_notroot h0 hl _ _ hh

theorem roArgs_ok {ds : List Path} {n0 : Nat} (hk : Took κ κ1 H H1 n0 ds) (h0 : H 0 = []) (hh : HR w0 S0 A w κ1 γ1 (wr0 H1 L)) :
    ∀ (ms : List Mode) (as : List (TV × Nat)) (tk : List TV) (vs : List Value) (args : List TV) (ro : Bool), (∀ (j : Nat) (u : TV) (n : Nat) (v : Value), as[j]? = some (u, n) → vs[j]? = some v → RV w κ H A u v) →
      roArgs H1 ms as tk = some (args, ro) → ms.length = args.length ∧ args.length = as.length ∧ ownCells ms args = ownCells ms tk ∧
      (∀ (j : Nat) (u : TV) (v : Value), ms[j]? = some .ro → args[j]? = some u → vs[j]? = some v → RV w κ' (fun _ => []) (Acall A γ1 ro) u v) ∧
      (∀ (j : Nat), ms[j]? ≠ some .ro → args[j]? = tk[j]?)
  | [], [], [], vs, args, ro, _, h => by
    simp only [roArgs, Option.some.injEq, Prod.mk.injEq] at h
    obtain ⟨rfl, rfl⟩ := h
    simp [ownCells]
  | .ro :: ms, (u, n) :: as, t :: tk, vs, args, ro, hv, h => by
    simp only [roArgs, Option.bind_eq_some_iff, Option.some.injEq, Prod.mk.injEq] at h
    obtain ⟨⟨x, b1⟩, h1, ⟨ys, b2⟩, h2, rfl, rfl⟩ := h
    obtain ⟨i1, i2, i3, i4, i5⟩ := roArgs_ok hk h0 hh ms as tk (vs.drop 1) ys b2 (fun j u n v h1 h2 => hv (j + 1) u n v (by simpa using h1) (by simpa [Nat.add_comm] using h2)) h2
    refine ⟨by simp [i1], by simp [i2], by simpa [ownCells] using i3, fun j y v hm hy hvj => ?_, fun j hj => ?_⟩
    · have mono : ∀ {b'} {u v}, RV w κ' (fun _ => []) (Acall A γ1 b') u v → (b' = true → (b1 || b2) = true) → RV w κ' (fun _ => []) (Acall A γ1 (b1 || b2)) u v := by
        intro b' u v h hb
        induction h with
        | pure u v h => exact .pure _ _ (h.keep (K := fun _ _ => True) (Keep.refl _ w) (fun _ _ _ => trivial) (fun x y h => Acall_mono hb x y h))
        | nil z => exact .nil z
        | rf0 p z off hk hc => exact .rf0 p z off hk hc
        | rf p z n c B o off len hk hc hb hn => exact .rf p z n c B o off len hk hc hb hn
        | rfE p z n c B o off o1 c1 hk hc g1 g2 g3 => exact .rfE p z n c B o off o1 c1 hk hc g1 g2 g3
        | ptS p z n c B o i f hk hc hi hf => exact .ptS p z n c B o i f hk hc hi hf
        | ptP p B o f n hk hc hf => exact .ptP p B o f n hk hc hf
        | ag cs vs hl hc ih => exact .ag cs vs hl ih
        | tu cs vs hl hc ih => exact .tu cs vs hl ih
        | fn g cs vs hl hc ih => exact .fn g cs vs hl ih
      cases j with
      | zero =>
        simp only [List.getElem?_cons_zero, Option.some.injEq] at hy
        subst hy
        have hr := (hv 0 u n v rfl hvj).took hk h0
        rw [roT_kill (fun q hq => under_true (hk.liv q hq)) u n x b1 h1] at hr
        exact mono (roT_rv hh hk.zero hr n x b1 h1) (fun h => by simp [h])
      | succ j => exact mono (i4 j y v (by simpa using hm) (by simpa using hy) (by simpa [Nat.add_comm] using hvj)) (fun h => by simp [h])
    · cases j with
      | zero => exact absurd rfl hj
      | succ j => simpa using i5 j (by simpa using hj)
  | .own :: ms, (u, n) :: as, t :: tk, vs, args, ro, hv, h => by
    simp only [roArgs, Option.bind_eq_some_iff, Option.some.injEq, Prod.mk.injEq] at h
    obtain ⟨⟨ys, b2⟩, h2, rfl, rfl⟩ := h
    obtain ⟨i1, i2, i3, i4, i5⟩ := roArgs_ok hk h0 hh ms as tk (vs.drop 1) ys b2 (fun j u n v h1 h2 => hv (j + 1) u n v (by simpa using h1) (by simpa [Nat.add_comm] using h2)) h2
    refine ⟨by simp [i1], by simp [i2], by simp [ownCells, i3], fun j y v hm hy hvj => ?_, fun j hj => ?_⟩
    · cases j with
      | zero => simp at hm
      | succ j => exact i4 j y v (by simpa using hm) (by simpa using hy) (by simpa [Nat.add_comm] using hvj)
    · cases j with
      | zero => rfl
      | succ j => simpa using i5 j (by simpa using hj)
  | [], _ :: _, _, _, _, _, _, h => by simp [roArgs] at h
  | [], [], _ :: _, _, _, _, _, h => by simp [roArgs] at h
  | m :: _, [], _, _, _, _, _, h => by cases m <;> simp [roArgs] at h
  | m :: _, _ :: _, [], _, _, _, _, h => by cases m <;> simp [roArgs] at h

/-! ### the callee's view -/
def κcall (κ : Path → Value) : Path → Value
  | s :: r => if s.1 = 1 then κ ((0, s.2) :: r) else κ (s :: r)
  | [] => κ []
def γcall (γ : Nat → Nat → Option Path) (b o : Nat) : Option Path :=
  match γ b o with
  | some (s :: r) => if s.1 = 0 then some ((1, s.2) :: r) else none
  | _ => none

theorem γcall_some {b o : Nat} {q : Path} (h : γcall γ b o = some q) : ∃ m r, γ b o = some ((0, m) :: r) ∧ q = (1, m) :: r := by
  unfold γcall at h
  split at h
  · rename_i s r hg
    split at h
    · rename_i hs
      simp only [Option.some.injEq] at h
      obtain ⟨s1, s2⟩ := s
      simp only at hs; subst hs
      exact ⟨s2, r, hg, h.symm⟩
    · cases h
  · cases h

theorem args_rel {ms : List Mode} {args tk : List TV} {vs : List Value} {ro : Bool} (hh : HR w0 S0 A w κ1 γ1 (wr0 H1 (ownCells ms tk))) (h1 : ms.length = args.length) (h2 : args.length = vs.length) (h3 : ownCells ms args = ownCells ms tk)
    (hro : ∀ (j : Nat) (u : TV) (v : Value), ms[j]? = some .ro → args[j]? = some u → vs[j]? = some v → RV w (κcall κ1) (fun _ => []) (Acall A γ1 ro) u v)
    (hag : ∀ (j : Nat) (u : TV) (v : Value), ms[j]? ≠ some .ro → args[j]? = some u → vs[j]? = some v → isAg u = isAgV v ∧ (cellsT u).length = (cellsV v).length)
    (hval : ∀ (m : Nat) (v : Value), (ownVals ms vs)[m]? = some v → κ1 [(0, m)] = v) : ArgsR w (κcall κ1) (γcall γ1) (Acall A γ1 ro) ms args vs := by
  refine ⟨h2, h1, hag, hro, fun m c hc => ?_, fun m v hv => ?_⟩
  · rw [h3] at hc
    have hT := hh.root (0, m) c (by simpa [wr0] using hc)
    have e : κcall κ1 [(1, m)] = κ1 [(0, m)] := by simp [κcall]
    rw [e]
    refine hT.ren (K := fun _ _ => True) _ (fun r nd _ _ => ⟨by simp [κcall], fun b o hb => ⟨?_, trivial⟩⟩) (Keep.refl _ w) (fun _ _ _ => trivial) (fun _ _ h => .inl h)
    simp only [List.singleton_append] at hb ⊢
    simp [γcall, hb]
  · simpa [κcall] using hval m v hv

/-! ### back from the call -/
def κback (κ κ' : Path → Value) (root : Nat) : Path → Value
  | s :: r => if s.1 = root then κ' ((0, s.2) :: r) else if s.1 = 0 then κ' ((1, s.2) :: r) else κ (s :: r)
  | [] => κ []
def γback (γ γ' : Nat → Nat → Option Path) (root b o : Nat) : Option Path :=
  match γ' b o with
  | some (s :: r) => if s.1 = 0 then some ((root, s.2) :: r) else if s.1 = 1 then some ((0, s.2) :: r) else none
  | some [] => none
  | none => match γ b o with
    | some (s :: r) => if s.1 = 0 then none else some (s :: r)
    | x => x

theorem γback_some {b o : Nat} {q : Path} (h : γback γ γ' root b o = some q) : (∃ q', γ' b o = some q') ∨ (∃ q', γ b o = some q') := by
  unfold γback at h
  split at h
  · rename_i hg; exact .inl ⟨_, hg⟩
  · cases h
  · split at h
    · rename_i hg; exact .inr ⟨_, hg⟩
    · exact .inr ⟨_, h⟩

theorem HR.called (h : HR w0 S0 A w κ1 γ1 (wr0 H1 L)) (h0 : H1 0 = []) (hroot : H1 root = []) (hr : 2 ≤ root)
    (hown' : ∀ b o q, γ' b o = some q → b < w'.heap.size ∧ ((∃ q', γcall γ1 b o = some q') ∨ w.heap.size ≤ b))
    (hchg : Chg (fun b o => ∃ q, γcall γ1 b o = some q) w w') {cells Lb : List TV}
    (hres : ∀ (m : Nat) (c : TV), cells[m]? = some c → TR w' κ' γ' A [(0, m)] c (κ' [(0, m)]))
    (hlb : ∀ (m : Nat) (c : TV), Lb[m]? = some c → TR w' κ' γ' A [(1, m)] c (κ' [(1, m)])) :
    HR w0 S0 A w' (κback κ1 κ' root) (γback γ1 γ' root) (wr0 (setRoot H1 root cells) Lb) := by
  have hr0 : root ≠ 0 := by omega
  have notgiven : ∀ b o q, γ1 b o = some q → (∀ j r, q ≠ (0, j) :: r) → γ' b o = none ∧ ¬ ∃ q, γcall γ1 b o = some q := by
    intro b o q hg hq
    have hn : ¬ ∃ q, γcall γ1 b o = some q := by
      rintro ⟨q', hq'⟩
      obtain ⟨m, r, h1, _⟩ := γcall_some hq'
      rw [hg] at h1; cases h1
      exact hq _ _ rfl
    refine ⟨?_, hn⟩
    cases hg' : γ' b o with
    | none => rfl
    | some q' =>
      rcases (hown' b o q' hg').2 with h1 | h1
      · exact absurd h1 hn
      · have := (h.own b o q hg).1; omega
  refine ⟨?_, fun b o q hb => ?_, h.old, ?_⟩
  · rintro ⟨i, m⟩ u hu
    by_cases hi0 : i = 0
    · subst hi0
      simp only [wr0, if_true] at hu
      have e : κback κ1 κ' root [(0, m)] = κ' [(1, m)] := by simp [κback, Ne.symm hr0]
      rw [e]
      refine (hlb m u hu).ren (K := fun _ _ => True) _ (fun r nd _ _ => ⟨by simp [κback, Ne.symm hr0], fun b o hb => ⟨?_, trivial⟩⟩) (Keep.refl _ w') (fun _ _ _ => trivial) (fun _ _ h => h)
      simp only [List.singleton_append] at hb ⊢
      simp [γback, hb]
    · simp only [wr0, hi0, if_false, setRoot] at hu
      by_cases hir : i = root
      · subst hir
        simp only [if_true] at hu
        have e : κback κ1 κ' i [(i, m)] = κ' [(0, m)] := by simp [κback]
        rw [e]
        refine (hres m u hu).ren (K := fun _ _ => True) _ (fun r nd _ _ => ⟨by simp [κback], fun b o hb => ⟨?_, trivial⟩⟩) (Keep.refl _ w') (fun _ _ _ => trivial) (fun _ _ h => h)
        simp only [List.singleton_append] at hb ⊢
        simp [γback, hb]
      · simp only [hir, if_false] at hu
        have e : κback κ1 κ' root [(i, m)] = κ1 [(i, m)] := by simp [κback, hir, hi0]
        rw [e]
        refine h.root_keep (s := (i, m)) (K := fun b o => ¬ ∃ q, γcall γ1 b o = some q) (by simpa [wr0, hi0] using hu) (fun q hq hl => ?_) hchg.keep (fun b o ha => ?_)
        · obtain ⟨t, rfl⟩ := hq
          refine ⟨by simp [κback, hir, hi0], fun b o hb => ?_⟩
          obtain ⟨g1, g2⟩ := notgiven b o _ hb (by intro j r hh; simp at hh; exact hi0 hh.1.1)
          refine ⟨?_, g2⟩
          simp only [List.singleton_append] at hb ⊢
          simp [γback, g1, hb, hi0]
        · rintro ⟨q, hq⟩
          obtain ⟨m', r, h1, _⟩ := γcall_some hq
          exact h.notA h1 ha
  · rcases γback_some hb with ⟨q', hq'⟩ | ⟨q', hq'⟩
    · obtain ⟨g1, g2⟩ := hown' b o q' hq'
      refine ⟨g1, ?_⟩
      rcases g2 with ⟨q2, hq2⟩ | g2
      · obtain ⟨m', r, h1, _⟩ := γcall_some hq2
        exact (h.own b o _ h1).2
      · exact .inr (Nat.le_trans h.size_le g2)
    · obtain ⟨g1, g2⟩ := h.own b o q' hq'
      exact ⟨Nat.lt_of_lt_of_le g1 hchg.keep.size, g2⟩
  · refine h.chg.trans hchg ?_
    rintro b o ⟨q, hq⟩ hlt
    obtain ⟨m', r, h1, _⟩ := γcall_some hq
    rcases (h.own b o _ h1).2 with h3 | h3
    · exact h3
    · omega

/-- What was lent, put back. -/
theorem HR.putback1 (h : HR w0 S0 A w κ γ (wr0 H L)) (h0 : H 0 = []) {m : Nat} {u : TV} (hm : L[m]? = some u) {p : Path} (hp : (cellAt H p).isSome = true) (hx : κ [(0, m)] = κ p)
    (hcell : ∀ pn s nd, p = pn ++ [s] → cellAt H pn = some nd → ∀ B off arr T, cellAddr (κ pn) nd s = some (B, off) → w.heap[B]? = some (.cells arr T (0, 0)) → (arr[off]?).getD undef = κ p) :
    ∃ κ' γ', HR w0 S0 A w κ' γ' (wr0 (modH H (fun _ => u) p) (L.modify m fun _ => .junk)) ∧ κ' p = κ p ∧ (∀ q, ¬ p <+: q → κ' q = κ q) := by
  have hcellm : cellAt (wr0 H L) [(0, m)] = some u := by rw [cellAt_root]; simpa [wr0] using hm
  have hT := h.root (0, m) u (by simpa [wr0] using hm)
  rw [hx] at hT
  have hj := h.junk hcellm
  have hl := live_junk hcellm
  have e1 : modH (wr0 H L) (fun _ => .junk) [(0, m)] = wr0 H (L.modify m fun _ => .junk) := by
    funext y
    simp only [modH, wr0]
    by_cases hy : y = 0 <;> simp [hy, modd]
  rw [e1] at hj hl
  obtain ⟨u0, hu0⟩ := Option.isSome_iff_exists.1 hp
  have hpz := not0_of_live h0 hu0
  refine ⟨mvκ κ [(0, m)] p 0 (κ p), fun b o => (γ b o).map (rnm [(0, m)] p 0), ?_, mvκ_self, fun q hq => mvκ_not q hq⟩
  rcases List.eq_nil_or_concat p with rfl | ⟨pn, s, rfl⟩
  · cases hu0
  · rw [List.concat_eq_append] at *
    cases pn with
    | nil =>
      simp only [List.nil_append] at *
      have hs0 : s.1 ≠ 0 := by intro hh; exact hpz s.2 [] (by rw [← hh])
      have kept : ∀ q, ¬ [s] <+: q → Live (wr0 H (L.modify m fun _ => .junk)) q → mvκ κ [(0, m)] [s] 0 (κ [s]) q = κ q ∧
          ∀ b o, γ b o = some q → (γ b o).map (rnm [(0, m)] [s] 0) = some q ∧ True := by
        intro q hq hlq
        refine ⟨mvκ_not q hq, fun b o hb => ⟨?_, trivial⟩⟩
        rw [hb]; simp [rnm_not _ _ _ _ (hl q hlq)]
      have hset := hj.setroot s.1 ((H s.1).modify s.2 fun _ => u) (κ' := mvκ κ [(0, m)] [s] 0 (κ [s])) (γ' := fun b o => (γ b o).map (rnm [(0, m)] [s] 0)) (K := fun _ _ => True)
        (fun q hq hlq => kept q (by rintro ⟨t, rfl⟩; exact hq s.2 t rfl) hlq) (fun s' hs' => mvκ_not _ (by rintro ⟨t, ht⟩; simp at ht; exact hs' (by rw [← ht.1]))) (Keep.refl _ w) (fun _ _ _ => trivial)
        (fun b o q hb => by
          cases hg : γ b o with
          | none => simp [hg] at hb
          | some q0 => exact h.own b o q0 hg) h.chg (fun j c hc => by
          rw [List.getElem?_modify] at hc
          by_cases hjs : s.2 = j
          · subst hjs
            cases hh : (H s.1)[s.2]? with
            | none => simp [hh] at hc
            | some y =>
              simp only [hh, Option.map_eq_map, Option.map_some, if_true, Option.some.injEq] at hc
              subst hc
              have := hT.move0 (t := [s])
              rw [mvκ_self]; exact this
          · simp only [hjs, if_false, Option.map_eq_map, Option.map_id'] at hc
            have hne : ¬ [s] <+: [(s.1, j)] := by rintro ⟨t, ht⟩; simp at ht; exact hjs (by rw [ht.1])
            rw [mvκ_not _ hne]
            refine hj.root_keep (s := (s.1, j)) (by simpa [wr0, hs0] using hc) (fun q hq hlq => kept q (fun hh => ?_) hlq) (Keep.refl (fun _ _ => True) w) (fun _ _ _ => trivial)
            obtain ⟨t, rfl⟩ := hq
            obtain ⟨t', ht'⟩ := hh
            simp at ht'
            exact hjs (by rw [ht'.1]))
      have e2 : (fun x => if x = s.1 then (H s.1).modify s.2 (fun _ => u) else wr0 H (L.modify m fun _ => .junk) x) = wr0 (modH H (fun _ => u) [s]) (L.modify m fun _ => .junk) := by
        funext y
        simp only [wr0, modH, modd]
        by_cases hy : y = s.1
        · subst hy; simp [hs0]
        · simp [hy]
      rwa [e2] at hset
    | cons s0 r =>
      rw [cellAt_snoc _ _ (by simp)] at hu0
      simp only [Option.bind_eq_some_iff] at hu0
      obtain ⟨nd, q1, q2⟩ := hu0
      have hpn := not0_of_live h0 q1
      have hf := hj.fill (ps := [(0, m)]) (u' := u) (x := κ (s0 :: r ++ [s])) (o1 := 0) (by rw [cellAt_wr0 _ _ hpn]; exact q1) q2 hl hT.move0 (fun B off arr T g1 g2 => hcell _ s nd rfl q1 B off arr T g1 g2)
      rw [modH_wr0 _ _ _ hpz] at hf
      exact hf
end
end Go.Proofs.YtloodkhdngipbaaT
