/- TM, part Ae: regions that are drawn: in whatever order, as in the order that is written. -/
import Derived.Test.YtloodkhdngipbaaTmAd
namespace Go.Proofs.YtloodkhdngipbaaT
set_option linter.unusedVariables false
set_option linter.unusedSimpArgs false
open Go

section
variable {P : Program} {st st' : St} {root : Nat} {H H' H1 : Hp} {E : Eff} {op : TOp}

/-! ### what dies -/
mutual
theorem killT_off {W : List Nat} {d : Path → Bool} (hd : ∀ q, d q = true → ∃ s t, q = s :: t ∧ s.1 ∈ W) : ∀ u : TV, (∀ r ∈ W, r ∉ rootsT u) → killT d u = u
  | .rf p o l, h => by
    simp only [killT]
    split
    · rename_i hq
      obtain ⟨s, t, rfl, hs⟩ := hd p hq
      exact absurd (by simp [rootsT]) (h s.1 hs)
    · rfl
  | .pt p i f, h => by
    simp only [killT]
    split
    · rename_i hq
      obtain ⟨s, t, rfl, hs⟩ := hd p hq
      exact absurd (by simp [rootsT]) (h s.1 hs)
    · rfl
  | .ag cs, h => by simp only [killT]; rw [killL_off hd cs h]
  | .tu cs, h => by simp only [killT]; rw [killL_off hd cs h]
  | .fn g cs, h => by simp only [killT]; rw [killL_off hd cs h]
  | .b _, _ => rfl
  | .i .., _ => rfl
  | .f _, _ => rfl
  | .s _, _ => rfl
  | .np, _ => rfl
  | .sl .., _ => rfl
  | .po .., _ => rfl
  | .junk, _ => rfl
  | .pin _, _ => rfl
theorem killL_off {W : List Nat} {d : Path → Bool} (hd : ∀ q, d q = true → ∃ s t, q = s :: t ∧ s.1 ∈ W) : ∀ us : List TV, (∀ r ∈ W, r ∉ rootsL us) → killL d us = us
  | [], _ => rfl
  | u :: us, h => by
    simp only [killL]
    rw [killT_off hd u fun r hr hm => h r hr (by simp [rootsL, hm]), killL_off hd us fun r hr hm => h r hr (by simp [rootsL, hm])]
end

mutual
theorem killT_nj {d : Path → Bool} : ∀ u : TV, njT (killT d u) = true → killT d u = u
  | .rf p o l, h => by
    simp only [killT] at h ⊢
    split
    · rename_i hq; simp only [hq, if_true, njT] at h; cases h
    · rfl
  | .pt p i f, h => by
    simp only [killT] at h ⊢
    split
    · rename_i hq; simp only [hq, if_true, njT] at h; cases h
    · rfl
  | .ag cs, h => by simp only [killT, njT] at h ⊢; rw [killL_nj cs h]
  | .tu cs, h => by simp only [killT, njT] at h ⊢; rw [killL_nj cs h]
  | .fn g cs, h => by simp only [killT, njT] at h ⊢; rw [killL_nj cs h]
  | .b _, _ => rfl
  | .i .., _ => rfl
  | .f _, _ => rfl
  | .s _, _ => rfl
  | .np, _ => rfl
  | .sl .., _ => rfl
  | .po .., _ => rfl
  | .junk, _ => rfl
  | .pin _, _ => rfl
theorem killL_nj {d : Path → Bool} : ∀ us : List TV, njL (killL d us) = true → killL d us = us
  | [], _ => rfl
  | u :: us, h => by
    simp only [killL, njL, Bool.and_eq_true] at h ⊢
    rw [killT_nj u h.1, killL_nj us h.2]
end

mutual
theorem killT_comm (d e : Path → Bool) : ∀ u : TV, killT d (killT e u) = killT e (killT d u)
  | .rf p o l => by cases h1 : d p <;> cases h2 : e p <;> simp [killT, h1, h2]
  | .pt p i f => by cases h1 : d p <;> cases h2 : e p <;> simp [killT, h1, h2]
  | .ag cs => by simp only [killT]; rw [killL_comm d e cs]
  | .tu cs => by simp only [killT]; rw [killL_comm d e cs]
  | .fn g cs => by simp only [killT]; rw [killL_comm d e cs]
  | .b _ => rfl
  | .i .. => rfl
  | .f _ => rfl
  | .s _ => rfl
  | .np => rfl
  | .sl .. => rfl
  | .po .. => rfl
  | .junk => rfl
  | .pin _ => rfl
theorem killL_comm (d e : Path → Bool) : ∀ us : List TV, killL d (killL e us) = killL e (killL d us)
  | [] => rfl
  | u :: us => by simp only [killL]; rw [killT_comm d e u, killL_comm d e us]
end

theorem deadT_comm (d e : Option (Path → Bool)) (u : TV) : deadT d (deadT e u) = deadT e (deadT d u) := by
  cases d <;> cases e <;> first | rfl | exact killT_comm _ _ u
theorem deadT_off {W : List Nat} {d : Option (Path → Bool)} (hd : ∀ q, deadB d q = true → ∃ s t, q = s :: t ∧ s.1 ∈ W) (u : TV) (h : ∀ r ∈ W, r ∉ rootsT u) : deadT d u = u := by
  cases d with
  | none => rfl
  | some d => exact killT_off (W := W) hd u h
theorem gB_dead (w : Bool) (d : Option (Path → Bool)) (u : TV) : gB w (deadT d u) = gB w u := by
  cases d with
  | none => rfl
  | some d =>
    cases u <;> simp only [deadT, killT] <;> first
      | rfl
      | (split <;> rfl)
theorem deadT_b {d : Option (Path → Bool)} {u : TV} {x : Bool} (h : deadT d u = .b x) : u = .b x := by
  cases d with
  | none => exact h
  | some d =>
    cases u <;> simp only [deadT, killT] at h <;> first
      | exact h
      | (split at h <;> cases h)
      | cases h
theorem deadT_nj {d : Option (Path → Bool)} {u : TV} (h : njT (deadT d u) = true) : deadT d u = u := by
  cases d with
  | none => rfl
  | some d => exact killT_nj u h

/-! ### what an operation looks at -/
theorem opT_congr0 {op : TOp} (ht : ∀ k ∈ opTm op, st'.t k = st.t k) : opT st' op = opT st op := by
  have e : ∀ x : TOpd, (∀ k ∈ x.tm, k ∈ opTm op) → x.ev st' = x.ev st := fun x hx => ev_loc fun k hk => ht k (hx k hk)
  have eO : ∀ x : Option TOpd, (∀ k ∈ tmsO x, k ∈ opTm op) → evO st' x = evO st x := fun x hx => by
    cases x with
    | none => rfl
    | some x => simp only [evO]; rw [e x fun k hk => hx k (by simpa [tmsO] using hk)]
  cases op <;> simp only [opT, opTm] at e eO ⊢
  case build zero ps => congr 1; exact List.map_congr_left fun p hp => e _ fun k hk => List.mem_flatMap.2 ⟨p, hp, hk⟩
  case bslice z l zero ps => congr 1; exact List.map_congr_left fun p hp => e _ fun k hk => List.mem_flatMap.2 ⟨p, hp, hk⟩
  case mkfn g caps => exact List.map_congr_left fun p hp => e _ fun k hk => List.mem_flatMap.2 ⟨p, hp, hk⟩
  case call g args => exact List.map_congr_left fun p hp => e _ fun k hk => List.mem_flatMap.2 ⟨p, hp, hk⟩
  case callv f args =>
    rw [e f fun k hk => by simp [hk]]
    congr 1
    exact List.map_congr_left fun p hp => e _ fun k hk => List.mem_append_right _ (List.mem_flatMap.2 ⟨p, hp, hk⟩)
  case slice s z x lo hi =>
    rw [e x fun k hk => by simp [hk], eO lo fun k hk => by simp [hk], eO hi fun k hk => by simp [hk]]
  all_goals first
    | (rw [e _ fun k hk => hk])
    | (rw [e _ fun k hk => List.mem_append_left _ hk, e _ fun k hk => List.mem_append_right _ hk])
    | (rename_i c a b; rw [e c fun k hk => by simp [hk], e a fun k hk => by simp [hk], e b fun k hk => by simp [hk]])
    | (rename_i z by_ zero l c; rw [e l fun k hk => by simp [hk], e c fun k hk => by simp [hk]])

theorem opT_congr {op : TOp} (ht : SameT st st' op) : opT st' op = opT st op := by
  cases op with
  | ext k x => exact ht.1
  | _ => exact opT_congr0 ht

def isExt : TOp → Bool
  | .ext .. => true
  | _ => false
/-- What a temporary of an operation holds is one of what it looks at. -/
theorem tm_in {k : Nat} (he : isExt op = false) : k ∈ opTm op → st.t k ∈ opT st op := by
  have e : ∀ x : TOpd, k ∈ x.tm → st.t k = x.ev st := fun x hx => by
    cases x with
    | t n => simp only [TOpd.tm, List.mem_singleton] at hx; subst hx; rfl
    | c v => simp [TOpd.tm] at hx
  have eO : ∀ x : Option TOpd, k ∈ tmsO x → st.t k ∈ evO st x := fun x hx => by
    cases x with
    | none => simp [tmsO] at hx
    | some x => simp only [evO, List.mem_singleton]; exact e x hx
  intro h
  cases op <;> simp only [opTm, opT, List.mem_append, List.mem_flatMap] at h ⊢
  case build zero ps => obtain ⟨p, hp, hk⟩ := h; exact .inr (List.mem_map.2 ⟨p, hp, (e _ hk).symm⟩)
  case bslice z l zero ps => obtain ⟨p, hp, hk⟩ := h; exact .inr (List.mem_map.2 ⟨p, hp, (e _ hk).symm⟩)
  case mkfn g caps => obtain ⟨p, hp, hk⟩ := h; exact List.mem_map.2 ⟨p, hp, (e _ hk).symm⟩
  case call g args => obtain ⟨p, hp, hk⟩ := h; exact List.mem_map.2 ⟨p, hp, (e _ hk).symm⟩
  case callv f args =>
    rcases h with h | ⟨p, hp, hk⟩
    · exact List.mem_cons.2 (.inl (e _ h))
    · exact List.mem_cons.2 (.inr (List.mem_map.2 ⟨p, hp, (e _ hk).symm⟩))
  case slice s z x lo hi =>
    rcases h with (h | h) | h
    · exact .inl (.inl (by simp [e _ h]))
    · exact .inl (.inr (eO _ h))
    · exact .inr (eO _ h)
  case pick c a b =>
    rcases h with (h | h) | h <;> simp [e _ h]
  case ext => cases he
  all_goals first
    | (simp [e _ h]; done)
    | (rcases h with h | h <;> simp [e _ h])

theorem rootsL_in {us : List TV} {u : TV} (h : u ∈ us) {r : Nat} (hr : r ∈ rootsT u) : r ∈ rootsL us := rootsL_mem.2 ⟨u, h, hr⟩
theorem njL_in {us : List TV} {u : TV} (h : u ∈ us) (hn : njL us = true) : njT u = true := by
  induction us with
  | nil => cases h
  | cons a us ih =>
    simp only [njL, Bool.and_eq_true] at hn
    rcases List.mem_cons.1 h with rfl | h
    · exact hn.1
    · exact ih h hn.2

/-- Most operations turn nothing. -/
theorem opW_pure (hw : canWr op = false) (h : opW P st root op (· = E)) : ∃ v, E = val st v := by
  cases op with
  | bin o x y =>
    simp only [opW] at h
    obtain ⟨v, _, h2⟩ := binT_one h
    exact ⟨v, h2.symm⟩
  | slice str z x lo hi =>
    cases str with
    | true =>
      simp only [opW] at h
      split at h
      case h_2 => exact h.elim
      obtain ⟨l, _, h, _⟩ := optB_one h
      obtain ⟨u, _, h, _⟩ := optB_one h
      exact ⟨_, h.2.2.2.symm⟩
    | false =>
      simp only [opW] at h
      split at h
      · obtain ⟨_, h⟩ := h
        obtain ⟨l, _, h, _⟩ := optB_one h
        obtain ⟨u, _, h, _⟩ := optB_one h
        exact ⟨_, h.2.2.2.symm⟩
      · obtain ⟨l, _, h, _⟩ := optB_one h
        obtain ⟨u, _, h, _⟩ := optB_one h
        exact ⟨_, h.2.2.symm⟩
      · obtain ⟨_, h⟩ := h
        obtain ⟨l, _, h, _⟩ := optB_one h
        obtain ⟨u, _, h, _⟩ := optB_one h
        exact ⟨_, h.2.2.2.symm⟩
      · exact h.elim
  | load g n a =>
    simp only [opW] at h
    split at h
    · split at h
      · cases g with
        | true => exact ⟨_, h.2.symm⟩
        | false => exact ⟨_, h.2.2.symm⟩
      · exact h.elim
    · cases g with
      | true => exact ⟨_, h.2.symm⟩
      | false => exact ⟨_, h.2.2.symm⟩
    · exact h.elim
  | fld g off n x =>
    simp only [opW] at h
    split at h
    · cases g with
      | true => exact ⟨_, h.2.symm⟩
      | false => exact ⟨_, h.2.2.symm⟩
    · exact h.elim
  | box => cases hw
  | bslice => cases hw
  | store => cases hw
  | mkslice => cases hw
  | app => cases hw
  | call => cases hw
  | callv => cases hw
  | _ =>
    simp only [opW] at h
    repeat' split at h
    all_goals first
      | exact h.elim
      | exact ⟨_, h.symm⟩
      | exact ⟨_, h.2.symm⟩
      | exact ⟨_, h.2.2.symm⟩
      | exact ⟨_, h.2.2.2.symm⟩

theorem voOf_congr {op : TOp} {v : TV} (ht : SameT st st' op) : voOf st' v op = voOf st v op := by
  cases op <;> first | rfl | (simp only [voOf]; rw [ev_loc (st := st) (st' := st') (fun k hk => ht k (by simpa [opTm] using hk))])

mutual
theorem killT_live {d : Path → Bool} : ∀ u : TV, liveT (some d) u = true → killT d u = u
  | .rf p o l, h => by
    simp only [liveT, liveB, Bool.not_eq_true'] at h
    simp [killT, h]
  | .pt p i f, h => by
    simp only [liveT, liveB, Bool.not_eq_true'] at h
    simp [killT, h]
  | .ag cs, h => by simp only [liveT] at h; simp only [killT]; rw [killL_live cs h]
  | .tu cs, h => by simp only [liveT] at h; simp only [killT]; rw [killL_live cs h]
  | .fn g cs, h => by simp only [liveT] at h; simp only [killT]; rw [killL_live cs h]
  | .b _, _ => rfl
  | .i .., _ => rfl
  | .f _, _ => rfl
  | .s _, _ => rfl
  | .np, _ => rfl
  | .sl .., _ => rfl
  | .po .., _ => rfl
  | .junk, _ => rfl
  | .pin _, _ => rfl
theorem killL_live {d : Path → Bool} : ∀ us : List TV, liveL (some d) us = true → killL d us = us
  | [], _ => rfl
  | u :: us, h => by
    simp only [liveL, Bool.and_eq_true] at h
    simp only [killL]
    rw [killT_live u h.1, killL_live us h.2]
end
theorem deadT_live {d : Option (Path → Bool)} {u : TV} (h : liveT d u = true) : deadT d u = u := by
  cases d with
  | none => rfl
  | some d => exact killT_live u h

/-! ### steps -/
def StepF (P : Program) (st : St) (o : TOper) (E : Eff) (f : Foot) : Prop :=
  wantW st o.guard fun b => (b = true → opW P st o.root o.op (· = E) ∧ f = footOf st o E) ∧ (b = false → E = val st (.tu []) ∧ f = foot0 o)

theorem undef_put (st : St) (dst : Option Nat) : st.put dst (val st (.tu [])) = st.undef dst := by
  unfold St.put St.undef val
  simp only [deadT]
  congr 1
  funext q
  unfold orgPut
  cases q <;> simp [deadB]

def Run (P : Program) (it : Nat → TOper × Foot) : List Nat → St → St → Prop
  | [], st, st' => st = st'
  | i :: is, st, st' => ∃ E, StepF P st (it i).1 E (it i).2 ∧ Run P it is (st.put (it i).1.dst E) st'

structure IndF (f g : Foot) : Prop where
  a : ∀ r ∈ f.wr, r ∉ g.rd ∧ r ∉ g.wr ∧ r ≠ g.root ∧ r ∉ g.vr
  n : f.wr ≠ [] → g.nj = true
  b : ∀ r ∈ g.wr, r ∉ f.rd ∧ r ≠ f.root ∧ r ∉ f.vr

theorem disj_spec {a b : List Nat} (h : disj a b = true) : ∀ r ∈ a, r ∉ b := by
  intro r hr
  have := List.all_eq_true.1 h r hr
  simpa using this

theorem indF_of {f g : Foot} (h : pair1 f g = true) : IndF f g := by
  simp only [pair1, Bool.and_eq_true, Bool.or_eq_true, List.isEmpty_iff] at h
  obtain ⟨h1, h2⟩ := h
  refine ⟨fun r hr => ?_, fun hn => ?_, fun r hr => ?_⟩
  · rcases h1 with h1 | h1
    · rw [h1] at hr; cases hr
    · have := disj_spec h1.1 r hr
      simp only [List.mem_cons, List.mem_append, not_or] at this
      exact ⟨this.2.1.1, this.2.1.2, this.1, this.2.2⟩
  · rcases h1 with h1 | h1
    · exact absurd h1 hn
    · exact h1.2
  · rcases h2 with h2 | h2
    · rw [h2] at hr; cases hr
    · have := disj_spec h2 r hr
      simp only [List.mem_cons, List.mem_append, not_or] at this
      exact ⟨this.2.1, this.1, this.2.2⟩

structure IndT (x y : TOper) : Prop where
  a : ∀ d, x.dst = some d → d ∉ lookT y ∧ y.dst ≠ some d
  b : ∀ d, y.dst = some d → d ∉ lookT x

theorem indT_of {x y : TOper} (h : apartT x y = true) : IndT x y := by
  simp only [apartT, Bool.and_eq_true] at h
  refine ⟨fun d hd => ?_, fun d hd => ?_⟩
  · simp only [hd, Bool.and_eq_true, Bool.not_eq_true', bne_iff_ne, ne_eq] at h
    exact ⟨by simpa using h.1.1, h.1.2⟩
  · simp only [hd, Bool.not_eq_true'] at h
    simpa using h.2

/-- A step hangs on what it looks at. -/
theorem step_loc {o : TOper} {f : Foot} (h : StepF P st o E f) (hg : ∀ k ∈ guardTm o.guard, ∀ w, gB w (st'.t k) = gB w (st.t k))
    (ha : f = footOf st o E → opW P st o.root o.op (· = E) → AgrS st st' o.op o.root) : ∃ E', StepF P st' o E' f ∧ LocE st st' E E' := by
  have key : ∀ b, ((b = true → opW P st o.root o.op (· = E) ∧ f = footOf st o E) ∧ (b = false → E = val st (.tu []) ∧ f = foot0 o)) →
      ∃ E', ((b = true → opW P st' o.root o.op (· = E') ∧ f = footOf st' o E') ∧ (b = false → E' = val st' (.tu []) ∧ f = foot0 o)) ∧ LocE st st' E E' := by
    intro b hb
    cases b with
    | true =>
      obtain ⟨h1, h2⟩ := hb.1 rfl
      have hagr := ha h2 h1
      obtain ⟨E', g1, g2⟩ := opW_loc h1 hagr
      refine ⟨E', ⟨fun _ => ⟨g1, ?_⟩, fun h => by cases h⟩, g2⟩
      rw [h2]; simp only [footOf, opT_congr hagr.t, g2.wr, g2.v, g2.dead, voOf_congr hagr.t]
    | false =>
      obtain ⟨h1, h2⟩ := hb.2 rfl
      subst h1
      exact ⟨_, ⟨fun h => (by cases h), fun _ => ⟨rfl, h2⟩⟩, LocE.val _⟩
  unfold StepF at h ⊢
  cases hgd : o.guard with
  | none =>
    rw [hgd] at h
    exact key true h
  | some tw =>
    obtain ⟨t, w⟩ := tw
    rw [hgd] at h hg
    simp only [wantW] at h ⊢
    split at h
    case h_2 => exact h.elim
    rename_i x hx
    rw [hg t (by simp [guardTm]) w, hx]
    exact key _ h

theorem sameT_refl (st : St) (op : TOp) : SameT st st op := by
  cases op with
  | ext k x => exact ⟨rfl, fun vs h => ⟨vs, h, rfl⟩⟩
  | _ => exact fun _ _ => rfl
theorem sameT_of {op : TOp} (he : isExt op = false) (h : ∀ k ∈ opTm op, st'.t k = st.t k) : SameT st st' op := by
  cases op with
  | ext k x => cases he
  | _ => exact h
theorem agr_refl (st : St) (op : TOp) (root : Nat) : AgrS st st op root := ⟨sameT_refl _ _, fun _ _ => rfl, rfl, fun _ _ _ => rfl⟩

theorem step_self {o : TOper} {f : Foot} (h : StepF P st o E f) : (∀ r, r ∉ E.wr → E.H r = st.H r) ∧ (∀ r, E.nr = some r → r ∈ E.wr) ∧ (∀ q, deadB E.dead q = true → ∃ s t, q = s :: t ∧ s.1 ∈ E.wr) := by
  obtain ⟨E', _, h2⟩ := step_loc (st' := st) h (fun _ _ _ => rfl) (fun _ _ => agr_refl _ _ _)
  exact ⟨h2.off, h2.nrw, h2.ded⟩

theorem step_foot {o : TOper} {f : Foot} (h : StepF P st o E f) : f.wr = E.wr ∧ f.vr = rootsT E.v ∧ f.root = o.root := by
  have key : ∀ b, ((b = true → opW P st o.root o.op (· = E) ∧ f = footOf st o E) ∧ (b = false → E = val st (.tu []) ∧ f = foot0 o)) → f.wr = E.wr ∧ f.vr = rootsT E.v ∧ f.root = o.root := by
    intro b hb
    cases b with
    | true => obtain ⟨_, rfl⟩ := hb.1 rfl; exact ⟨rfl, rfl, rfl⟩
    | false => obtain ⟨rfl, rfl⟩ := hb.2 rfl; exact ⟨rfl, rfl, rfl⟩
  unfold StepF at h
  cases hgd : o.guard with
  | none => rw [hgd] at h; exact key true h
  | some tw =>
    obtain ⟨t, w⟩ := tw
    rw [hgd] at h
    simp only [wantW] at h
    split at h
    case h_2 => exact h.elim
    exact key _ h

theorem step_pure {o : TOper} {f : Foot} (h : StepF P st o E f) (hw : canWr o.op = false) : f.wr = [] := by
  have key : ∀ b, ((b = true → opW P st o.root o.op (· = E) ∧ f = footOf st o E) ∧ (b = false → E = val st (.tu []) ∧ f = foot0 o)) → f.wr = [] := by
    intro b hb
    cases b with
    | true => obtain ⟨h1, rfl⟩ := hb.1 rfl; obtain ⟨v, rfl⟩ := opW_pure hw h1; rfl
    | false => obtain ⟨rfl, rfl⟩ := hb.2 rfl; rfl
  unfold StepF at h
  cases hgd : o.guard with
  | none => rw [hgd] at h; exact key true h
  | some tw =>
    obtain ⟨t, w⟩ := tw
    rw [hgd] at h
    simp only [wantW] at h
    split at h
    case h_2 => exact h.elim
    exact key _ h

theorem deadT_tu {d : Option (Path → Bool)} {u : TV} {vs : List TV} (h : deadT d u = .tu vs) : ∃ vs0, u = .tu vs0 ∧ ∀ k : Nat, vs[k]? = (vs0[k]?).map (deadT d) := by
  cases d with
  | none => exact ⟨vs, h, fun k => by cases vs[k]? <;> rfl⟩
  | some d =>
    cases u <;> simp only [deadT, killT] at h <;> first
      | (split at h <;> cases h)
      | (cases h; done)
      | (rename_i vs0; injection h with h; refine ⟨vs0, rfl, fun k => ?_⟩; rw [← h, killL_eq, List.getElem?_map]; rfl)
theorem tu_deadT {d : Option (Path → Bool)} (vs : List TV) : ∃ vs', deadT d (.tu vs) = .tu vs' ∧ ∀ k : Nat, vs'[k]? = (vs[k]?).map (deadT d) := by
  cases d with
  | none => exact ⟨vs, rfl, fun k => by cases vs[k]? <;> rfl⟩
  | some d => exact ⟨killL d vs, rfl, fun k => by rw [killL_eq, List.getElem?_map]; rfl⟩
theorem opW_extTu {k : Nat} {x : TOpd} (h : opW P st root (.ext k x) (· = E)) : ∃ vs, x.ev st = .tu vs := by
  simp only [opW] at h
  split at h
  · rename_i vs hx; exact ⟨vs, hx⟩
  · exact h.elim

/-- Two steps that do not meet. -/
theorem step_swap {x y : TOper} {f g : Foot} {E2 : Eff} (hx : StepF P st x E f) (hy : StepF P (st.put x.dst E) y E2 g) (hT : IndT x y) (hI : IndF f g) :
    ∃ E2' E', StepF P st y E2' g ∧ StepF P (st.put y.dst E2') x E' f ∧ (st.put y.dst E2').put x.dst E' = (st.put x.dst E).put y.dst E2 := by
  obtain ⟨fw, fv, fr⟩ := step_foot hx
  obtain ⟨gw, gv, gr⟩ := step_foot hy
  obtain ⟨off1, nrw1, ded1⟩ := step_self hx
  obtain ⟨off2, nrw2, ded2⟩ := step_self hy
  -- the second's temporaries before the first
  have ht1 : ∀ k ∈ lookT y, (st.put x.dst E).t k = deadT E.dead (st.t k) := by
    intro k hk
    have : x.dst ≠ some k := fun h => (hT.a k h).1 hk
    simp [St.put, this]
  have alive1 : ∀ u, njT (deadT E.dead u) = true ∨ E.wr = [] → deadT E.dead u = u := by
    rintro u (h | h)
    · exact deadT_nj h
    · exact deadT_off (W := []) (fun q hq => by obtain ⟨s, t, h1, h2⟩ := ded1 q hq; rw [h] at h2; cases h2) u (by simp)
  have hag1 : g = footOf (st.put x.dst E) y E2 → opW P (st.put x.dst E) y.root y.op (· = E2) → AgrS (st.put x.dst E) st y.op y.root := by
    intro hg hop
    have htm0 : isExt y.op = false → ∀ k ∈ opTm y.op, st.t k = (st.put x.dst E).t k := by
      intro he k hk
      have h1 := ht1 k (by simp [lookT, hk])
      rw [h1]
      symm
      refine alive1 _ ?_
      by_cases hw : E.wr = []
      · exact .inr hw
      · left
        have hn := hI.n (by rw [fw]; exact hw)
        rw [hg] at hn
        rw [← h1]
        exact njL_in (tm_in he hk) hn
    have htm : SameT (st.put x.dst E) st y.op := by
      cases he : isExt y.op with
      | false => exact sameT_of he (htm0 he)
      | true =>
        cases hyo : y.op with
        | ext k o =>
          rw [hyo] at hop
          obtain ⟨vs, hvs⟩ := opW_extTu hop
          cases o with
          | c v => exact ⟨rfl, fun vs h => ⟨vs, h, rfl⟩⟩
          | t n =>
            have h1 := ht1 n (by simp [lookT, hyo, opTm, TOpd.tm])
            have hvs' : (st.put x.dst E).t n = .tu vs := hvs
            rw [h1] at hvs'
            obtain ⟨vs0, e1, e2⟩ := deadT_tu hvs'
            have hk : vs0[k]? = vs[k]? := by
              rw [e2 k]
              cases h0 : vs0[k]? with
              | none => rfl
              | some u =>
                simp only [Option.map_some]
                congr 1; symm
                refine alive1 u ?_
                by_cases hw : E.wr = []
                · exact .inr hw
                · left
                  have hn := hI.n (by rw [fw]; exact hw)
                  rw [hg] at hn
                  refine njL_in (us := opT (st.put x.dst E) y.op) ?_ hn
                  rw [hyo]
                  show deadT E.dead u ∈ extT k ((st.put x.dst E).t n)
                  rw [h1, hvs']
                  simp [extT, e2 k, h0]
            refine ⟨?_, fun vs1 h => ⟨vs0, e1, ?_⟩⟩
            · show extT k (st.t n) = extT k ((st.put x.dst E).t n)
              rw [h1, hvs', e1]; simp only [extT, hk]
            · have h2 : (st.put x.dst E).t n = .tu vs1 := h
              rw [h1, hvs'] at h2; cases h2; exact hk
        | _ => rw [hyo] at he; cases he
    refine ⟨htm, fun r hr => ?_, ?_, fun s t hs => ?_⟩
    · have : r ∉ E.wr := fun hw => (hI.a r (by rw [fw]; exact hw)).1 (by rw [hg]; exact hr)
      exact (off1 r this).symm
    · have : y.root ∉ E.wr := fun hw => (hI.a y.root (by rw [fw]; exact hw)).2.2.1 gr.symm
      exact (off1 _ this).symm
    · have : s.1 ∉ E.wr := fun hw => (hI.a s.1 (by rw [fw]; exact hw)).1 (by rw [hg]; exact hs)
      simp only [St.put, orgPut]
      rw [if_neg (fun h => this (nrw1 _ h)), if_neg]
      intro hd
      obtain ⟨s', t', h1, h2⟩ := ded1 _ hd
      cases h1; exact this h2
  obtain ⟨E2', hy', L2⟩ := step_loc (st' := st) hy (fun k hk w => by
      rw [ht1 k (by simp [lookT, hk]), gB_dead]) (fun hg hop => hag1 hg hop)
  -- the first behind it
  have ht2 : ∀ k ∈ lookT x, (st.put y.dst E2').t k = deadT E2'.dead (st.t k) := by
    intro k hk
    have : y.dst ≠ some k := fun h => hT.b k h hk
    simp [St.put, this]
  have ded2' : ∀ q, deadB E2'.dead q = true → ∃ s t, q = s :: t ∧ s.1 ∈ E2.wr := by rw [L2.dead]; exact ded2
  have hag2 : f = footOf st x E → opW P st x.root x.op (· = E) → AgrS st (st.put y.dst E2') x.op x.root := by
    intro hf hop
    refine ⟨?_, fun r hr => ?_, ?_, fun s t hs => ?_⟩
    · cases he : isExt x.op with
      | false =>
        refine sameT_of he fun k hk => ?_
        rw [ht2 k (by simp [lookT, hk])]
        refine deadT_off ded2' _ fun r hr hm => (hI.b r (by rw [gw]; exact hr)).1 ?_
        rw [hf]; exact rootsL_in (tm_in he hk) hm
      | true =>
        cases hxo : x.op with
        | ext k o =>
          rw [hxo] at hop
          obtain ⟨vs, hvs⟩ := opW_extTu hop
          cases o with
          | c v => exact ⟨rfl, fun vs h => ⟨vs, h, rfl⟩⟩
          | t n =>
            have h1 := ht2 n (by simp [lookT, hxo, opTm, TOpd.tm])
            have hvs' : st.t n = .tu vs := hvs
            rw [hvs'] at h1
            obtain ⟨vs1, e1, e2⟩ := tu_deadT (d := E2'.dead) vs
            have hk : vs1[k]? = vs[k]? := by
              rw [e2 k]
              cases h0 : vs[k]? with
              | none => rfl
              | some u =>
                simp only [Option.map_some]
                congr 1
                refine deadT_off ded2' _ fun r hr hm => (hI.b r (by rw [gw]; exact hr)).1 ?_
                rw [hf]
                refine rootsL_in (us := opT st x.op) ?_ hm
                rw [hxo]
                show u ∈ extT k (st.t n)
                rw [hvs']; simp [extT, h0]
            refine ⟨?_, fun vs2 h => ⟨vs1, by show (st.put y.dst E2').t n = _; rw [h1, e1], ?_⟩⟩
            · show extT k ((st.put y.dst E2').t n) = extT k (st.t n)
              rw [h1, e1, hvs']; simp only [extT, hk]
            · have h2 : st.t n = .tu vs2 := h
              rw [hvs'] at h2; cases h2; exact hk
        | _ => rw [hxo] at he; cases he
    · have : r ∉ E2.wr := fun hw => (hI.b r (by rw [gw]; exact hw)).1 (by rw [hf]; exact hr)
      exact (L2.mix r).2 this
    · have : x.root ∉ E2.wr := fun hw => (hI.b x.root (by rw [gw]; exact hw)).2.1 fr.symm
      exact (L2.mix _).2 this
    · have : s.1 ∉ E2.wr := fun hw => (hI.b s.1 (by rw [gw]; exact hw)).1 (by rw [hf]; exact hs)
      simp only [St.put, orgPut]
      rw [if_neg (fun h => this (nrw2 _ (by rw [← L2.nr]; exact h))), if_neg]
      intro hd
      obtain ⟨s', t', h1, h2⟩ := ded2' _ hd
      cases h1; exact this h2
  obtain ⟨E', hx', L1⟩ := step_loc (st' := st.put y.dst E2') hx (fun k hk w => by
      rw [ht2 k (by simp [lookT, hk]), gB_dead]) (fun hf hop => hag2 hf hop)
  refine ⟨E2', E', hy', hx', ?_⟩
  -- the same in the end
  have hdis : ∀ r, r ∈ E.wr → r ∉ E2.wr := fun r hr hm => (hI.a r (by rw [fw]; exact hr)).2.1 (by rw [gw]; exact hm)
  have et : ((st.put y.dst E2').put x.dst E').t = ((st.put x.dst E).put y.dst E2).t := by
    funext k
    simp only [St.put]
    by_cases h1 : x.dst = some k
    · have h2 : y.dst ≠ some k := (hT.a k h1).2
      simp only [h1, if_true, h2, if_false]
      rw [L1.v]
      exact (deadT_off ded2 _ fun r hr hm => (hI.b r (by rw [gw]; exact hr)).2.2 (by rw [fv]; exact hm)).symm
    · by_cases h2 : y.dst = some k
      · simp only [h1, if_false, h2, if_true]
        rw [L2.v, L1.dead]
        exact deadT_off ded1 _ fun r hr hm => (hI.a r (by rw [fw]; exact hr)).2.2.2 (by rw [gv]; exact hm)
      · simp only [h1, if_false, h2]
        rw [L1.dead, L2.dead, deadT_comm]
  have eH : ((st.put y.dst E2').put x.dst E').H = ((st.put x.dst E).put y.dst E2).H := by
    funext r
    show E'.H r = E2.H r
    by_cases h2 : r ∈ E2.wr
    · have h1 : r ∉ E.wr := fun h => hdis r h h2
      rw [(L1.mix r).2 h1]
      exact (L2.mix r).1 h2
    · rw [off2 r h2]
      show E'.H r = E.H r
      by_cases h1 : r ∈ E.wr
      · exact (L1.mix r).1 h1
      · rw [(L1.mix r).2 h1, off1 r h1]
        exact (L2.mix r).2 h2
  have eo : ((st.put y.dst E2').put x.dst E').org = ((st.put x.dst E).put y.dst E2).org := by
    funext q
    cases q with
    | nil => rfl
    | cons s t =>
      simp only [St.put, orgPut]
      rw [L1.nr, L1.norg, L1.dead, L2.nr, L2.norg, L2.dead]
      by_cases h1 : E.nr = some s.1
      · have m1 := nrw1 _ h1
        have m2 : s.1 ∉ E2.wr := hdis _ m1
        have n2 : E2.nr ≠ some s.1 := fun h => m2 (nrw2 _ h)
        have d2 : deadB E2.dead (s :: t) = false := by
          cases hd : deadB E2.dead (s :: t) with
          | false => rfl
          | true => obtain ⟨s', t', h3, h4⟩ := ded2 _ hd; cases h3; exact absurd h4 m2
        simp [h1, n2, d2]
      · by_cases h2 : E2.nr = some s.1
        · have m2 := nrw2 _ h2
          have d1 : deadB E.dead (s :: t) = false := by
            cases hd : deadB E.dead (s :: t) with
            | false => rfl
            | true => obtain ⟨s', t', h3, h4⟩ := ded1 _ hd; cases h3; exact absurd m2 (hdis _ h4)
          simp [h1, h2, d1]
        · simp only [h1, h2, if_false]
          cases deadB E.dead (s :: t) <;> cases deadB E2.dead (s :: t) <;> simp
  cases h1 : (st.put y.dst E2').put x.dst E' with
  | mk t1 H1 o1 =>
    cases h2 : (st.put x.dst E).put y.dst E2 with
    | mk t2 H2 o2 =>
      rw [h1, h2] at et eH eo
      simp only at et eH eo
      rw [et, eH, eo]

/-- A step that looks at values alone. -/
theorem step_vo {o : TOper} {f : Foot} {us : List TV} (h : StepF P st o E f) (hv : f.vo = some us) :
    f = footOf st o E ∧ ∃ v, E = val st v ∧ us = v :: opT st o.op ∧ (∀ k ∈ opTm o.op, st.t k ∈ opT st o.op) ∧
      ∀ st' : St, (∀ k ∈ guardTm o.guard, ∀ w, gB w (st'.t k) = gB w (st.t k)) → (∀ k ∈ opTm o.op, st'.t k = st.t k) → StepF P st' o (val st' v) f := by
  have key : ∀ b, ((b = true → opW P st o.root o.op (· = E) ∧ f = footOf st o E) ∧ (b = false → E = val st (.tu []) ∧ f = foot0 o)) →
      b = true ∧ f = footOf st o E ∧ ∃ v, E = val st v ∧ us = v :: opT st o.op ∧ (∀ k ∈ opTm o.op, st.t k ∈ opT st o.op) ∧
      ∀ st' : St, (∀ k ∈ opTm o.op, st'.t k = st.t k) → (b = true → opW P st' o.root o.op (· = val st' v) ∧ f = footOf st' o (val st' v)) ∧ (b = false → val st' v = val st' (.tu []) ∧ f = foot0 o) := by
    intro b hb
    cases b with
    | false => obtain ⟨_, rfl⟩ := hb.2 rfl; cases hv
    | true =>
      obtain ⟨h1, rfl⟩ := hb.1 rfl
      refine ⟨rfl, rfl, ?_⟩
      have hv' : voOf st E.v o.op = some us := hv
      have he : ∀ x : TOpd, ∀ st' : St, (∀ k ∈ x.tm, st'.t k = st.t k) → x.ev st' = x.ev st := fun x st' h => ev_loc h
      obtain ⟨v, rfl⟩ : ∃ v, E = val st v := by
        cases hop : o.op <;> rw [hop] at hv' h1 <;> first | (cases hv'; done) | exact opW_pure rfl h1
      refine ⟨v, rfl, ?_⟩
      have ht : ∀ x : TOpd, ∀ k ∈ x.tm, st.t k = x.ev st := fun x k hk => by
        cases x with
        | t n => simp only [TOpd.tm, List.mem_singleton] at hk; subst hk; rfl
        | c v => simp [TOpd.tm] at hk
      cases hop : o.op <;> rw [hop] at hv' h1 <;> first
        | (cases hv'; done)
        | (rename_i x
           simp only [voOf, Option.some.injEq] at hv'
           refine ⟨hv'.symm, fun k hk => ?_, fun st' hk => ⟨fun _ => ?_, fun h => by cases h⟩⟩
           · simp only [opTm] at hk; simp only [opT, List.mem_singleton]; exact ht x k hk
           · have e1 := he x st' (fun k h => hk k (by simpa [opTm] using h))
             refine ⟨?_, ?_⟩
             · simp only [opW, e1] at h1 ⊢
               first
                 | (have := congrArg Eff.v h1; simp only [val] at this ⊢; simp [this]; done)
                 | (split at h1 <;> rename_i hx <;> first
                     | exact h1.elim
                     | (have := congrArg Eff.v h1; simp only [val] at this ⊢; simp [hx, this]; done))
             · simp only [footOf, hop, opT, voOf, e1]; rfl)
  unfold StepF at h ⊢
  cases hgd : o.guard with
  | none =>
    rw [hgd] at h
    obtain ⟨_, k1, v, k2, k3, k4, k5⟩ := key true h
    exact ⟨k1, v, k2, k3, k4, fun st' _ ht => by simpa [wantW] using k5 st' ht⟩
  | some tw =>
    obtain ⟨t, w⟩ := tw
    rw [hgd] at h
    simp only [wantW] at h
    split at h
    case h_2 => exact h.elim
    rename_i x hx
    obtain ⟨k0, k1, v, k2, k3, k4, k5⟩ := key _ h
    refine ⟨k1, v, k2, k3, k4, fun st' hg ht => ?_⟩
    simp only [wantW]
    rw [hg t (by simp [guardTm]) w, hx]
    exact k5 st' ht

theorem put_val_eq (st : St) (d : Option Nat) (v : TV) : (st.put d (val st v)).H = st.H ∧ (st.put d (val st v)).org = st.org ∧ ∀ k, (st.put d (val st v)).t k = if d = some k then v else st.t k := by
  refine ⟨rfl, ?_, fun k => ?_⟩
  · funext q
    unfold St.put orgPut val
    cases q <;> simp [deadB]
  · simp [St.put, val, deadT]

theorem step_dd {o : TOper} {f : Foot} (h : StepF P st o E f) : f.dd = E.dead := by
  have key : ∀ b, ((b = true → opW P st o.root o.op (· = E) ∧ f = footOf st o E) ∧ (b = false → E = val st (.tu []) ∧ f = foot0 o)) → f.dd = E.dead := by
    intro b hb
    cases b with
    | true => obtain ⟨_, rfl⟩ := hb.1 rfl; rfl
    | false => obtain ⟨rfl, rfl⟩ := hb.2 rfl; rfl
  unfold StepF at h
  cases hgd : o.guard with
  | none => rw [hgd] at h; exact key true h
  | some tw =>
    obtain ⟨t, w⟩ := tw
    rw [hgd] at h
    simp only [wantW] at h
    split at h
    case h_2 => exact h.elim
    exact key _ h
theorem sameT_all {op : TOp} (h : ∀ k ∈ opTm op, st'.t k = st.t k) : SameT st st' op := by
  cases op with
  | ext k x =>
    have e : x.ev st' = x.ev st := ev_loc (fun k hk => h k (by simpa [opTm] using hk))
    exact ⟨by rw [e], fun vs hv => ⟨vs, by rw [e]; exact hv, rfl⟩⟩
  | _ => exact h
theorem liveL_in {d : Option (Path → Bool)} {us : List TV} {u : TV} (h : u ∈ us) (hn : liveL d us = true) : liveT d u = true := by
  induction us with
  | nil => cases h
  | cons a us ih =>
    simp only [liveL, Bool.and_eq_true] at hn
    rcases List.mem_cons.1 h with rfl | h
    · exact hn.1
    · exact ih h hn.2
theorem locE_H {st st' : St} {E E' : Eff} (h : LocE st st' E E') (hH : st'.H = st.H) : E'.H = E.H := by
  funext r
  by_cases hr : r ∈ E.wr
  · exact (h.mix r).1 hr
  · rw [(h.mix r).2 hr, h.off r hr, hH]
theorem orgPut_congr {st st' : St} {E E' : Eff} (ho : st'.org = st.org) (h1 : E'.nr = E.nr) (h2 : E'.norg = E.norg) (h3 : E'.dead = E.dead) : orgPut st' E' = orgPut st E := by
  funext q
  cases q <;> simp only [orgPut, ho, h1, h2, h3]

theorem st_ext {a b : St} (h1 : a.t = b.t) (h2 : a.H = b.H) (h3 : a.org = b.org) : a = b := by
  cases a; cases b; simp only at h1 h2 h3; rw [h1, h2, h3]

/-- One that looks at values alone, and one that kills none of them. -/
theorem step_swapA {x y : TOper} {f g : Foot} {E2 : Eff} {us : List TV} (hx : StepF P st x E f) (hy : StepF P (st.put x.dst E) y E2 g) (hT : IndT x y) (hv : f.vo = some us) (hl : liveL g.dd us = true) :
    ∃ E2' E', StepF P st y E2' g ∧ StepF P (st.put y.dst E2') x E' f ∧ (st.put y.dst E2').put x.dst E' = (st.put x.dst E).put y.dst E2 := by
  obtain ⟨hf, v, rfl, rfl, htm, hgo⟩ := step_vo hx hv
  obtain ⟨pH, po, pt⟩ := put_val_eq st x.dst v
  rw [step_dd hy] at hl
  have hk1 : ∀ k ∈ lookT y, st.t k = (st.put x.dst (val st v)).t k := fun k hk => by
    rw [pt, if_neg fun h => (hT.a k h).1 hk]
  obtain ⟨E2', hy', L2⟩ := step_loc (st' := st) hy (fun k hk w => by rw [hk1 k (by simp [lookT, hk])])
    (fun _ _ => ⟨sameT_all fun k hk => hk1 k (by simp [lookT, hk]), fun r hr => by rw [pH], by rw [pH], fun s t hs => by rw [po]⟩)
  have hH : E2'.H = E2.H := locE_H L2 pH.symm
  have ht2 : ∀ k ∈ lookT x, (st.put y.dst E2').t k = deadT E2'.dead (st.t k) := by
    intro k hk
    have : y.dst ≠ some k := fun h => hT.b k h hk
    simp [St.put, this]
  refine ⟨E2', val _ v, hy', hgo _ (fun k hk w => by rw [ht2 k (by simp [lookT, hk]), gB_dead]) (fun k hk => ?_), ?_⟩
  · rw [ht2 k (by simp [lookT, hk]), L2.dead]
    exact deadT_live (liveL_in (List.mem_cons_of_mem _ (htm k hk)) hl)
  · obtain ⟨qH, qo, qt⟩ := put_val_eq (st.put y.dst E2') x.dst v
    refine st_ext ?_ (by rw [qH]; exact hH) (by rw [qo]; exact (orgPut_congr po L2.nr.symm L2.norg.symm L2.dead.symm).symm)
    funext k
    rw [qt]
    by_cases h1 : x.dst = some k
    · have h2 : y.dst ≠ some k := (hT.a k h1).2
      rw [if_pos h1]
      show v = if y.dst = some k then E2.v else deadT E2.dead ((st.put x.dst (val st v)).t k)
      rw [if_neg h2, pt, if_pos h1]
      exact (deadT_live (liveL_in List.mem_cons_self hl)).symm
    · rw [if_neg h1]
      show (if y.dst = some k then E2'.v else deadT E2'.dead (st.t k)) = if y.dst = some k then E2.v else deadT E2.dead ((st.put x.dst (val st v)).t k)
      rw [pt, if_neg h1, L2.v, L2.dead]
theorem step_swapB {x y : TOper} {f g : Foot} {E2 : Eff} {us : List TV} (hx : StepF P st x E f) (hy : StepF P (st.put x.dst E) y E2 g) (hT : IndT x y) (hv : g.vo = some us) (hn : g.nj = true) (hl : liveL f.dd us = true) :
    ∃ E2' E', StepF P st y E2' g ∧ StepF P (st.put y.dst E2') x E' f ∧ (st.put y.dst E2').put x.dst E' = (st.put x.dst E).put y.dst E2 := by
  obtain ⟨hf, v, rfl, rfl, htm, hgo⟩ := step_vo hy hv
  rw [step_dd hx] at hl
  have ht1 : ∀ k ∈ lookT y, (st.put x.dst E).t k = deadT E.dead (st.t k) := by
    intro k hk
    have : x.dst ≠ some k := fun h => (hT.a k h).1 hk
    simp [St.put, this]
  have hy' := hgo st (fun k hk w => by rw [ht1 k (by simp [lookT, hk]), gB_dead]) (fun k hk => by
    have h1 := ht1 k (by simp [lookT, hk])
    rw [h1]; symm
    refine deadT_nj ?_
    rw [← h1]
    rw [hf] at hn
    exact njL_in (htm k hk) hn)
  obtain ⟨pH, po, pt⟩ := put_val_eq st y.dst v
  have hk1 : ∀ k ∈ lookT x, (st.put y.dst (val st v)).t k = st.t k := fun k hk => by
    rw [pt, if_neg fun h => hT.b k h hk]
  obtain ⟨E', hx', L1⟩ := step_loc (st' := st.put y.dst (val st v)) hx (fun k hk w => by rw [hk1 k (by simp [lookT, hk])])
    (fun _ _ => ⟨sameT_all fun k hk => hk1 k (by simp [lookT, hk]), fun r hr => by rw [pH], by rw [pH], fun s t hs => by rw [po]⟩)
  refine ⟨_, E', hy', hx', ?_⟩
  obtain ⟨qH, qo, qt⟩ := put_val_eq (st.put x.dst E) y.dst v
  refine st_ext ?_ (by rw [qH]; exact locE_H L1 pH) (by rw [qo]; exact orgPut_congr po L1.nr L1.norg L1.dead)
  funext k
  rw [qt]
  show (if x.dst = some k then E'.v else deadT E'.dead ((st.put y.dst (val st v)).t k)) = if y.dst = some k then v else (if x.dst = some k then E.v else deadT E.dead (st.t k))
  rw [pt, L1.v, L1.dead]
  by_cases h1 : x.dst = some k
  · have h2 : y.dst ≠ some k := (hT.a k h1).2
    simp [h1, h2]
  · by_cases h2 : y.dst = some k
    · simp only [h1, h2, if_false, if_true]
      exact deadT_live (liveL_in List.mem_cons_self hl)
    · simp [h1, h2]

/-- What lets two steps change places. -/
def PairF (f g : Foot) : Prop := IndF f g ∨ (∃ us, f.vo = some us ∧ liveL g.dd us = true) ∨ ∃ us, g.vo = some us ∧ g.nj = true ∧ liveL f.dd us = true
theorem pairF_of {f g : Foot} (h : pairOk f g = true) : PairF f g := by
  unfold pairOk at h
  cases h1 : pair1 f g with
  | true => exact .inl (indF_of h1)
  | false =>
    rw [h1] at h
    simp only [pair2, Bool.or_eq_true, Bool.and_eq_true] at h
    rcases h with h | ⟨h, h2⟩
    · right; left
      cases hv : f.vo with
      | none => rw [hv] at h; cases h
      | some us => rw [hv] at h; exact ⟨us, rfl, h⟩
    · right; right
      cases hv : g.vo with
      | none => rw [hv] at h2; cases h2
      | some us => rw [hv] at h2; exact ⟨us, rfl, h, h2⟩
theorem step_pair {x y : TOper} {f g : Foot} {E2 : Eff} (hx : StepF P st x E f) (hy : StepF P (st.put x.dst E) y E2 g) (hT : IndT x y) (hI : PairF f g) :
    ∃ E2' E', StepF P st y E2' g ∧ StepF P (st.put y.dst E2') x E' f ∧ (st.put y.dst E2').put x.dst E' = (st.put x.dst E).put y.dst E2 := by
  rcases hI with hI | ⟨us, h1, h2⟩ | ⟨us, h1, h2, h3⟩
  · exact step_swap hx hy hT hI
  · exact step_swapA hx hy hT h1 h2
  · exact step_swapB hx hy hT h1 h2 h3

/-- One that meets none before it may come first. -/
theorem run_pull {it : Nat → TOper × Foot} {i : Nat} {post : List Nat} : ∀ (pre : List Nat) (st st' : St), Run P it (pre ++ i :: post) st st' → (∀ j ∈ pre, IndT (it j).1 (it i).1 ∧ ((it j).2.wr = [] ∧ (it i).2.wr = [] ∨ PairF (it j).2 (it i).2)) →
    ∃ E, StepF P st (it i).1 E (it i).2 ∧ Run P it (pre ++ post) (st.put (it i).1.dst E) st'
  | [], st, st', h, _ => h
  | j :: pre, st, st', h, hind => by
    obtain ⟨Ej, hj, h⟩ := h
    obtain ⟨E, hi, h⟩ := run_pull pre _ _ h fun k hk => hind k (List.mem_cons_of_mem _ hk)
    obtain ⟨iT, iF⟩ := hind j (List.mem_cons_self)
    have iF' : PairF (it j).2 (it i).2 := by
      rcases iF with ⟨h1, h2⟩ | iF
      · exact .inl ⟨fun r hr => (by rw [h1] at hr; cases hr), fun h => absurd h1 h, fun r hr => (by rw [h2] at hr; cases hr)⟩
      · exact iF
    obtain ⟨E2, E', g1, g2, g3⟩ := step_pair hj hi iT iF'
    refine ⟨E2, g1, E', g2, ?_⟩
    rw [g3]
    exact h
end
end Go.Proofs.YtloodkhdngipbaaT
