/- TM, part Am: each run has one end; promises whose results are not told in full. -/
import Derived.Test.YtloodkhdngipbaaTmAh
namespace Go.Proofs.YtloodkhdngipbaaT
set_option linter.unusedVariables false
set_option linter.unusedSimpArgs false
open Go

section
variable {P : Program}
/-- Just this end. -/
def EndAt (e : TExit) (s : St) : TExit → St → Prop := fun e' s' => e' = e ∧ s' = s

theorem opsW_mono : ∀ {l : List TOper} {Q Q' : St → Prop} {s : St}, (∀ s, Q s → Q' s) → opsW P l s Q → opsW P l s Q'
  | [], Q, Q', s, h, h1 => h _ h1
  | o :: os, Q, Q', s, h, h1 => by
    simp only [opsW] at h1 ⊢
    have key : ∀ b, ((b = true → opW P s o.root o.op fun E => opsW P os (s.put o.dst E) Q) ∧ (b = false → opsW P os (s.undef o.dst) Q)) →
        ((b = true → opW P s o.root o.op fun E => opsW P os (s.put o.dst E) Q') ∧ (b = false → opsW P os (s.undef o.dst) Q')) := by
      rintro b ⟨h2, h3⟩
      refine ⟨fun hb => ?_, fun hb => opsW_mono h (h3 hb)⟩
      obtain ⟨E, h4, h5⟩ := opW_one (h2 hb)
      exact opW_mono h4 (opsW_mono h h5)
    cases hg : o.guard with
    | none => rw [hg] at h1; exact key true h1
    | some tw =>
      obtain ⟨t, w⟩ := tw
      rw [hg] at h1
      simp only [wantW] at h1 ⊢
      split at h1
      case h_2 => exact h1.elim
      exact key _ h1
theorem opsW_one : ∀ {l : List TOper} {Q : St → Prop} {s : St}, opsW P l s Q → ∃ s', opsW P l s (· = s') ∧ Q s'
  | [], Q, s, h => ⟨s, rfl, h⟩
  | o :: os, Q, s, h1 => by
    simp only [opsW] at h1 ⊢
    have key : ∀ b, ((b = true → opW P s o.root o.op fun E => opsW P os (s.put o.dst E) Q) ∧ (b = false → opsW P os (s.undef o.dst) Q)) →
        ∃ s', ((b = true → opW P s o.root o.op fun E => opsW P os (s.put o.dst E) (· = s')) ∧ (b = false → opsW P os (s.undef o.dst) (· = s'))) ∧ Q s' := by
      rintro b ⟨h2, h3⟩
      cases b with
      | true =>
        obtain ⟨E, h4, h5⟩ := opW_one (h2 rfl)
        obtain ⟨s', h6, h7⟩ := opsW_one h5
        exact ⟨s', ⟨fun _ => opW_mono h4 h6, fun h => by cases h⟩, h7⟩
      | false =>
        obtain ⟨s', h6, h7⟩ := opsW_one (h3 rfl)
        exact ⟨s', ⟨fun h => (by cases h), fun _ => h6⟩, h7⟩
    cases hg : o.guard with
    | none => rw [hg] at h1; exact key true h1
    | some tw =>
      obtain ⟨t, w⟩ := tw
      rw [hg] at h1
      simp only [wantW] at h1 ⊢
      split at h1
      case h_2 => exact h1.elim
      exact key _ h1
theorem drawW_mono : ∀ {l : List TOper} {fs : List Foot} {Q Q' : St → Prop} {s : St}, (∀ s, Q s → Q' s) → drawW P l fs s Q → drawW P l fs s Q'
  | [], fs, Q, Q', s, h, h1 => h _ h1
  | o :: os, fs, Q, Q', s, h, h1 => by
    simp only [drawW] at h1 ⊢
    have key : ∀ b, ((b = true → opW P s o.root o.op fun E => chk fs o.free (footOf s o E) = true ∧ drawW P os (fs ++ [footOf s o E]) (s.put o.dst E) Q) ∧ (b = false → chk fs o.free (foot0 o) = true ∧ drawW P os (fs ++ [foot0 o]) (s.undef o.dst) Q)) →
        ((b = true → opW P s o.root o.op fun E => chk fs o.free (footOf s o E) = true ∧ drawW P os (fs ++ [footOf s o E]) (s.put o.dst E) Q') ∧ (b = false → chk fs o.free (foot0 o) = true ∧ drawW P os (fs ++ [foot0 o]) (s.undef o.dst) Q')) := by
      rintro b ⟨h2, h3⟩
      refine ⟨fun hb => ?_, fun hb => ⟨(h3 hb).1, drawW_mono h (h3 hb).2⟩⟩
      obtain ⟨E, h4, h5, h6⟩ := opW_one (h2 hb)
      exact opW_mono h4 ⟨h5, drawW_mono h h6⟩
    cases hg : o.guard with
    | none => rw [hg] at h1; exact key true h1
    | some tw =>
      obtain ⟨t, w⟩ := tw
      rw [hg] at h1
      simp only [wantW] at h1 ⊢
      split at h1
      case h_2 => exact h1.elim
      exact key _ h1
theorem drawW_one : ∀ {l : List TOper} {fs : List Foot} {Q : St → Prop} {s : St}, drawW P l fs s Q → ∃ s', drawW P l fs s (· = s') ∧ Q s'
  | [], fs, Q, s, h => ⟨s, rfl, h⟩
  | o :: os, fs, Q, s, h1 => by
    simp only [drawW] at h1 ⊢
    have key : ∀ b, ((b = true → opW P s o.root o.op fun E => chk fs o.free (footOf s o E) = true ∧ drawW P os (fs ++ [footOf s o E]) (s.put o.dst E) Q) ∧ (b = false → chk fs o.free (foot0 o) = true ∧ drawW P os (fs ++ [foot0 o]) (s.undef o.dst) Q)) →
        ∃ s', ((b = true → opW P s o.root o.op fun E => chk fs o.free (footOf s o E) = true ∧ drawW P os (fs ++ [footOf s o E]) (s.put o.dst E) (· = s')) ∧ (b = false → chk fs o.free (foot0 o) = true ∧ drawW P os (fs ++ [foot0 o]) (s.undef o.dst) (· = s'))) ∧ Q s' := by
      rintro b ⟨h2, h3⟩
      cases b with
      | true =>
        obtain ⟨E, h4, h5, h6⟩ := opW_one (h2 rfl)
        obtain ⟨s', h7, h8⟩ := drawW_one h6
        exact ⟨s', ⟨fun _ => opW_mono h4 ⟨h5, h7⟩, fun h => by cases h⟩, h8⟩
      | false =>
        obtain ⟨h5, h6⟩ := h3 rfl
        obtain ⟨s', h7, h8⟩ := drawW_one h6
        exact ⟨s', ⟨fun h => (by cases h), fun _ => ⟨h5, h7⟩⟩, h8⟩
    cases hg : o.guard with
    | none => rw [hg] at h1; exact key true h1
    | some tw =>
      obtain ⟨t, w⟩ := tw
      rw [hg] at h1
      simp only [wantW] at h1 ⊢
      split at h1
      case h_2 => exact h1.elim
      exact key _ h1
theorem twp_mono : ∀ {a : TCode} {Q Q' : TExit → St → Prop} {s : St}, (∀ e s, Q e s → Q' e s) → twp P a Q s → twp P a Q' s
  | .skip, Q, Q', s, h, h1 => h _ _ h1
  | .ops l, Q, Q', s, h, h1 => opsW_mono (fun s => h _ s) h1
  | .draw l, Q, Q', s, h, h1 => drawW_mono (fun s => h _ s) h1
  | .seq a b, Q, Q', s, h, h1 => by
    refine twp_mono (a := a) (fun e s h2 => ?_) h1
    cases e with
    | normal => exact twp_mono (a := b) h h2
    | exit i => exact h _ _ h2
    | ret => exact h _ _ h2
  | .cond c a b, Q, Q', s, h, h1 => by
    simp only [twp] at h1 ⊢
    split at h1
    case h_2 => exact h1.elim
    exact ⟨fun hx => twp_mono h (h1.1 hx), fun hx => twp_mono h (h1.2 hx)⟩
  | .block id a, Q, Q', s, h, h1 => by
    refine twp_mono (a := a) (fun e s h2 => ?_) h1
    cases e with
    | normal => exact h _ _ h2
    | ret => exact h _ _ h2
    | exit i =>
      simp only at h2 ⊢
      split <;> rename_i hi
      · rw [if_pos hi] at h2; exact h _ _ h2
      · rw [if_neg hi] at h2; exact h _ _ h2
  | .loop a, Q, Q', s, h, h1 => by
    obtain ⟨I, rs, mv, h0, hm, hi, hr⟩ := h1
    refine ⟨I, rs, mv, h0, hm, hi, fun n s hs => twp_mono (fun e s h2 => ?_) (hr n s hs)⟩
    cases e with
    | normal => exact h2
    | exit i => exact h _ _ h2
    | ret => exact h _ _ h2
  | .exit i, Q, Q', s, h, h1 => h _ _ h1
  | .ret, Q, Q', s, h, h1 => h _ _ h1

/-- A loop's rounds, one behind the other, up to its end. -/
inductive LC (P : Program) (a : TCode) (rs : List Nat) (e : TExit) (s' : St) : Nat → St → Prop
  | stop {s : St} : e ≠ .normal → twp P a (EndAt e s') s → LC P a rs e s' 0 s
  | step {s s1 : St} {k : Nat} : twp P a (EndAt .normal s1) s → LC P a rs e s' k (s1.drop rs) → LC P a rs e s' (k + 1) s

theorem twp_one : ∀ {a : TCode} {Q : TExit → St → Prop} {s : St}, twp P a Q s → ∃ e s', twp P a (EndAt e s') s ∧ Q e s'
  | .skip, Q, s, h => ⟨_, _, ⟨rfl, rfl⟩, h⟩
  | .ops l, Q, s, h => by
    obtain ⟨s', h1, h2⟩ := opsW_one h
    exact ⟨.normal, s', opsW_mono (fun _ h => ⟨rfl, h⟩) h1, h2⟩
  | .draw l, Q, s, h => by
    obtain ⟨s', h1, h2⟩ := drawW_one h
    exact ⟨.normal, s', drawW_mono (fun _ h => ⟨rfl, h⟩) h1, h2⟩
  | .seq a b, Q, s, h => by
    obtain ⟨e, s1, h1, h2⟩ := twp_one (a := a) h
    cases e with
    | normal =>
      obtain ⟨e, s2, h3, h4⟩ := twp_one (a := b) h2
      refine ⟨e, s2, twp_mono (a := a) (fun e1 s3 h5 => ?_) h1, h4⟩
      obtain ⟨rfl, rfl⟩ := h5
      exact h3
    | exit i =>
      refine ⟨.exit i, s1, twp_mono (a := a) (fun e1 s3 h5 => ?_) h1, h2⟩
      obtain ⟨rfl, rfl⟩ := h5
      exact ⟨rfl, rfl⟩
    | ret =>
      refine ⟨.ret, s1, twp_mono (a := a) (fun e1 s3 h5 => ?_) h1, h2⟩
      obtain ⟨rfl, rfl⟩ := h5
      exact ⟨rfl, rfl⟩
  | .cond c a b, Q, s, h => by
    simp only [twp] at h ⊢
    split at h
    case h_2 => exact h.elim
    rename_i x hx
    cases x with
    | true =>
      obtain ⟨e, s1, h1, h2⟩ := twp_one (h.1 rfl)
      exact ⟨e, s1, ⟨fun _ => h1, fun h => by cases h⟩, h2⟩
    | false =>
      obtain ⟨e, s1, h1, h2⟩ := twp_one (h.2 rfl)
      exact ⟨e, s1, ⟨fun h => (by cases h), fun _ => h1⟩, h2⟩
  | .block id a, Q, s, h => by
    obtain ⟨e, s1, h1, h2⟩ := twp_one (a := a) h
    cases e with
    | normal =>
      refine ⟨.normal, s1, twp_mono (a := a) (fun e1 s3 h5 => ?_) h1, h2⟩
      obtain ⟨rfl, rfl⟩ := h5
      exact ⟨rfl, rfl⟩
    | ret =>
      refine ⟨.ret, s1, twp_mono (a := a) (fun e1 s3 h5 => ?_) h1, h2⟩
      obtain ⟨rfl, rfl⟩ := h5
      exact ⟨rfl, rfl⟩
    | exit i =>
      simp only at h2
      by_cases hi : i = id
      · rw [if_pos hi] at h2
        refine ⟨.normal, s1, twp_mono (a := a) (fun e1 s3 h5 => ?_) h1, h2⟩
        obtain ⟨rfl, rfl⟩ := h5
        simp only [if_pos hi]
        exact ⟨rfl, rfl⟩
      · rw [if_neg hi] at h2
        refine ⟨.exit i, s1, twp_mono (a := a) (fun e1 s3 h5 => ?_) h1, h2⟩
        obtain ⟨rfl, rfl⟩ := h5
        simp only [if_neg hi]
        exact ⟨rfl, rfl⟩
  | .loop a, Q, s, h => by
    obtain ⟨I, rs, mv, h0, hm, ⟨n, hi⟩, hr⟩ := h
    have key : ∀ n s, I n s → ∃ k e s', LC P a rs e s' k s ∧ Q e s' := by
      intro n
      induction n using Nat.strongRecOn with
      | ind n ih =>
        intro s hs
        obtain ⟨e, s1, h1, h2⟩ := twp_one (a := a) (hr n s hs)
        cases e with
        | normal =>
          obtain ⟨m, hmn, h3⟩ := h2
          obtain ⟨k, e, s', h4, h5⟩ := ih m hmn _ h3
          exact ⟨k + 1, e, s', .step h1 h4, h5⟩
        | exit i => exact ⟨0, .exit i, s1, .stop (by simp) h1, h2⟩
        | ret => exact ⟨0, .ret, s1, .stop (by simp) h1, h2⟩
    obtain ⟨k, e, s', h1, h2⟩ := key n _ hi
    refine ⟨e, s', ⟨fun n s => LC P a rs e s' n s, rs, mv, h0, hm, ⟨k, h1⟩, fun n s hs => ?_⟩, h2⟩
    cases hs with
    | stop hne h3 =>
      refine twp_mono (a := a) (fun e1 s3 h5 => ?_) h3
      obtain ⟨rfl, rfl⟩ := h5
      cases e1 with
      | normal => exact absurd rfl hne
      | exit i => exact ⟨rfl, rfl⟩
      | ret => exact ⟨rfl, rfl⟩
    | step h3 h4 =>
      refine twp_mono (a := a) (fun e1 s3 h5 => ?_) h3
      obtain ⟨rfl, rfl⟩ := h5
      exact ⟨_, Nat.lt_succ_self _, h4⟩
  | .exit i, Q, s, h => ⟨_, _, ⟨rfl, rfl⟩, h⟩
  | .ret, Q, s, h => ⟨_, _, ⟨rfl, rfl⟩, h⟩

/-- What holds behind a block, told once for all ways out of it. -/
def postK (Post : St → Prop) (TQ : TExit → St → Prop) : TExit → St → Prop := fun e s => match e with | .normal => Post s | e => TQ e s
@[simp] theorem postK_n (Post : St → Prop) (TQ : TExit → St → Prop) (s : St) : postK Post TQ .normal s = Post s := nrfl rfl
@[simp] theorem postK_e (Post : St → Prop) (TQ : TExit → St → Prop) (s : St) (i : Nat) : postK Post TQ (.exit i) s = TQ (.exit i) s := nrfl rfl
@[simp] theorem postK_r (Post : St → Prop) (TQ : TExit → St → Prop) (s : St) : postK Post TQ .ret s = TQ .ret s := nrfl rfl
theorem twp_post {a : TCode} {id : Nat} {TQ : TExit → St → Prop} {st : St} (Post : St → Prop) (h : twp P a (blkK id (postK Post TQ)) st) (h2 : ∀ s, Post s → TQ .normal s) : twp P a (blkK id TQ) st := by
  refine twp_mono (fun e s h3 => ?_) h
  cases e with
  | normal => exact h2 s h3
  | ret => exact h3
  | exit i =>
    simp only [blkK_e, postK_n, postK_e] at h3 ⊢
    split <;> rename_i hi
    · rw [if_pos hi] at h3; exact h2 s h3
    · rw [if_neg hi] at h3; exact h3

/-- An end whose results are some x of which Q holds. -/
def exK {α : Type} (E : α → TExit → St → Prop) (Q : α → Prop) : TExit → St → Prop := fun e s => ∃ x, Q x ∧ E x e s
theorem exK_of {α : Type} {E : α → TExit → St → Prop} {Q : α → Prop} {e : TExit} {s : St} (x : α) (hq : Q x) (h : E x e s) : exK E Q e s := ⟨x, hq, h⟩
theorem mk_contractE {α : Type} {al : Bool} {g : FuncId} {fn : Func} {c : Code} {tc : TCode} {ms : List Mode} {args : List TV} {res : α → List TV} {outs : α → List (Option TV)} {Q : α → Prop} (gq : List (Option Path)) {rt : List TRes}
    (hf : P.funcs[g]? = some fn) (hb : fn.body = some c) (hc : compCode P fn.ntmps c = some tc) (hr : resTmps P fn.results.toList = some rt) (hn : args.length ≤ fn.ntmps)
    (hT : twp P tc (exK (fun x => endW al (res x) (outs x) gq rt) Q) (initSt ms args)) : ∃ x, Q x ∧ Contract P al g ms args (res x) (outs x) := by
  obtain ⟨e, s', h1, x, hq, h2⟩ := twp_one hT
  refine ⟨x, hq, mk_contract gq hf hb hc hr hn fun _ => twp_mono (fun e1 s1 h5 => ?_) h1⟩
  obtain ⟨rfl, rfl⟩ := h5
  exact h2
end
end Go.Proofs.YtloodkhdngipbaaT
