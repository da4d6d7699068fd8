/- TM, part Z: every operation does what the machine says. -/
import Derived.Test.YtloodkhdngipbaaTmW
namespace Go.Proofs.YtloodkhdngipbaaT
set_option linter.unusedVariables false
set_option linter.unusedSimpArgs false
open Go

section
variable {P : Program} {F : Fr} {st : St} {o : Oper} {E : Eff} {root : Nat}

theorem optAll_get {α : Type} : ∀ (l : List (Option α)) (r : List α), optAll l = some r → r.length = l.length ∧ ∀ (j : Nat) (x : α), r[j]? = some x → l[j]? = some (some x)
  | [], r, h => by simp only [optAll, Option.some.injEq] at h; subst h; simp
  | x :: l, r, h => by
    simp only [optAll, Option.bind_eq_some_iff, Option.some.injEq] at h
    obtain ⟨a, rfl, r', h1, rfl⟩ := h
    obtain ⟨g1, g2⟩ := optAll_get l r' h1
    refine ⟨by simp [g1], fun j y hj => ?_⟩
    cases j with
    | zero => simp at hj; subst hj; rfl
    | succ j => simpa using g2 j y (by simpa using hj)

theorem tyElem_spec {t e : TypeId} (h : tyElem P t = some e) : P.underlying t = some (.slice e) := by
  simp only [tyElem, Option.bind_eq_some_iff] at h
  obtain ⟨d, h1, h2⟩ := h
  cases d <;> simp at h2
  subst h2; exact h1

theorem optOpd {t : TypeId} {lo : Option Operand} {lo' : Option TOpd} (h : (match lo with | none => some none | some y => (compOpd P t y).bind fun y => some (some y)) = some lo') :
    (lo = none ∧ lo' = none) ∨ ∃ x x', lo = some x ∧ lo' = some x' ∧ compOpd P t x = some x' := by
  cases lo with
  | none => simp only [Option.some.injEq] at h; exact .inl ⟨rfl, h.symm⟩
  | some y =>
    simp only [Option.bind_eq_some_iff, Option.some.injEq] at h
    obtain ⟨y', h1, h2⟩ := h
    exact .inr ⟨y, y', rfl, h2.symm, h1⟩

theorem callArgs {c : Call} {as : List (TOpd × Nat)} (h : optAll ((c.args.toList.zip c.argTypes.toList).map fun (x, t) => (compOpd P t x).bind fun y => some (y, tyPtr P t)) = some as) (hs : c.args.size = c.argTypes.size) :
    as.length = c.args.size ∧ ∀ (j : Nat) (x : TOpd) (n : Nat), as[j]? = some (x, n) → ∃ y t, c.args[j]? = some y ∧ compOpd P t y = some x := by
  obtain ⟨g1, g2⟩ := optAll_get _ _ h
  refine ⟨by rw [g1]; simp [hs], fun j x n hj => ?_⟩
  have := g2 j (x, n) hj
  rw [List.getElem?_map] at this
  cases hz : (c.args.toList.zip c.argTypes.toList)[j]? with
  | none => simp [hz] at this
  | some p =>
    obtain ⟨y, t⟩ := p
    simp only [hz, Option.map_some, Option.some.injEq, Option.bind_eq_some_iff, Prod.mk.injEq] at this
    obtain ⟨y', q1, rfl, _⟩ := this
    obtain ⟨z1, z2⟩ := List.getElem?_zip_eq_some.1 hz
    exact ⟨y, t, by simpa using z1, q1⟩

theorem allGood_call (c : Call) (hop : o.op = .call c) (to : TOp) (hc : compOp0 P o = some to) (hd : ∀ d, o.dst = some d → d < F.N) (hE : opW P st root to (· = E)) : Good P F o st E := by
  simp only [compOp0, hop] at hc
  split at hc
  · rename_i hcal
    split at hc
    case h_2 => cases hc
    rename_i x t ha hat
    split at hc
    · rename_i hu
      simp only [Option.bind_eq_some_iff, Option.some.injEq] at hc
      obtain ⟨x', h1, rfl⟩ := hc
      exact good_len hop hcal ha hat (by simpa using hu) h1 hd hE
    · rename_i e hu
      simp only [Option.bind_eq_some_iff, Option.some.injEq] at hc
      obtain ⟨x', h1, rfl⟩ := hc
      exact good_len hop hcal ha hat (by simpa using ⟨_, hu⟩) h1 hd hE
    · cases hc
  · rename_i hcal
    split at hc
    case h_2 => cases hc
    rename_i s x t u ha hat
    simp only [Option.bind_eq_some_iff] at hc
    obtain ⟨e, h1, z, h2, b, h3, s', h4, x', h5, hc⟩ := hc
    split at hc
    case isFalse => cases hc
    rename_i hcond
    simp only [Option.some.injEq] at hc; subst hc
    simp only [Bool.and_eq_true, bne_iff_ne, ne_eq, beq_iff_eq, Option.map_eq_some_iff] at hcond
    obtain ⟨⟨⟨c1, c2⟩, c3⟩, zc, c4, c5⟩ := hcond
    obtain ⟨ex, c3⟩ := Option.isSome_iff_exists.1 c3
    exact good_app hop hcal ha hat (tyElem_spec h1) (tyElem_spec c3) h2 h3 c4 c5 c1 c2 h4 h5 hd hE
  · rename_i hcal
    split at hc
    case h_2 => cases hc
    rename_i x y ha
    simp only [Option.bind_eq_some_iff, Option.some.injEq] at hc
    obtain ⟨x', h1, y', h2, rfl⟩ := hc
    exact good_maxi hop hcal ha h1 h2 hd hE
  · rename_i f hcal
    simp only [Option.bind_eq_some_iff] at hc
    obtain ⟨as, h1, hc⟩ := hc
    split at hc
    case isTrue => cases hc
    rename_i hsz
    obtain ⟨g1, g2⟩ := callArgs h1 (by simpa using hsz)
    split at hc
    · rename_i g
      split at hc
      case isFalse => cases hc
      rename_i hg
      simp only [Option.some.injEq] at hc; subst hc
      exact good_call hop hcal hg g1 g2 hd hE
    · simp only [Option.some.injEq] at hc; subst hc
      exact good_callv (ty := 0) hop hcal rfl g1 g2 hd hE
    · cases hc
  · cases hc

theorem allGood0 (F : Fr) (o : Oper) (to : TOp) (st : St) (root : Nat) (E : Eff) (hc : compOp0 P o = some to) (hd : ∀ d, o.dst = some d → d < F.N) (hE : opW P st root to (· = E)) : Good P F o st E := by
  cases hop : o.op with
  | move x =>
    simp only [compOp0, hop, Option.bind_eq_some_iff, Option.some.injEq] at hc
    obtain ⟨x', h1, rfl⟩ := hc
    exact good_mv (.inl hop) h1 hd hE
  | assign x =>
    simp only [compOp0, hop, Option.bind_eq_some_iff, Option.some.injEq] at hc
    obtain ⟨x', h1, rfl⟩ := hc
    exact good_mv (.inr hop) h1 hd hE
  | pick c x y =>
    simp only [compOp0, hop, Option.bind_eq_some_iff, Option.some.injEq] at hc
    obtain ⟨c', h0, x', h1, y', h2, rfl⟩ := hc
    exact good_pick hop h0 h1 h2 hd hE
  | alloc e =>
    simp only [compOp0, hop, Option.bind_eq_some_iff, Option.some.injEq] at hc
    obtain ⟨zv, h0, u, h1, rfl⟩ := hc
    exact good_alloc hop h0 h1 hd hE
  | box e x =>
    simp only [compOp0, hop, Option.bind_eq_some_iff, Option.some.injEq] at hc
    obtain ⟨n, h0, x', h1, rfl⟩ := hc
    exact good_boxop hop h1 hd hE
  | build t ps =>
    simp only [compOp0, hop] at hc
    split at hc
    case h_2 => cases hc
    rename_i fs hfs
    simp only [Option.bind_eq_some_iff] at hc
    obtain ⟨zv, h0, u, h1, ps', h2, hc⟩ := hc
    split at hc
    case isFalse => cases hc
    rename_i hcond
    simp only [Option.some.injEq] at hc; subst hc
    simp only [Bool.and_eq_true, List.all_eq_true] at hcond
    obtain ⟨g1, g2⟩ := optAll_get _ _ h2
    refine good_build hop hfs h0 h1 hcond.1 hcond.2 (by rw [g1]; simp) (fun j off n x hj => ?_) hd hE
    have := g2 j _ hj
    rw [List.getElem?_map] at this
    cases hz : ps.toList[j]? with
    | none => simp [hz] at this
    | some p =>
      obtain ⟨i, y⟩ := p
      simp only [hz, Option.map_some, Option.some.injEq, Option.bind_eq_some_iff, Prod.mk.injEq] at this
      obtain ⟨f, q1, n', q2, y', q3, rfl, rfl, rfl⟩ := this
      exact ⟨i, y, f, _, by simpa using hz, q1, rfl, q2, q3⟩
  | buildSlice t len ps =>
    simp only [compOp0, hop, Option.bind_eq_some_iff] at hc
    obtain ⟨e, h0, z, h1, zv, h2, u, h3, ps', h4, hc⟩ := hc
    split at hc
    case isFalse => cases hc
    rename_i hcond
    simp only [Option.some.injEq] at hc; subst hc
    simp only [Bool.and_eq_true, decide_eq_true_eq, bne_iff_ne, ne_eq, beq_iff_eq, List.all_eq_true] at hcond
    obtain ⟨⟨⟨c1, c2⟩, c3⟩, c4⟩ := hcond
    obtain ⟨g1, g2⟩ := optAll_get _ _ h4
    refine good_bslice hop (tyElem_spec h0) h1 h2 h3 c1 c2 c3 c4 (by rw [g1]; simp) (fun j i x hj => ?_) hd hE
    have := g2 j _ hj
    rw [List.getElem?_map] at this
    cases hz : ps.toList[j]? with
    | none => simp [hz] at this
    | some p =>
      obtain ⟨i', y⟩ := p
      simp only [hz, Option.map_some, Option.some.injEq, Option.bind_eq_some_iff, Prod.mk.injEq] at this
      obtain ⟨y', q3, rfl, rfl⟩ := this
      exact ⟨y, _, by simpa using hz, q3⟩
  | load t x =>
    simp only [compOp0, hop, Option.bind_eq_some_iff] at hc
    obtain ⟨g, h0, n, h1, x', h2, hc⟩ := hc
    split at hc
    case isFalse => cases hc
    simp only [Option.some.injEq] at hc; subst hc
    exact good_load hop h0 h1 h2 hd hE
  | store t x y =>
    simp only [compOp0, hop, Option.bind_eq_some_iff, Option.some.injEq] at hc
    obtain ⟨n, h0, x', h1, y', h2, rfl⟩ := hc
    exact good_store hop h0 h1 h2 hd hE
  | nilCheck x =>
    simp only [compOp0, hop, Option.bind_eq_some_iff, Option.some.injEq] at hc
    obtain ⟨x', h1, rfl⟩ := hc
    exact good_nilck hop h1 hd hE
  | binOp op t x y u =>
    simp only [compOp0, hop] at hc
    split at hc
    · simp only [Option.bind_eq_some_iff, Option.some.injEq] at hc
      obtain ⟨x', h1, y', h2, rfl⟩ := hc
      exact good_bin hop h1 h2 hd hE
    · simp only [Option.bind_eq_some_iff, Option.some.injEq] at hc
      obtain ⟨x', h1, y', h2, rfl⟩ := hc
      exact good_bin hop h1 h2 hd hE
    · simp only [Option.bind_eq_some_iff, Option.some.injEq] at hc
      obtain ⟨x', h1, y', h2, rfl⟩ := hc
      exact good_bin hop h1 h2 hd hE
    · rename_i hu
      simp only [Option.bind_eq_some_iff] at hc
      obtain ⟨x', h1, y', h2, hc⟩ := hc
      split at hc
      · simp only [Option.some.injEq] at hc; subst hc
        exact good_eqb (neg := false) hop rfl hu h1 h2 hd hE
      · simp only [Option.some.injEq] at hc; subst hc
        exact good_eqb (neg := true) hop rfl hu h1 h2 hd hE
      · cases hc
    · rename_i fs hu
      simp only [Option.bind_eq_some_iff] at hc
      obtain ⟨ks, h0, x', h1, y', h2, hc⟩ := hc
      split at hc
      · simp only [Option.some.injEq] at hc; subst hc
        exact good_eqst (neg := false) hop rfl h0 h1 h2 hd hE
      · simp only [Option.some.injEq] at hc; subst hc
        exact good_eqst (neg := true) hop rfl h0 h1 h2 hd hE
      · cases hc
    · rename_i e hu
      simp only [Option.bind_eq_some_iff] at hc
      obtain ⟨x', h1, y', h2, hc⟩ := hc
      split at hc
      · simp only [Option.some.injEq] at hc; subst hc
        exact good_eqp (neg := false) hop rfl hu h1 h2 hd hE
      · simp only [Option.some.injEq] at hc; subst hc
        exact good_eqp (neg := true) hop rfl hu h1 h2 hd hE
      · cases hc
    · cases hc
  | unOp op t x =>
    simp only [compOp0, hop, Option.bind_eq_some_iff, Option.some.injEq] at hc
    obtain ⟨x', h1, rfl⟩ := hc
    exact good_un hop h1 hd hE
  | convert s d x =>
    simp only [compOp0, hop, Option.bind_eq_some_iff] at hc
    obtain ⟨us, h0, hc⟩ := hc
    split at hc
    · rename_i k hk
      simp only [Option.bind_eq_some_iff, Option.some.injEq] at hc
      obtain ⟨x', h1, rfl⟩ := hc
      exact good_toInt hop hk (by rw [h0]; rfl) h1 hd hE
    · rename_i hk
      simp only [Option.bind_eq_some_iff, Option.some.injEq] at hc
      obtain ⟨x', h1, rfl⟩ := hc
      exact good_toF hop hk (by rw [h0]; rfl) h1 hd hE
    · rename_i hk
      split at hc
      case h_2 => cases hc
      rename_i e
      split at hc
      case h_2 => cases hc
      rename_i he
      simp only [Option.bind_eq_some_iff, Option.some.injEq] at hc
      obtain ⟨x', h1, rfl⟩ := hc
      exact good_toS hop h0 he hk h1 hd hE
    · cases hc
  | makeFunc fn first caps =>
    cases fn with
    | func g =>
      simp only [compOp0, hop] at hc
      split at hc
      case isFalse => cases hc
      rename_i hf
      simp only [Option.bind_eq_some_iff, Option.some.injEq] at hc
      obtain ⟨cs, h1, rfl⟩ := hc
      obtain ⟨g1, g2⟩ := optAll_get _ _ h1
      refine good_mkfn hop hf (by rw [g1]; simp) (fun j x hj => ?_) hd hE
      have := g2 j x hj
      rw [List.getElem?_map] at this
      cases hz : caps.toList[j]? with
      | none => simp [hz] at this
      | some y =>
        simp only [hz, Option.map_some, Option.some.injEq] at this
        exact ⟨y, _, by simpa using hz, this⟩
    | _ => simp [compOp0, hop] at hc
  | makeSlice t l c =>
    simp only [compOp0, hop, Option.bind_eq_some_iff] at hc
    obtain ⟨e, h0, z, h1, b, h2, zv, h3, u, h4, l', h5, c', h6, hc⟩ := hc
    split at hc
    case isFalse => cases hc
    rename_i hcond
    simp only [Option.some.injEq] at hc; subst hc
    simp only [Bool.and_eq_true, bne_iff_ne, ne_eq, beq_iff_eq] at hcond
    obtain ⟨⟨c1, c2⟩, c3⟩ := hcond
    exact good_mkslice hop (tyElem_spec h0) h1 h2 h3 h4 c1 c2 c3 h5 h6 hd hE
  | slice t x lo hi mx =>
    cases mx with
    | some m => simp [compOp0, hop] at hc
    | none =>
      simp only [compOp0, hop] at hc
      split at hc
      · rename_i hu
        simp only [Option.bind_eq_some_iff, Option.some.injEq] at hc
        obtain ⟨sz, rfl, x', h1, lo', h2, hi', h3, rfl⟩ := hc
        exact good_slice hop (by simpa using hu) h1 (optOpd h2) (optOpd h3) hd hE
      · rename_i e hu
        simp only [Option.bind_eq_some_iff, Option.some.injEq] at hc
        obtain ⟨sz, ⟨z, h0, rfl⟩, x', h1, lo', h2, hi', h3, rfl⟩ := hc
        exact good_slice hop (by simpa using ⟨e, hu, h0⟩) h1 (optOpd h2) (optOpd h3) hd hE
      · simp at hc
  | fieldAddr s x k =>
    simp only [compOp0, hop] at hc
    split at hc
    case h_2 => cases hc
    rename_i fs hfs
    simp only [Option.bind_eq_some_iff] at hc
    obtain ⟨f, h0, n, h1, x', h2, hc⟩ := hc
    split at hc
    case isFalse => cases hc
    rename_i hn
    simp only [Option.some.injEq] at hc; subst hc
    exact good_faddr hop hfs h0 h1 (by simpa using hn) h2 hd hE
  | field s x k =>
    simp only [compOp0, hop] at hc
    split at hc
    case h_2 => cases hc
    rename_i fs hfs
    simp only [Option.bind_eq_some_iff] at hc
    obtain ⟨f, h0, n, h1, g, h2, x', h3, hc⟩ := hc
    split at hc
    case isFalse => cases hc
    simp only [Option.some.injEq] at hc; subst hc
    exact good_fld hop hfs h0 h1 h2 h3 hd hE
  | indexAddr t x i =>
    simp only [compOp0, hop, Option.bind_eq_some_iff, Option.some.injEq] at hc
    obtain ⟨e, h0, z, h1, x', h2, i', h3, rfl⟩ := hc
    exact good_iaddr hop (tyElem_spec h0) h1 h2 h3 hd hE
  | index t x i =>
    simp only [compOp0, hop] at hc
    split at hc
    case h_2 => cases hc
    rename_i hu
    simp only [Option.bind_eq_some_iff, Option.some.injEq] at hc
    obtain ⟨x', h1, i', h2, rfl⟩ := hc
    exact good_ix hop hu h1 h2 hd hE
  | extract x k =>
    simp only [compOp0, hop, Option.bind_eq_some_iff, Option.some.injEq] at hc
    obtain ⟨x', h1, rfl⟩ := hc
    exact good_ext hop h1 hd hE
  | call c => exact allGood_call c hop to hc hd hE
  | _ => simp [compOp0, hop] at hc
end
theorem allGood (P : Program) : AllGood P := by
  intro F o to st root E hc hd hE
  unfold compOp at hc
  split at hc
  · rename_i t ht
    simp only [Option.some.injEq] at hc; subst hc
    exact allGood0 F o _ st root E ht hd hE
  · split at hc
    · simp only [Option.some.injEq] at hc; subst hc
      exact hE.elim
    · cases hc
#print axioms allGood
end Go.Proofs.YtloodkhdngipbaaT
