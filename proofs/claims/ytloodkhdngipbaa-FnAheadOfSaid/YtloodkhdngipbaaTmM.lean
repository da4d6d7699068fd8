/- TM, part M: whole bodies; a function's promise out of its body. -/
import Derived.Test.YtloodkhdngipbaaTmL
namespace Go.Proofs.YtloodkhdngipbaaT
set_option linter.unusedVariables false
set_option linter.unusedSimpArgs false
open Go

section
variable {P : Program} {F : Fr} {st : St} {w w' w0 : World} {S0 : Nat → Nat → Prop} {κ κ' : Path → Value} {γ γ' : Nat → Nat → Option Path} {H H1 : Hp} {A K : Nat → Nat → Prop} {o : Oper} {E : Eff} {root : Nat}

/-- Every operation does what the machine says (a line for each kind: part N). -/
def AllGood (P : Program) : Prop := ∀ (F : Fr) (o : Oper) (to : TOp) (st : St) (root : Nat) (E : Eff), compOp P o = some to → (∀ d, o.dst = some d → d < F.N) → opW P st root to (· = E) → Good P F o st E

theorem binT_one {op : BinOp} {x y : TV} {K : TV → Prop} (h : binT op x y K) : ∃ v, binT op x y (· = v) ∧ K v := by
  unfold binT at h ⊢
  split at h
  · cases op <;> simp only at h ⊢ <;> first
      | exact ⟨_, ⟨h.1, h.2.1, rfl⟩, h.2.2⟩
      | exact ⟨_, ⟨h.1, rfl⟩, h.2⟩
  · cases op <;> simp only at h ⊢ <;> first
      | exact ⟨_, ⟨h.1, rfl⟩, h.2⟩
      | exact ⟨_, rfl, h⟩
      | exact h.elim
  · cases op <;> simp only at h ⊢ <;> first
      | exact ⟨_, rfl, h⟩
      | exact h.elim
  · exact h.elim

theorem optB_one {d : Int} {x : Option TOpd} {K : Int → Prop} (h : optB st d x K) : ∃ i, optB st d x (· = i) ∧ K i ∧ ∀ K' : Int → Prop, K' i → optB st d x K' := by
  cases x with
  | none => exact ⟨d, rfl, h, fun _ h => h⟩
  | some x =>
    simp only [optB] at h ⊢
    split at h
    · exact ⟨_, rfl, h, fun _ h => h⟩
    · exact h.elim

theorem callW_one {st : St} {g : FuncId} {as : List (TV × Nat)} {K : Eff → Prop} (h : callW P st root g as K) : ∃ E, callW P st root g as (· = E) ∧ K E := by
  obtain ⟨al, ms, args, res, outs, hc, hr1, hr2, tk, H1, ds, ps, ro, h1, h2, h3, h4, h7⟩ := h
  exact ⟨_, ⟨al, ms, args, res, outs, hc, hr1, hr2, tk, H1, ds, ps, ro, h1, h2, h3, h4, rfl⟩, h7⟩

/-- An operation has one effect. -/
theorem opW_one {op : TOp} {K : Eff → Prop} (h : opW P st root op K) : ∃ E, opW P st root op (· = E) ∧ K E := by
  cases op with
  | call g args => exact callW_one h
  | callv f args =>
    simp only [opW] at h ⊢
    split at h
    · obtain ⟨E, h1, h2⟩ := callW_one h.2
      exact ⟨E, ⟨h.1, h1⟩, h2⟩
    · exact h.elim
  | bin o x y =>
    simp only [opW] at h ⊢
    obtain ⟨v, h1, h2⟩ := binT_one h
    refine ⟨val st v, ?_, h2⟩
    revert h1
    generalize x.ev st = a; generalize y.ev st = b
    intro h1
    unfold binT at h1 ⊢
    split at h1
    · cases o <;> simp only at h1 ⊢ <;> first
        | exact ⟨h1.1, h1.2.1, by rw [h1.2.2]⟩
        | exact ⟨h1.1, by rw [h1.2]⟩
    · cases o <;> simp only at h1 ⊢ <;> first
        | exact ⟨h1.1, by rw [h1.2]⟩
        | (rw [h1])
        | exact h1.elim
    · cases o <;> simp only at h1 ⊢ <;> first
        | (rw [h1])
        | exact h1.elim
    · exact h1.elim
  | slice str z x lo hi =>
    cases str with
    | true =>
      simp only [opW] at h ⊢
      split at h
      case h_2 => exact h.elim
      obtain ⟨l, _, h, hl⟩ := optB_one h
      obtain ⟨u, _, h, hu⟩ := optB_one h
      exact ⟨_, hl _ (hu _ ⟨h.1, h.2.1, h.2.2.1, rfl⟩), h.2.2.2⟩
    | false =>
      simp only [opW] at h ⊢
      split at h
      · obtain ⟨hz, h⟩ := h
        obtain ⟨l, _, h, hl⟩ := optB_one h
        obtain ⟨u, _, h, hu⟩ := optB_one h
        exact ⟨_, ⟨hz, hl _ (hu _ ⟨h.1, h.2.1, h.2.2.1, rfl⟩)⟩, h.2.2.2⟩
      · obtain ⟨l, _, h, hl⟩ := optB_one h
        obtain ⟨u, _, h, hu⟩ := optB_one h
        exact ⟨_, hl _ (hu _ ⟨h.1, h.2.1, rfl⟩), h.2.2⟩
      · obtain ⟨hz, h⟩ := h
        obtain ⟨l, _, h, hl⟩ := optB_one h
        obtain ⟨u, _, h, hu⟩ := optB_one h
        exact ⟨_, ⟨hz, hl _ (hu _ ⟨h.1, h.2.1, h.2.2.1, rfl⟩)⟩, h.2.2.2⟩
      · exact h.elim
  | load g n a =>
    simp only [opW] at h ⊢
    split at h
    · split at h
      · obtain ⟨h1, h⟩ := h
        cases g with
        | true => exact ⟨_, ⟨h1, rfl⟩, h⟩
        | false => exact ⟨_, ⟨h1, h.1, rfl⟩, h.2⟩
      · exact h.elim
    · obtain ⟨h1, h⟩ := h
      cases g with
      | true => exact ⟨_, ⟨h1, rfl⟩, h⟩
      | false => exact ⟨_, ⟨h1, h.1, rfl⟩, h.2⟩
    · exact h.elim
  | fld g off n x =>
    simp only [opW] at h ⊢
    split at h
    · obtain ⟨h1, h⟩ := h
      cases g with
      | true => exact ⟨_, ⟨h1, rfl⟩, h⟩
      | false => exact ⟨_, ⟨h1, h.1, rfl⟩, h.2⟩
    · exact h.elim
  | pick c a b =>
    simp only [opW] at h ⊢
    split at h
    · exact ⟨_, rfl, h⟩
    · exact h.elim
  | maxi x y =>
    simp only [opW] at h ⊢
    split at h
    · exact ⟨_, rfl, h⟩
    · exact h.elim
  | box n x =>
    simp only [opW] at h ⊢
    split at h
    · exact ⟨_, ⟨h.1, h.2.1, h.2.2.1, rfl⟩, h.2.2.2⟩
    · exact h.elim
  | bslice z len zero parts =>
    simp only [opW] at h ⊢
    split at h
    · split at h
      · exact ⟨_, ⟨h.1, h.2.1, h.2.2.1, rfl⟩, h.2.2.2⟩
      · exact h.elim
    · exact h.elim
  | app z bytes s x =>
    simp only [opW] at h ⊢
    split at h
    · split at h
      · exact ⟨_, ⟨h.1, h.2.1, h.2.2.1, h.2.2.2.1, h.2.2.2.2.1, rfl⟩, h.2.2.2.2.2⟩
      · exact h.elim
    · exact h.elim
  | mv x => exact ⟨_, rfl, h⟩
  | mkfn g caps => exact ⟨_, rfl, h⟩
  | _ =>
    simp only [opW] at h ⊢
    repeat' split at h
    all_goals first
      | exact h.elim
      | exact ⟨_, rfl, h⟩
      | exact ⟨_, ⟨h.1, rfl⟩, h.2⟩
      | exact ⟨_, ⟨h.1, h.2.1, rfl⟩, h.2.2⟩
      | exact ⟨_, ⟨h.1, h.2.1, h.2.2.1, rfl⟩, h.2.2.2⟩
      | exact ⟨_, ⟨h.1, h.2.1, h.2.2.1, h.2.2.2.1, rfl⟩, h.2.2.2.2⟩
      | exact ⟨_, ⟨h.1, h.2.1, h.2.2.1, h.2.2.2.1, h.2.2.2.2.1, rfl⟩, h.2.2.2.2.2⟩
      | exact ⟨_, ⟨h.1, h.2.1, h.2.2.1, h.2.2.2.1, h.2.2.2.2.1, h.2.2.2.2.2.1, rfl⟩, h.2.2.2.2.2.2⟩
      | exact ⟨_, ⟨h.1, h.2.1, h.2.2.1, h.2.2.2.1, h.2.2.2.2.1, h.2.2.2.2.2.1, h.2.2.2.2.2.2.1, rfl⟩, h.2.2.2.2.2.2.2⟩

theorem gB_ok {u : TV} {o : Option Value} {want x : Bool} (hx : gB want u = some x) (hv : RV w κ H A u (o.getD undef)) :
    ((match (generalizing := false) o with | some (.bool b) => some b | _ => none : Option Bool) == some want) = x := by
  cases u <;> simp only [gB, Option.some.injEq, reduceCtorEq] at hx
  case b y =>
    have h := rv_b hv
    cases o with
    | none => simp [undef] at h
    | some v => simp at h; subst h; rw [← hx]; rfl
  case tu vs =>
    subst hx
    cases o with
    | none => rfl
    | some v =>
      simp only [Option.getD_some] at hv
      cases hv with
      | pure u v h => cases h
      | tu => rfl
theorem rel_undef {dst : Option Nat} {a : Act} (hR : Rel F st a w) (hd : ∀ d, dst = some d → d < F.N) : Rel F (st.undef dst) (a.put dst undef) w := by
  obtain ⟨κ, γ, h1, h2, h3, h4, h5, h6, h7⟩ := hR
  refine ⟨κ, γ, h1, h2, ?_, fun k => ?_, ?_, h6, h7⟩
  · cases dst <;> simp [Act.put, h3]
  · cases dst with
    | none => simpa [St.undef, Act.put] using h4 k
    | some d =>
      rw [put_get _ _ _ (by rw [h3]; exact hd d rfl)]
      by_cases hk : d = k
      · subst hk; simp only [St.undef, if_true]; exact .tu [] #[] rfl (by simp)
      · simp only [St.undef, Option.some.injEq, hk, if_false]; exact h4 k
  · cases dst <;> exact h5

/-- A plain region's operations. -/
theorem ops_ok (hall : AllGood P) {N rid : Nat} {ops : Array Oper} {Q : Exit → Act → World → Prop} (hN : F.N = N) :
    ∀ (l : List Oper) (k : Nat) (tl : List TOper) (st : St) (a : Act) (w : World) (TQ : St → Prop), compOps P N rid ops k l = some tl → Rel F st a w → opsW P tl st TQ →
      (∀ st a w, Rel F st a w → TQ st → Q .normal a w) → wpList P ops Q l a w
  | [], k, tl, st, a, w, TQ, hc, hR, hT, hQ => by
    simp only [compOps, Option.some.injEq] at hc; subst hc
    exact hQ st a w hR hT
  | o :: os, k, tl, st, a, w, TQ, hc, hR, hT, hQ => by
    simp only [compOps, Option.bind_eq_some_iff] at hc
    obtain ⟨top, h1, tg, h2, hc⟩ := hc
    split at hc
    case isFalse => cases hc
    rename_i hdst
    simp only [Option.bind_eq_some_iff, Option.some.injEq] at hc
    obtain ⟨tl', h3, rfl⟩ := hc
    have hd : ∀ d, o.dst = some d → d < F.N := by
      intro d hd
      rw [hd] at hdst
      rw [hN]; simpa [dstOk] using hdst
    simp only [opsW] at hT
    generalize rootOf rid k o.dst = root at hT
    -- the guard
    have hwant : ∃ b, Region.wanted o (yielded ops a.tmps) = b ∧ ((b = true → opW P st root top fun E => opsW P tl' (st.put o.dst E) TQ) ∧ (b = false → opsW P tl' (st.undef o.dst) TQ)) := by
      unfold compGuard at h2
      split at h2
      · rename_i hg
        simp only [Option.some.injEq] at h2; subst h2
        exact ⟨true, by simp [Region.wanted, hg], hT⟩
      · rename_i j want hg
        simp only [Option.bind_eq_some_iff, Option.some.injEq] at h2
        obtain ⟨t, ⟨oj, hoj, htj⟩, rfl⟩ := h2
        simp only [wantW] at hT
        split at hT
        case h_2 => exact hT.elim
        rename_i x hx
        obtain ⟨κ, γ, r1, r2, r3, r4, r5, r6, r7⟩ := hR
        have hv := r4 t
        refine ⟨x, ?_, hT⟩
        simp only [Region.wanted, hg, yielded, hoj, htj, Option.bind_some]
        exact gB_ok hx hv
    obtain ⟨b, hb, ht1, ht2⟩ := hwant
    unfold wpList
    rw [hb]
    cases b with
    | true =>
      simp only [if_true]
      obtain ⟨E, hE, hK⟩ := opW_one (ht1 rfl)
      exact .inl (hall F o top st root E h1 hd hE a w _ _ hR fun a' w' hR' => ops_ok hall hN os (k + 1) tl' _ a' w' TQ h3 hR' hK hQ)
    | false =>
      simp only [Bool.false_eq_true, if_false]
      exact ops_ok hall hN os (k + 1) tl' _ _ w TQ h3 (rel_undef hR hd) (ht2 rfl) hQ

theorem RV.dropR {u : TV} {v : Value} (rs : List Nat) (h : RV w κ H A u v) :
    RV w κ (fun y => if rs.contains y then [] else H y) A (killT (fun q => match q.head? with | some s => rs.contains s.1 | none => false) u) v := by
  refine h.kill (K := fun _ _ => True) _ (fun q hq hl => ⟨rfl, ?_⟩) (Keep.refl _ w) (fun _ _ _ => trivial)
  cases q with
  | nil => rfl
  | cons s r =>
    simp only [List.head?_cons] at hq
    have hq' : ¬ s.1 ∈ rs := by simpa using hq
    simp [shapeAt, cellAt, hq']

theorem rel_drop {a : Act} (rs : List Nat) (h0 : 0 ∉ rs) (hR : Rel F st a w) : Rel F (st.drop rs) a w := by
  obtain ⟨κ, γ, h1, h2, h3, h4, h5, h6, h7⟩ := hR
  refine ⟨κ, γ, ⟨fun s u hu => ?_, h1.own, h1.old, h1.chg⟩, by simp [St.drop, h2], h3, fun k => (h4 k).dropR rs, h5, h6, fun q m hq hl => h7 q m hq ?_⟩
  · simp only [St.drop] at hu
    split at hu
    · simp at hu
    · exact h1.root s u hu
  · obtain ⟨x, hx, hs⟩ := hl
    cases q with
    | nil => cases hx
    | cons s r =>
      refine ⟨x, ?_, hs⟩
      simp only [St.drop, cellAt] at hx ⊢
      split at hx
      · simp at hx
      · exact hx

theorem renTL_eq {a b : Nat} (cs : List TV) : renTL a b cs = cs.map (renT a b) := by
  induction cs with
  | nil => rfl
  | cons c cs ih => simp [renTL, ih]
theorem RV.renR {κ' : Path → Value} {H' : Hp} {a b : Nat} {u : TV} {v : Value} (h : RV w κ H A u v) (hd : ∀ q, (shapeAt H q).isSome = true → κ' (renP a b q) = κ q ∧ shapeAt H' (renP a b q) = shapeAt H q) : RV w κ' H' A (renT a b u) v := by
  induction h with
  | pure u v h =>
    have : renT a b u = u := by
      have key : ∀ (u : TV) (v : Value), RR w A u v → renT a b u = u := by
        intro u v h
        induction h with
        | fn g caps capv hl hc ih =>
          have : ∀ (cs : List TV), (∀ u ∈ cs, renT a b u = u) → renTL a b cs = cs := by
            intro cs
            induction cs with
            | nil => intro _; rfl
            | cons c cs ihc => intro h; simp only [renTL]; rw [h c (by simp), ihc fun u hu => h u (by simp [hu])]
          simp only [renT]
          rw [this caps fun u hu => by
            obtain ⟨j, hj⟩ := List.getElem?_of_mem hu
            exact ih j u hj]
        | _ => rfl
      exact key u v h
    rw [this]; exact .pure u v h
  | nil z => exact .nil z
  | rf0 p z off hk' hc =>
    obtain ⟨h1, h2⟩ := hd p (by rw [hc]; rfl)
    exact .rf0 _ z off (h1.trans hk') (h2.trans hc)
  | rf p z n c B o off len hk' hc hb hn =>
    obtain ⟨h1, h2⟩ := hd p (by rw [hc]; rfl)
    exact .rf _ z n c B o off len (h1.trans hk') (h2.trans hc) hb hn
  | rfE p z n c B o off o1 c1 hk' hc g1 g2 g3 =>
    obtain ⟨h1, h2⟩ := hd p (by rw [hc]; rfl)
    exact .rfE _ z n c B o off o1 c1 (h1.trans hk') (h2.trans hc) g1 g2 g3
  | ptS p z n c B o i f hk' hc hi hf =>
    obtain ⟨h1, h2⟩ := hd p (by rw [hc]; rfl)
    exact .ptS _ z n c B o i f (h1.trans hk') (h2.trans hc) hi hf
  | ptP p B o f n hk' hc hf =>
    obtain ⟨h1, h2⟩ := hd p (by rw [hc]; rfl)
    exact .ptP _ B o f n (h1.trans hk') (h2.trans hc) hf
  | ag cs vs hl hc ih =>
    refine .ag _ _ (by rw [renTL_eq]; simpa using hl) fun j u hj => ?_
    rw [renTL_eq, List.getElem?_map] at hj
    cases hx : cs[j]? with
    | none => simp [hx] at hj
    | some x => simp only [hx, Option.map_some, Option.some.injEq] at hj; subst hj; exact ih j x hx
  | tu cs vs hl hc ih =>
    refine .tu _ _ (by rw [renTL_eq]; simpa using hl) fun j u hj => ?_
    rw [renTL_eq, List.getElem?_map] at hj
    cases hx : cs[j]? with
    | none => simp [hx] at hj
    | some x => simp only [hx, Option.map_some, Option.some.injEq] at hj; subst hj; exact ih j x hx
  | fn g caps capv hl hc ih =>
    refine .fn g _ _ (by rw [renTL_eq]; simpa using hl) fun j u hj => ?_
    rw [renTL_eq, List.getElem?_map] at hj
    cases hx : caps[j]? with
    | none => simp [hx] at hj
    | some x => simp only [hx, Option.map_some, Option.some.injEq] at hj; subst hj; exact ih j x hx

theorem rel_ren {a : Act} {x y : Nat} (hx : 2 ≤ x) (hy : 2 ≤ y) (hxy : x ≠ y) (hH : st.H y = []) (hR : Rel F st a w) : Rel F (st.ren x y) a w := by
  obtain ⟨κ, γ, h1, h2, h3, h4, h5, h6, h7⟩ := hR
  obtain ⟨κ', hκ'⟩ : ∃ κ' : Path → Value, κ' = fun q => match q with | [] => κ [] | s :: r => if s.1 = y then κ ((x, s.2) :: r) else κ (s :: r) := ⟨_, rfl⟩
  have k1 : ∀ s r, s.1 ≠ y → κ' (renP x y (s :: r)) = κ (s :: r) := by
    intro s r hs
    rw [hκ']
    simp only [renP]
    by_cases h : s.1 = x
    · obtain ⟨s1, s2⟩ := s; simp only at h; subst h; simp
    · simp [h, hs]
  have kroot : ∀ (s : Nat × Nat) (r : Path), (renH x y st.H (if s.1 = x then (y, s.2) else s).1) = st.H s.1 ∨ s.1 = y := by
    intro s r
    by_cases h : s.1 = x
    · left; simp [h, renH]
    · by_cases h2 : s.1 = y
      · exact .inr h2
      · left; simp [h, renH, h2]
  have kcell : ∀ s r, s.1 ≠ y → cellAt (renH x y st.H) (renP x y (s :: r)) = cellAt st.H (s :: r) := by
    intro s r hs
    rcases kroot s r with h | h
    · simp only [renP, cellAt, h]
      by_cases h' : s.1 = x
      · simp [h']
      · simp [h']
    · exact absurd h hs
  have khead : ∀ q, (shapeAt st.H q).isSome = true → ∃ s r, q = s :: r ∧ s.1 ≠ y := by
    intro q hq
    cases q with
    | nil => simp [shapeAt, cellAt] at hq
    | cons s r =>
      refine ⟨s, r, rfl, fun h => ?_⟩
      simp [shapeAt, cellAt, h, hH] at hq
  refine ⟨κ', fun b o => (γ b o).map (renP x y), ⟨fun s u hu => ?_, fun b o q hq => ?_, h1.old, h1.chg⟩, ?_, h3, fun k => ?_, h5, fun b => ?_, fun q m hq hl => ?_⟩
  · obtain ⟨i, j⟩ := s
    simp only [St.ren, renH] at hu
    by_cases hi : i = y
    · subst hi
      simp only [if_true] at hu
      have ht := h1.root (x, j) u hu
      have e : κ' [(i, j)] = κ [(x, j)] := by rw [hκ']; simp
      rw [e]
      refine ht.ren (K := fun _ _ => True) [(i, j)] (fun r nd _ _ => ⟨?_, fun b o hb => ⟨?_, trivial⟩⟩) (Keep.refl _ w) (fun _ _ _ => trivial) (fun _ _ h => h)
      · rw [hκ']; simp
      · rw [hb]; simp [renP]
    · simp only [hi, if_false] at hu
      by_cases hi2 : i = x
      · subst hi2; simp at hu
      · simp only [hi2, if_false] at hu
        have ht := h1.root (i, j) u hu
        have e : κ' [(i, j)] = κ [(i, j)] := by rw [hκ']; simp [hi]
        rw [e]
        refine ht.ren (K := fun _ _ => True) [(i, j)] (fun r nd _ _ => ⟨?_, fun b o hb => ⟨?_, trivial⟩⟩) (Keep.refl _ w) (fun _ _ _ => trivial) (fun _ _ h => h)
        · rw [hκ']; simp [hi]
        · rw [hb]; simp [renP, hi2]
  · cases hb : γ b o with
    | none => rw [hb] at hq; cases hq
    | some q0 => exact h1.own b o q0 hb
  · show renH x y st.H 0 = []
    simp only [renH, show (0 : Nat) ≠ y by omega, show (0 : Nat) ≠ x by omega, if_false, h2]
  · refine (h4 k).renR fun q hq => ?_
    obtain ⟨s, r, rfl, hs⟩ := khead q hq
    exact ⟨k1 s r hs, by simp only [shapeAt]; rw [show (st.ren x y).H = renH x y st.H from rfl, kcell s r hs]⟩
  · rw [← h6 b, hκ']; simp [show (1 : Nat) ≠ y by omega]
  · cases q with
    | nil => obtain ⟨z, hz, _⟩ := hl; cases hz
    | cons s r =>
      simp only [St.ren, renO] at hq
      by_cases hs : s.1 = y
      · simp only [hs, if_true] at hq
        have e : κ' (s :: r) = κ ((x, s.2) :: r) := by rw [hκ']; simp [hs]
        rw [e]
        refine h7 _ m hq ?_
        obtain ⟨z, hz, hsz⟩ := hl
        refine ⟨z, ?_, hsz⟩
        have := kcell (x, s.2) r hxy
        obtain ⟨s1, s2⟩ := s
        simp only at hs; subst hs
        simp only [renP, if_true] at this
        rw [← this]; exact hz
      · simp only [hs, if_false] at hq
        by_cases hs2 : s.1 = x
        · simp [hs2] at hq
        · simp only [hs2, if_false] at hq
          have e : κ' (s :: r) = κ (s :: r) := by rw [hκ']; simp [hs]
          rw [e]
          refine h7 _ m hq ?_
          obtain ⟨z, hz, hsz⟩ := hl
          refine ⟨z, ?_, hsz⟩
          have := kcell s r hs
          simp only [renP, hs2, if_false] at this
          rw [← this]; exact hz
theorem rel_rens {a : Act} : ∀ {mv : List (Nat × Nat)} {st : St}, renOk st mv → Rel F st a w → Rel F (st.rens mv) a w
  | [], _, _, hR => hR
  | (x, y) :: mv, st, ⟨⟨h1, h2, h3, h4⟩, h5⟩, hR => rel_rens (mv := mv) h5 (rel_ren h1 h2 h3 h4 hR)

def exitOf : TExit → Exit
  | .normal => .normal
  | .exit id => .exit id
  | .ret => .ret

/-- Draw regions do what the machine says, in whatever order (part Ae). -/
def DrawsGood (P : Program) : Prop := ∀ (F : Fr) (rid : Nat) (ops : Array Oper) (l : List TOper) (st : St) (a : Act) (w : World) (TQ : St → Prop) (Q : Exit → Act → World → Prop),
  compDraw P F.N rid ops = some l → Rel F st a w → drawW P l [] st TQ → (∀ st a w, Rel F st a w → TQ st → Q .normal a w) → (Code.region rid ops true).wp P Q a w

theorem code_ok (hall : AllGood P) (hdr : DrawsGood P) {N : Nat} (hN : F.N = N) :
    ∀ (c : Code) (tc : TCode) (st : St) (a : Act) (w : World) (TQ : TExit → St → Prop) (Q : Exit → Act → World → Prop), compCode P N c = some tc → Rel F st a w → twp P tc TQ st →
      (∀ e st a w, Rel F st a w → TQ e st → Q (exitOf e) a w) → c.wp P Q a w := by
  intro c
  induction c with
  | skip =>
    intro tc st a w TQ Q hc hR hT hQ
    simp only [compCode, Option.some.injEq] at hc; subst hc
    exact wp_skip (hQ .normal st a w hR hT)
  | region id ops draw =>
    intro tc st a w TQ Q hc hR hT hQ
    cases draw with
    | true =>
      simp only [compCode, Option.bind_eq_some_iff, Option.some.injEq] at hc
      obtain ⟨l, h1, rfl⟩ := hc
      exact hdr F id ops l st a w _ Q (by rw [hN]; exact h1) hR hT fun st a w hR hq => hQ .normal st a w hR hq
    | false =>
      simp only [compCode, Option.bind_eq_some_iff, Option.some.injEq] at hc
      obtain ⟨l, h1, rfl⟩ := hc
      exact wp_region_list (ops_ok hall hN ops.toList 0 l st a w (TQ .normal) h1 hR hT fun st a w hR hq => hQ .normal st a w hR hq)
  | seq x y ihx ihy =>
    intro tc st a w TQ Q hc hR hT hQ
    simp only [compCode, Option.bind_eq_some_iff, Option.some.injEq] at hc
    obtain ⟨tx, h1, ty, h2, rfl⟩ := hc
    refine wp_seq (ihx tx st a w _ _ h1 hR hT fun e st a w hR hq => ?_)
    cases e with
    | normal => exact ihy ty st a w TQ Q h2 hR hq hQ
    | exit id => exact hQ (.exit id) st a w hR hq
    | ret => exact hQ .ret st a w hR hq
  | cond c x y ihx ihy =>
    intro tc st a w TQ Q hc hR hT hQ
    simp only [compCode, Option.bind_eq_some_iff, Option.some.injEq] at hc
    obtain ⟨tcnd, h0, tx, h1, ty, h2, rfl⟩ := hc
    simp only [twp] at hT
    split at hT
    case h_2 => exact hT.elim
    rename_i b hb
    have hv := opd_rv (a := a) h0 hR.choose_spec.choose_spec.2.2.2.1
    rw [hb] at hv
    refine wp_cond_split (rv_b hv) (fun ht => ihx tx st a w TQ Q h1 hR (hT.1 ht) hQ) (fun hf => ihy ty st a w TQ Q h2 hR (hT.2 hf) hQ)
  | block id x ih =>
    intro tc st a w TQ Q hc hR hT hQ
    simp only [compCode, Option.bind_eq_some_iff, Option.some.injEq] at hc
    obtain ⟨tx, h1, rfl⟩ := hc
    refine wp_block (ih tx st a w _ _ h1 hR hT fun e st a w hR hq => ?_)
    cases e with
    | normal => exact hQ .normal st a w hR hq
    | ret => exact hQ .ret st a w hR hq
    | exit i =>
      simp only [exitOf, Exit.inBlock] at hq ⊢
      split at hq
      · rename_i h; simp only [h, if_true]; exact hQ .normal st a w hR hq
      · rename_i h; simp only [h, if_false]; exact hQ (.exit i) st a w hR hq
  | loop x ih =>
    intro tc st a w TQ Q hc hR hT hQ
    simp only [compCode, Option.bind_eq_some_iff, Option.some.injEq] at hc
    obtain ⟨tx, h1, rfl⟩ := hc
    obtain ⟨I, rs, mv, h0, hmv, ⟨n0, hI⟩, hround⟩ := hT
    -- the measure: the least n at which the round may begin
    classical
    let J : Act → World → Nat → Prop := fun a w n => ∃ s, Rel F s a w ∧ I n s
    have hex : ∀ a w, (∃ n, J a w n) → ∃ n, J a w n ∧ ∀ m, J a w m → n ≤ m := by
      intro a w ⟨n, hn⟩
      induction n using Nat.strongRecOn with
      | _ n ihn =>
        by_cases hm : ∃ m, m < n ∧ J a w m
        · obtain ⟨m, hm1, hm2⟩ := hm
          exact ihn m hm1 hm2
        · exact ⟨n, hn, fun m hm' => by
            rcases Nat.lt_or_ge m n with h | h
            · exact absurd ⟨m, h, hm'⟩ hm
            · exact h⟩
    let μ : Act → World → Nat := fun a w => if h : ∃ n, J a w n then (hex a w h).choose else 0
    refine wp_loop (fun a w => ∃ n, J a w n) μ ⟨n0, _, rel_rens hmv (rel_drop rs h0 hR), hI⟩ fun a w hJ => ?_
    have hμ : J a w (μ a w) := by
      simp only [μ, hJ, dif_pos]; exact (hex a w hJ).choose_spec.1
    obtain ⟨s, hRs, hIs⟩ := hμ
    refine ih tx s a w _ _ h1 hRs (hround _ s hIs) fun e st' a' w' hR' hq => ?_
    cases e with
    | normal =>
      obtain ⟨m, hm, hIm⟩ := hq
      have hJ' : J a' w' m := ⟨_, rel_drop rs h0 hR', hIm⟩
      refine ⟨⟨m, hJ'⟩, ?_⟩
      have hex' : ∃ n, J a' w' n := ⟨m, hJ'⟩
      have : μ a' w' ≤ m := by
        simp only [μ, hex', dif_pos]; exact (hex a' w' hex').choose_spec.2 m hJ'
      omega
    | exit id => exact hQ (.exit id) st' a' w' hR' hq
    | ret => exact hQ .ret st' a' w' hR' hq
  | exit id =>
    intro tc st a w TQ Q hc hR hT hQ
    simp only [compCode, Option.some.injEq] at hc; subst hc
    exact wp_exit (hQ (.exit id) st a w hR hT)
  | ret =>
    intro tc st a w TQ Q hc hR hT hQ
    simp only [compCode, Option.some.injEq] at hc; subst hc
    exact wp_ret (hQ .ret st a w hR hT)
  | _ => intro tc st a w TQ Q hc; simp [compCode] at hc

/-! ### a function's promise out of its body -/
def refArg (b : Nat) : TV → TV
  | .ag cs => .ag (refsFrom [] 1 b cs)
  | u => toRef [(1, b)] u

def initT : Nat → List Mode → List TV → List TV
  | b, .ro :: ms, u :: us => u :: initT b ms us
  | b, _ :: ms, u :: us => refArg b u :: initT (b + (cellsT u).length) ms us
  | _, _, _ => []

def initSt (ms : List Mode) (args : List TV) : St where
  t := fun k => ((initT 0 ms args)[k]?).getD .junk
  H := fun r => if r = 1 then ownCells ms args else []
  org := fun _ => none

mutual
/-- Nothing that is only read in it. -/
def noRO : TV → Bool
  | .sl own _ es => (own || es.isEmpty) && noROLL es
  | .po own cs => own && noROL cs
  | .fn _ cs => noROL cs
  | .b _ | .i .. | .f _ | .s _ | .np | .junk | .pin _ | .rf .. | .pt .. | .ag _ | .tu _ => true
def noROL : List TV → Bool
  | [] => true
  | u :: us => noRO u && noROL us
def noROLL : List (List TV) → Bool
  | [] => true
  | e :: es => noROL e && noROLL es
end

/-- Where a result stands: in a temporary; in the variable that a temporary points to. -/
inductive TRes where
  | tmp (t : Nat)
  | cell (t : Nat) (agg : Bool) (n : Nat)

def resTmps (P : Program) : List ResultVar → Option (List TRes)
  | [] => some []
  | .tmp t :: rs => (resTmps P rs).bind fun ts => some (.tmp t :: ts)
  | .cell a t :: rs => (tyAgg P t).bind fun g => (tySize P t).bind fun n => (resTmps P rs).bind fun ts => if g || n == 1 then some (.cell a g n :: ts) else none

def loadT (H : Hp) (g : Bool) (n : Nat) : TV → Option TV
  | .pt p i f => (rowAt H p i).bind fun cs => if f + n ≤ cs.length then
      if g then some (.ag (refsFrom p i f ((cs.drop f).take n))) else some ((refsFrom p i f ((cs.drop f).take 1)).headD .junk) else none
  | _ => none

def resTV (st : St) : TRes → Option TV
  | .tmp t => some (st.t t)
  | .cell t g n => loadT st.H g n (st.t t)

/-- What was given stands somewhere, behind the same header. -/
def backs (st : St) : Nat → List (Option Path) → List TV → List (Option TV) → Prop
  | m, some q :: gq, l :: ls, some u :: os => l = u ∧ (shape u).isSome = true ∧ (q = [(1, m)] ∨ st.org q = some m) ∧ backs st (m + 1) gq ls os
  | m, none :: gq, _ :: ls, none :: os => backs st (m + 1) gq ls os
  | _, [], [], [] => True
  | _, _, _, _ => False

def ghostRef (H : Hp) : Option Path → TV
  | none => .np
  | some q => match cellAt H q with
    | some (.sl true _ es) => .rf q 0 es.length
    | some (.po true _) => .pt q 0 0
    | _ => .junk

def outsNoRO (os : List (Option TV)) : Bool := os.all fun o => o.elim true noRO

/-- What must hold when the body ends; gq: where what is handed back stands. -/
def endW (al : Bool) (res : List TV) (outs : List (Option TV)) (gq : List (Option Path)) (rt : List TRes) : TExit → St → Prop
  | .exit _, _ => False
  | _, st => ∃ tvs us H1 ds ls H2 ds2, optAll (rt.map (resTV st)) = some tvs ∧ takeL (tvs.flatMap cellsT) st.H = some (us, H1, ds) ∧ us = res.flatMap cellsT ∧
      tvs.map isAg = res.map isAg ∧ tvs.map (fun u => (cellsT u).length) = res.map (fun u => (cellsT u).length) ∧
      takeL (gq.map (ghostRef H1)) H1 = some (ls, H2, ds2) ∧ backs st 0 gq ls outs ∧ (al = false → us.all noRO = true ∧ outsNoRO outs = true)
end
end Go.Proofs.YtloodkhdngipbaaT
