/- TM, part H: the operations that only make a value, shown right. -/
import Derived.Test.YtloodkhdngipbaaTmG
namespace Go.Proofs.YtloodkhdngipbaaT
set_option linter.unusedVariables false
set_option linter.unusedSimpArgs false
open Go

/-! ### floats, all NaNs one -/
section
def isN (x : Nat) : Prop := ∃ s t, Ieee.double.read x = .nan s t

theorem order_none (x : Nat) : FloatKind.f64.format.order x x = none ↔ isN x := by
  simp only [FloatKind.format, Ieee.Format.order, isN]
  cases Ieee.double.read x <;> simp [Ieee.Datum.order]

theorem canon_nan {x : Nat} (h : isN x) : canon x = nanC := by simp [canon, (order_none x).2 h, nanC]
theorem canon_not {x : Nat} (h : ¬ isN x) : canon x = x := by
  have : ¬ FloatKind.f64.format.order x x = none := fun hh => h ((order_none x).1 hh)
  simp [canon, this]
theorem isN_of_rung {x : Nat} (h : 0x7ff0000000000000 < x % 2 ^ 63) : isN x := by
  have e1 : Ieee.double.signWeight = 2 ^ 63 := rfl
  have e2 : Ieee.double.binade = 2 ^ 52 := rfl
  have e3 : Ieee.double.infRung = 0x7ff0000000000000 := rfl
  refine ⟨x / 2 ^ 63 % 2 == 1, x % 2 ^ 63 - 0x7ff0000000000000, ?_⟩
  simp only [Ieee.Format.read, e1, e2, e3]
  rw [if_neg (by omega), if_neg (by omega), if_neg (by omega)]

theorem isN_nanC : isN nanC := isN_of_rung (by decide)

theorem op_canon {α : Type} (f : Ieee.Datum → Ieee.Datum → Option α) (h1 : ∀ s t y, f (.nan s t) y = none) (h2 : ∀ s t y, f y (.nan s t) = none) (x y : Nat) :
    f (Ieee.double.read (canon x)) (Ieee.double.read (canon y)) = f (Ieee.double.read x) (Ieee.double.read y) := by
  obtain ⟨s0, t0, hn⟩ := isN_nanC
  by_cases hx : isN x
  · rw [canon_nan hx, hn, h1]
    obtain ⟨s, t, hx⟩ := hx
    rw [hx, h1]
  · rw [canon_not hx]
    by_cases hy : isN y
    · rw [canon_nan hy, hn, h2]
      obtain ⟨s, t, hy⟩ := hy
      rw [hy, h2]
    · rw [canon_not hy]

theorem order_canon (x y : Nat) : FloatKind.f64.format.order (canon x) (canon y) = FloatKind.f64.format.order x y :=
  op_canon Ieee.Datum.order (fun _ _ _ => rfl) (fun _ _ y => by cases y <;> rfl) x y
theorem add_canon (x y : Nat) : FloatKind.f64.format.add (canon x) (canon y) = FloatKind.f64.format.add x y :=
  congrArg (Option.map _) (op_canon Ieee.Datum.sum (fun _ _ _ => rfl) (fun _ _ y => by cases y <;> rfl) x y)
theorem sub_canon (x y : Nat) : FloatKind.f64.format.sub (canon x) (canon y) = FloatKind.f64.format.sub x y :=
  congrArg (Option.map _) (op_canon (fun a b => a.sum b.opposite) (fun _ _ _ => rfl) (fun _ _ y => by cases y <;> rfl) x y)
theorem mul_canon (x y : Nat) : FloatKind.f64.format.mul (canon x) (canon y) = FloatKind.f64.format.mul x y :=
  congrArg (Option.map _) (op_canon Ieee.Datum.product (fun _ _ _ => rfl) (fun _ _ y => by cases y <;> rfl) x y)
theorem div_canon (x y : Nat) : FloatKind.f64.format.div (canon x) (canon y) = FloatKind.f64.format.div x y :=
  congrArg (Option.map _) (op_canon (Ieee.Datum.quotient _) (fun _ _ _ => rfl) (fun _ _ y => by cases y <;> rfl) x y)

theorem rung_of_isN {x : Nat} (h : isN x) : 0x7ff0000000000000 < x % 2 ^ 63 := by
  have e1 : Ieee.double.signWeight = 2 ^ 63 := rfl
  have e2 : Ieee.double.binade = 2 ^ 52 := rfl
  have e3 : Ieee.double.infRung = 0x7ff0000000000000 := rfl
  obtain ⟨s, t, h⟩ := h
  simp only [Ieee.Format.read, e1, e2, e3] at h
  split at h
  · cases h
  · split at h
    · cases h
    · split at h
      · cases h
      · omega

theorem nan_cut (x y t : Nat) : canon ((Question.nanBits .f64 x y).cut t) = nanC := by
  refine canon_nan (isN_of_rung ?_)
  simp only [Question.cut]
  have : t / 2 % (2 ^ 52 - 1) < 2 ^ 52 - 1 := Nat.mod_lt _ (by decide)
  generalize t / 2 % (2 ^ 52 - 1) = m at *
  rcases Nat.mod_two_eq_zero_or_one t with h | h <;> rw [h] <;> omega

theorem neg_nan {x : Nat} (h : isN x) : isN (Op.negFloat .f64 x) := by
  refine isN_of_rung ?_
  have := rung_of_isN h
  have e : Op.negFloat .f64 x = x ^^^ 2 ^ 63 := rfl
  rw [e, Nat.xor_mod_two_pow, Nat.mod_self, Nat.xor_zero]
  exact this

theorem neg_canon (x : Nat) : canon (Op.negFloat .f64 (canon x)) = canon (Op.negFloat .f64 x) := by
  by_cases h : isN x
  · rw [canon_nan h, canon_nan (neg_nan isN_nanC), canon_nan (neg_nan h)]
  · rw [canon_not h]
end

section
variable {P : Program} {F : Fr} {st : St} {w w' : World} {κ κ' : Path → Value} {γ γ' : Nat → Nat → Option Path} {H : Hp} {A : Nat → Nat → Prop}

/-! ### reading the tie backwards -/
theorem rv_i {k : IntKind} {n : Int} {v : Value} (h : RV w κ H A (.i k n) v) : v = .int k n := by cases h with | pure u v h => cases h; rfl
theorem rv_b {x : Bool} {v : Value} (h : RV w κ H A (.b x) v) : v = .bool x := by cases h with | pure u v h => cases h; rfl
theorem rv_s {x : ByteArray} {v : Value} (h : RV w κ H A (.s x) v) : v = .string x := by cases h with | pure u v h => cases h; rfl
theorem rv_f {x : Nat} {v : Value} (h : RV w κ H A (.f x) v) : ∃ y, v = .float .f64 y ∧ canon y = x := by cases h with | pure u v h => cases h; exact ⟨_, rfl, rfl⟩
theorem rv_np {v : Value} (h : RV w κ H A .np v) : v = .pointer none := by cases h with | pure u v h => cases h; rfl
theorem rv_ag {cs : List TV} {v : Value} (h : RV w κ H A (.ag cs) v) : ∃ vs : Array Value, v = .agg vs ∧ cs.length = vs.size ∧ ∀ (j : Nat) (u : TV), cs[j]? = some u → RV w κ H A u ((vs[j]?).getD undef) := by
  cases h with
  | pure u v h => cases h
  | ag cs vs hl hc => exact ⟨vs, rfl, hl, hc⟩
theorem rv_tu {cs : List TV} {v : Value} (h : RV w κ H A (.tu cs) v) : ∃ vs : Array Value, v = .tuple vs ∧ cs.length = vs.size ∧ ∀ (j : Nat) (u : TV), cs[j]? = some u → RV w κ H A u ((vs[j]?).getD undef) := by
  cases h with
  | pure u v h => cases h
  | tu cs vs hl hc => exact ⟨vs, rfl, hl, hc⟩
theorem rv_pt {p : Path} {i f : Nat} {v : Value} (h : RV w κ H A (.pt p i f) v) : ∃ a, v = .pointer (some a) := by
  cases h with
  | pure u v h => cases h
  | ptS => exact ⟨_, rfl⟩
  | ptP => exact ⟨_, rfl⟩
theorem rv_po {cs : List TV} {v : Value} (h : RV w κ H A (.po false cs) v) : ∃ a, v = .pointer (some a) := by
  cases h with
  | pure u v h => cases h; exact ⟨_, rfl⟩

/-- Worlds alike in all that is told. -/
structure Same (w w' : World) : Prop where
  heap : w'.heap = w.heap
  os : w'.os = w.os
  tape : w'.tape = w.tape
  output : w'.output = w.output

theorem Same.refl (w : World) : Same w w := ⟨rfl, rfl, rfl, rfl⟩
theorem Same.keep (h : Same w w') (K : Nat → Nat → Prop) : Keep K w w' :=
  ⟨by rw [h.heap]; exact Nat.le_refl _, fun b arr T fz hb => ⟨arr, by rw [h.heap]; exact hb, rfl, fun _ _ => rfl⟩, fun b o hb _ => by rw [h.heap]; exact hb⟩
theorem HR.same {w0 : World} {S0 : Nat → Nat → Prop} (h : HR w0 S0 A w κ γ H) (hs : Same w w') : HR w0 S0 A w' κ γ H := by
  refine ⟨fun s u hu => ?_, fun b o q hb => ?_, h.old, ?_⟩
  · exact (h.root s u hu).ren (K := fun _ _ => True) _ (fun r nd _ _ => ⟨rfl, fun _ _ hb => ⟨hb, trivial⟩⟩) (hs.keep _) (fun _ _ _ => trivial) (fun _ _ h => h)
  · rw [hs.heap]; exact h.own b o q hb
  · exact h.chg.trans (S' := fun _ _ => False) ⟨hs.os, hs.tape, hs.output, hs.keep _⟩ (fun _ _ h => h.elim)
theorem RV.same {u : TV} {v : Value} (h : RV w κ H A u v) (hs : Same w w') : RV w' κ H A u v :=
  h.mono (K := fun _ _ => True) (fun _ _ => ⟨rfl, rfl⟩) (hs.keep _) (fun _ _ _ => trivial)

/-- What an operation is to do. -/
def Good (P : Program) (F : Fr) (o : Oper) (st : St) (E : Eff) : Prop :=
  ∀ a w K Q, Rel F st a w → (∀ a' w', Rel F (st.put o.dst E) a' w' → K a' w') → o.wp P a w K Q

theorem good_val {o : Oper} {v : TV} (hd : ∀ d, o.dst = some d → d < F.N)
    (h : ∀ (a : Act) w κ γ, HR F.w0 F.S0 F.A w κ γ st.H → (∀ k, RV w κ st.H F.A (st.t k) ((a.tmps[k]?).getD undef)) →
      ∃ x w', (execOp a.eval o).run P w = .ok (.value x) w' ∧ Same w w' ∧ RV w κ st.H F.A v x) : Good P F o st (val st v) := by
  intro a w K Q hR hK
  obtain ⟨κ, γ, h1, h2, h3, h4, h5, h6, h7⟩ := hR
  obtain ⟨x, w', hr, hs, hx⟩ := h a w κ γ h1 h4
  unfold Oper.wp
  rw [hr, Oper.upon_value]
  exact hK _ _ (Rel.val (h1.same hs) h2 h3 hd h5 h6 h7 (fun k => (h4 k).same hs) (hx.same hs))

theorem good_val' {o : Oper} {E : Eff} (hd : ∀ d, o.dst = some d → d < F.N)
    (h : ∀ (a : Act) w κ γ, HR F.w0 F.S0 F.A w κ γ st.H → (∀ k, RV w κ st.H F.A (st.t k) ((a.tmps[k]?).getD undef)) →
      ∃ v x w', val st v = E ∧ (execOp a.eval o).run P w = .ok (.value x) w' ∧ Same w w' ∧ RV w κ st.H F.A v x) : Good P F o st E := by
  intro a w K Q hR hK
  obtain ⟨κ, γ, h1, h2, h3, h4, h5, h6, h7⟩ := hR
  obtain ⟨v, x, w', rfl, hr, hs, hx⟩ := h a w κ γ h1 h4
  unfold Oper.wp
  rw [hr, Oper.upon_value]
  exact hK _ _ (Rel.val (h1.same hs) h2 h3 hd h5 h6 h7 (fun k => (h4 k).same hs) (hx.same hs))

theorem run_choose_same {q : Question} (hq : q.forced = false) : ∃ t w', (choose q).run P w = .ok (q.cut t) w' ∧ Same w w' :=
  ⟨w.tape w.drawn q, { w with drawn := w.drawn + 1 }, by rw [run_choose, hq]; rfl, ⟨rfl, rfl, rfl, rfl⟩⟩

theorem flt_run {op : BinOp} (hop : op = .add ∨ op = .sub ∨ op = .mul ∨ op = .quo) (x y : Nat) :
    ∃ r w', (Op.floatArith op .f64 x y).run P w = .ok (.float .f64 r) w' ∧ Same w w' ∧ canon r = fltArith op (canon x) (canon y) := by
  obtain ⟨t, w', h1, h2⟩ := run_choose_same (P := P) (w := w) (q := .nanBits .f64 x y) rfl
  have hn := nan_cut x y t
  rcases hop with rfl | rfl | rfl | rfl
  · simp only [Op.floatArith, fltArith, add_canon, Sem.run_bind, Sem.run_pure, Result.andThen_ok]
    cases FloatKind.f64.format.add x y with
    | some r => exact ⟨r, w, rfl, .refl w, rfl⟩
    | none => exact ⟨_, w', by simp only [Sem.run_bind, h1, Result.andThen_ok, Sem.run_pure], h2, hn⟩
  · simp only [Op.floatArith, fltArith, sub_canon, Sem.run_bind, Sem.run_pure, Result.andThen_ok]
    cases FloatKind.f64.format.sub x y with
    | some r => exact ⟨r, w, rfl, .refl w, rfl⟩
    | none => exact ⟨_, w', by simp only [Sem.run_bind, h1, Result.andThen_ok, Sem.run_pure], h2, hn⟩
  · simp only [Op.floatArith, fltArith, mul_canon, Sem.run_bind, Sem.run_pure, Result.andThen_ok]
    cases FloatKind.f64.format.mul x y with
    | some r => exact ⟨r, w, rfl, .refl w, rfl⟩
    | none => exact ⟨_, w', by simp only [Sem.run_bind, h1, Result.andThen_ok, Sem.run_pure], h2, hn⟩
  · simp only [Op.floatArith, fltArith, div_canon, Sem.run_bind, Sem.run_pure, Result.andThen_ok]
    cases FloatKind.f64.format.div x y with
    | some r => exact ⟨r, w, rfl, .refl w, rfl⟩
    | none => exact ⟨_, w', by simp only [Sem.run_bind, h1, Result.andThen_ok, Sem.run_pure], h2, hn⟩

theorem bin_run {op : BinOp} {t : TypeId} {ux uy : TV} {x y : Value} {Kv : TV → Prop} (h : binT op ux uy Kv) (hx : RV w κ H A ux x) (hy : RV w κ H A uy y) :
    ∃ v, Kv v ∧ ∃ r w', (binOp op t x y).run P w = .ok r w' ∧ Same w w' ∧ RV w κ H A v r := by
  have triv : ∀ {v : TV} {r : Value}, Kv v → (binOp op t x y).run P w = .ok r w → RR w A v r → ∃ v, Kv v ∧ ∃ r w', (binOp op t x y).run P w = .ok r w' ∧ Same w w' ∧ RV w κ H A v r :=
    fun hk hr hv => ⟨_, hk, _, _, hr, .refl w, .pure _ _ hv⟩
  unfold binT at h
  split at h
  · rename_i k a k' b
    obtain rfl := rv_i hx
    obtain rfl := rv_i hy
    cases op <;> simp only at h
    case shl => exact triv h.2 (by simp [binOp, Op.shift, show ¬ b < 0 by omega]) (.i _ _)
    case shr => exact triv h.2 (by simp [binOp, Op.shift, show ¬ b < 0 by omega]) (.i _ _)
    case add => obtain ⟨rfl, h⟩ := h; exact triv h (by simp [binOp, Op.intArith]) (.i _ _)
    case sub => obtain ⟨rfl, h⟩ := h; exact triv h (by simp [binOp, Op.intArith]) (.i _ _)
    case mul => obtain ⟨rfl, h⟩ := h; exact triv h (by simp [binOp, Op.intArith]) (.i _ _)
    case quo => obtain ⟨rfl, h0, h⟩ := h; exact triv h (by simp [binOp, Op.intDiv, h0]) (.i _ _)
    case rem => obtain ⟨rfl, h0, h⟩ := h; exact triv h (by simp [binOp, Op.intDiv, h0]) (.i _ _)
    case and => obtain ⟨rfl, h⟩ := h; exact triv h (by simp [binOp, Op.intBits]) (.i _ _)
    case or => obtain ⟨rfl, h⟩ := h; exact triv h (by simp [binOp, Op.intBits]) (.i _ _)
    case xor => obtain ⟨rfl, h⟩ := h; exact triv h (by simp [binOp, Op.intBits]) (.i _ _)
    case andNot => obtain ⟨rfl, h⟩ := h; exact triv h (by simp [binOp, Op.intBits]) (.i _ _)
    all_goals (obtain ⟨rfl, h⟩ := h; exact triv h (by simp [binOp, Op.intCmp]) (.b _))
  · rename_i a b
    obtain rfl := rv_s hx
    obtain rfl := rv_s hy
    cases op <;> simp only at h
    case add =>
      refine triv h.2 ?_ (.s _)
      simp only [binOp, Op.stringOp]
      have : ¬ ((a.size + b.size : Nat) : Int) > IntKind.i64.max := by
        have e : IntKind.i64.max = 2 ^ 63 - 1 := rfl
        omega
      simp only [this, if_false, Sem.run_pure]
    case eql => exact triv h (by simp [binOp, Op.stringOp]) (.b _)
    case neq => exact triv h (by simp [binOp, Op.stringOp]) (.b _)
    case lss => exact triv h (by simp [binOp, Op.stringOp]) (.b _)
    all_goals exact h.elim
  · rename_i a b
    obtain ⟨x1, rfl, rfl⟩ := rv_f hx
    obtain ⟨y1, rfl, rfl⟩ := rv_f hy
    have ar : ∀ {op}, (op = .add ∨ op = .sub ∨ op = .mul ∨ op = .quo) → (binOp op t (.float .f64 x1) (.float .f64 y1)).run P w = (Op.floatArith op .f64 x1 y1).run P w → Kv (.f (fltArith op (canon x1) (canon y1))) →
        ∃ v, Kv v ∧ ∃ r w', (binOp op t (.float .f64 x1) (.float .f64 y1)).run P w = .ok r w' ∧ Same w w' ∧ RV w κ H A v r := by
      intro op hop he hk
      obtain ⟨r, w', h1, h2, h3⟩ := flt_run (P := P) (w := w) hop x1 y1
      exact ⟨_, hk, _, w', by rw [he]; exact h1, h2, .pure _ _ (by rw [← h3]; exact .f r)⟩
    cases op <;> simp only [order_canon] at h
    case add => exact ar (by simp) (by simp [binOp]) h
    case sub => exact ar (by simp) (by simp [binOp]) h
    case mul => exact ar (by simp) (by simp [binOp]) h
    case quo => exact ar (by simp) (by simp [binOp]) h
    case eql => exact triv h (by simp [binOp, Op.floatCmp]) (.b _)
    case neq => exact triv h (by simp [binOp, Op.floatCmp]) (.b _)
    case lss => exact triv h (by simp [binOp, Op.floatCmp]) (.b _)
    case leq => exact triv h (by simp [binOp, Op.floatCmp]) (.b _)
    case gtr => exact triv h (by simp [binOp, Op.floatCmp]) (.b _)
    case geq => exact triv h (by simp [binOp, Op.floatCmp]) (.b _)
    all_goals exact h.elim
  · exact h.elim
end
end Go.Proofs.YtloodkhdngipbaaT
