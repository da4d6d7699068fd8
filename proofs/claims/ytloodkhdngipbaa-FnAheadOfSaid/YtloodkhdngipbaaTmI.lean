/- TM, part I: the operations that only make a value, shown right (the rest). -/
import Derived.Test.YtloodkhdngipbaaTmH
namespace Go.Proofs.YtloodkhdngipbaaT
set_option linter.unusedVariables false
set_option linter.unusedSimpArgs false
open Go

section
variable {P : Program} {F : Fr} {st : St} {w w' : World} {κ κ' : Path → Value} {γ γ' : Nat → Nat → Option Path} {H : Hp} {A : Nat → Nat → Prop} {o : Oper} {E : Eff} {root : Nat}

theorem good_mv {x : Operand} {y : TOpd} (hop : o.op = .move x ∨ o.op = .assign x) (hx : compOpd P o.type x = some y) (hd : ∀ d, o.dst = some d → d < F.N)
    (hE : opW P st root (.mv y) (· = E)) : Good P F o st E := by
  simp only [opW] at hE; subst hE
  refine good_val hd fun a w κ γ hh ht => ⟨a.eval x, w, ?_, .refl w, opd_rv hx ht⟩
  rcases hop with h | h <;> simp [execOp, h]

theorem good_pick {c x y : Operand} {c' x' y' : TOpd} {tc tx ty : TypeId} (hop : o.op = .pick c x y) (hc : compOpd P tc c = some c') (hx : compOpd P tx x = some x') (hy : compOpd P ty y = some y')
    (hd : ∀ d, o.dst = some d → d < F.N) (hE : opW P st root (.pick c' x' y') (· = E)) : Good P F o st E := by
  simp only [opW] at hE
  split at hE
  case h_2 => exact hE.elim
  rename_i b hb
  subst hE
  refine good_val hd fun a w κ γ hh ht => ?_
  have hcv := opd_rv hc ht; rw [hb] at hcv
  have := rv_b hcv
  refine ⟨if b then a.eval x else a.eval y, w, ?_, .refl w, ?_⟩
  · simp [execOp, hop, this, asBool]
  · cases b
    · exact opd_rv hy ht
    · exact opd_rv hx ht

theorem good_nilck {x : Operand} {x' : TOpd} {t : TypeId} (hop : o.op = .nilCheck x) (hx : compOpd P t x = some x')
    (hd : ∀ d, o.dst = some d → d < F.N) (hE : opW P st root (.nilck x') (· = E)) : Good P F o st E := by
  simp only [opW] at hE
  split at hE
  · rename_i p i f hb
    subst hE
    refine good_val hd fun a w κ γ hh ht => ?_
    have hv := opd_rv hx ht; rw [hb] at hv
    obtain ⟨ad, h1⟩ := rv_pt hv
    exact ⟨_, w, by simp [execOp, hop, h1], .refl w, h1 ▸ hv⟩
  · rename_i cs hb
    subst hE
    refine good_val hd fun a w κ γ hh ht => ?_
    have hv := opd_rv hx ht; rw [hb] at hv
    obtain ⟨ad, h1⟩ := rv_po hv
    exact ⟨_, w, by simp [execOp, hop, h1], .refl w, h1 ▸ hv⟩
  · rename_i g cs hb
    subst hE
    refine good_val hd fun a w κ γ hh ht => ?_
    have hv := opd_rv hx ht; rw [hb] at hv
    obtain ⟨cv, h1⟩ : ∃ cv, a.eval x = .func (.func g) #[] cv := by
      generalize a.eval x = v at hv
      cases hv with
      | pure u v h => cases h; exact ⟨_, rfl⟩
      | fn => exact ⟨_, rfl⟩
    exact ⟨_, w, by simp [execOp, hop, h1], .refl w, h1 ▸ hv⟩
  · exact hE.elim

theorem guard_quiet {op : BinOp} {t : TypeId} {x y : Operand} {a b : Value} (h : (∃ k n, a = .int k n) ∨ (∃ s, a = .string s) ∨ (∃ k n, a = .float k n) ∨ (∃ s, a = .bool s) ∨ (∃ s, a = .pointer s)) :
    (eqGuard op t x y a b).run P w = .ok () w := by
  rcases h with ⟨k, n, rfl⟩ | ⟨s, rfl⟩ | ⟨k, n, rfl⟩ | ⟨s, rfl⟩ | ⟨s, rfl⟩ <;> (unfold eqGuard; cases op <;> simp)

theorem good_bin {op : BinOp} {x y : Operand} {x' y' : TOpd} {t u tx ty : TypeId} (hop : o.op = .binOp op t x y u) (hx : compOpd P tx x = some x') (hy : compOpd P ty y = some y')
    (hd : ∀ d, o.dst = some d → d < F.N) (hE : opW P st root (.bin op x' y') (· = E)) : Good P F o st E := by
  simp only [opW] at hE
  refine good_val' hd fun a w κ γ hh ht => ?_
  obtain ⟨v', hv', r, w', h1, h2, h3⟩ := bin_run (P := P) (t := t) hE (opd_rv hx ht) (opd_rv hy ht)
  refine ⟨v', r, w', hv', ?_, h2, h3⟩
  have hq : (eqGuard op t x y (a.eval x) (a.eval y)).run P w = .ok () w := by
    refine guard_quiet ?_
    have hxv := opd_rv (P := P) hx ht
    unfold binT at hE
    split at hE
    · rename_i hh' _; rw [hh'] at hxv; exact .inl ⟨_, _, rv_i hxv⟩
    · rename_i hh' _; rw [hh'] at hxv; exact .inr (.inl ⟨_, rv_s hxv⟩)
    · rename_i hh' _; rw [hh'] at hxv; obtain ⟨q, h, _⟩ := rv_f hxv; exact .inr (.inr (.inl ⟨_, _, h⟩))
    · exact hE.elim
  simp only [execOp, hop, Sem.run_bind, hq, Result.andThen_ok, h1, Sem.run_pure]

theorem good_un {op : UnOp} {x : Operand} {x' : TOpd} {t tx : TypeId} (hop : o.op = .unOp op t x) (hx : compOpd P tx x = some x')
    (hd : ∀ d, o.dst = some d → d < F.N) (hE : opW P st root (.un op x') (· = E)) : Good P F o st E := by
  simp only [opW] at hE
  split at hE
  · rename_i b hb
    subst hE
    refine good_val hd fun a w κ γ hh ht => ?_
    have hv := opd_rv hx ht; rw [hb] at hv
    have h1 := rv_b hv
    exact ⟨.bool (!b), w, by simp [execOp, hop, h1, Op.unary], .refl w, .pure _ _ (.b _)⟩
  · rename_i k n hb
    subst hE
    refine good_val hd fun a w κ γ hh ht => ?_
    have hv := opd_rv hx ht; rw [hb] at hv
    have h1 := rv_i hv
    exact ⟨.int k (k.wrap (0 - n)), w, by simp [execOp, hop, h1, Op.unary, Op.intArith], .refl w, .pure _ _ (.i _ _)⟩
  · rename_i n hb
    subst hE
    refine good_val hd fun a w κ γ hh ht => ?_
    have hv := opd_rv hx ht; rw [hb] at hv
    obtain ⟨y, h1, rfl⟩ := rv_f hv
    exact ⟨.float .f64 (Op.negFloat .f64 y), w, by simp [execOp, hop, h1, Op.unary], .refl w, .pure _ _ (by rw [neg_canon]; exact .f _)⟩
  · exact hE.elim

theorem good_ext {k : Nat} {x : Operand} {x' : TOpd} {tx : TypeId} (hop : o.op = .extract x k) (hx : compOpd P tx x = some x')
    (hd : ∀ d, o.dst = some d → d < F.N) (hE : opW P st root (.ext k x') (· = E)) : Good P F o st E := by
  simp only [opW] at hE
  split at hE
  case h_2 => exact hE.elim
  rename_i vs hb
  split at hE
  case h_2 => exact hE.elim
  rename_i v hv'
  subst hE
  refine good_val hd fun a w κ γ hh ht => ?_
  have hv := opd_rv hx ht; rw [hb] at hv
  obtain ⟨cv, h1, h2, h3⟩ := rv_tu hv
  have hlt : k < cv.size := by have := (List.getElem?_eq_some_iff.1 hv').1; omega
  refine ⟨cv[k], w, by simp [execOp, hop, h1, Instr.extract, hlt], .refl w, ?_⟩
  simpa [hlt] using h3 k v hv'

theorem good_len {str : Bool} {x : Operand} {x' : TOpd} {t tx : TypeId} {c : Call} (hop : o.op = .call c) (hc : c.callee = .builtin .len) (ha : c.args.toList = [x]) (htt : c.argTypes[0]? = some t)
    (hu : if str then P.underlying t = some .string else ∃ e, P.underlying t = some (.slice e)) (hx : compOpd P tx x = some x')
    (hd : ∀ d, o.dst = some d → d < F.N) (hE : opW P st root (.len str x') (· = E)) : Good P F o st E := by
  simp only [opW] at hE
  split at hE
  case h_2 => exact hE.elim
  rename_i n hn
  subst hE
  refine good_val hd fun a w κ γ hh ht => ?_
  have hv := opd_rv hx ht
  have hargs : c.args = #[x] := by rw [← Array.toArray_toList (xs := c.args), ha]
  refine ⟨.int .i64 n, w, ?_, .refl w, .pure _ _ (.i _ _)⟩
  cases str with
  | true =>
    have key : ∃ s, a.eval x = .string s ∧ n = s.size := by
      revert hv
      generalize x'.ev st = u at hn
      generalize a.eval x = v
      intro hv
      cases hv with
      | pure u v h => cases h <;> simp_all [lenT]
      | _ => simp_all [lenT]
    obtain ⟨s, h1, h2⟩ := key
    simp only [if_true] at hu
    simp [execOp, hop, resolve, hc, hargs, invoke, builtin, Builtin.len_, htt, h1, run_underlying hu, goInt, h2]
  | false =>
    have key : ∃ ad c, a.eval x = .slice ad n c := by
      revert hv
      generalize x'.ev st = u at hn
      generalize a.eval x = v
      intro hv
      cases hv with
      | pure u v h => cases h <;> simp_all [lenT]
      | nil z => simp_all [lenT]
      | rf0 => simp_all [lenT]
      | rf => simp_all [lenT]
      | _ => simp_all [lenT]
    obtain ⟨ad, c', h1⟩ := key
    simp only [Bool.false_eq_true, if_false] at hu
    obtain ⟨e, hu⟩ := hu
    simp [execOp, hop, resolve, hc, hargs, invoke, builtin, Builtin.len_, htt, h1, run_underlying hu, goInt]

theorem good_toInt {k : IntKind} {x : Operand} {x' : TOpd} {s d tx : TypeId} (hop : o.op = .convert s d x) (hk : P.underlying d = some (.int k)) (hs : (P.underlying s).isSome = true) (hx : compOpd P tx x = some x')
    (hd : ∀ d, o.dst = some d → d < F.N) (hE : opW P st root (.toInt k x') (· = E)) : Good P F o st E := by
  obtain ⟨ds, hs⟩ := Option.isSome_iff_exists.1 hs
  simp only [opW] at hE
  split at hE
  · rename_i k1 n hb
    subst hE
    refine good_val hd fun a w κ γ hh ht => ?_
    have hv := opd_rv hx ht; rw [hb] at hv
    have h1 := rv_i hv
    exact ⟨.int k (k.wrap n), w, by simp [execOp, hop, h1, convert, run_underlying hk, run_underlying hs, Conv.intToInt], .refl w, .pure _ _ (.i _ _)⟩
  · rename_i b hb
    split at hE
    case h_2 => exact hE.elim
    rename_i n hn
    obtain ⟨h2, h3, rfl⟩ := hE
    refine good_val hd fun a w κ γ hh ht => ?_
    have hv := opd_rv hx ht; rw [hb] at hv
    obtain ⟨y, h1, rfl⟩ := rv_f hv
    have hy : canon y = y := by
      by_cases hN : isN y
      · rw [canon_nan hN] at hn
        obtain ⟨s0, t0, hn'⟩ := isN_nanC
        simp only [FloatKind.decode, FloatKind.format] at hn
        rw [hn'] at hn
        cases hn
      · exact canon_not hN
    rw [hy] at hn
    exact ⟨.int k n, w, by simp [execOp, hop, h1, convert, run_underlying hk, run_underlying hs, Conv.floatToInt, hn, h2, h3], .refl w, .pure _ _ (.i _ _)⟩
  · exact hE.elim

theorem good_toF {x : Operand} {x' : TOpd} {s d tx : TypeId} (hop : o.op = .convert s d x) (hk : P.underlying d = some (.float .f64)) (hs : (P.underlying s).isSome = true) (hx : compOpd P tx x = some x')
    (hd : ∀ d, o.dst = some d → d < F.N) (hE : opW P st root (.toF x') (· = E)) : Good P F o st E := by
  obtain ⟨ds, hs⟩ := Option.isSome_iff_exists.1 hs
  simp only [opW] at hE
  split at hE
  · rename_i k1 n hb
    subst hE
    refine good_val hd fun a w κ γ hh ht => ?_
    have hv := opd_rv hx ht; rw [hb] at hv
    have h1 := rv_i hv
    exact ⟨.float .f64 (FloatKind.f64.nearest n), w, by simp [execOp, hop, h1, convert, run_underlying hk, run_underlying hs, Conv.intToFloat], .refl w, .pure _ _ (.f _)⟩
  · rename_i b hb
    subst hE
    refine good_val hd fun a w κ γ hh ht => ?_
    have hv := opd_rv hx ht; rw [hb] at hv
    obtain ⟨y, h1, rfl⟩ := rv_f hv
    exact ⟨.float .f64 y, w, by simp [execOp, hop, h1, convert, run_underlying hk, run_underlying hs, Conv.floatToFloat], .refl w, .pure _ _ (.f _)⟩
  · exact hE.elim

theorem good_ix {x y : Operand} {x' y' : TOpd} {t tx ty : TypeId} (hop : o.op = .index t x y) (hk : P.underlying t = some .string) (hx : compOpd P tx x = some x') (hy : compOpd P ty y = some y')
    (hd : ∀ d, o.dst = some d → d < F.N) (hE : opW P st root (.ix x' y') (· = E)) : Good P F o st E := by
  simp only [opW] at hE
  split at hE
  case h_2 => exact hE.elim
  rename_i s k n hb1 hb2
  split at hE
  case h_2 => exact hE.elim
  rename_i b hn
  subst hE
  refine good_val hd fun a w κ γ hh ht => ?_
  have hv := opd_rv hx ht; rw [hb1] at hv
  have h1 := rv_s hv
  have hv2 := opd_rv hy ht; rw [hb2] at hv2
  have h2 := rv_i hv2
  refine ⟨.int .u8 b.toNat, w, ?_, .refl w, .pure _ _ (.i _ _)⟩
  simp only [execOp, hop, h1, h2, Instr.index, asIntOf, Sem.run_bind, Sem.run_pure, Result.andThen_ok, run_underlying hk, hn]

theorem good_maxi {x y : Operand} {x' y' : TOpd} {tx ty : TypeId} {c : Call} (hop : o.op = .call c) (hc : c.callee = .builtin .max) (ha : c.args.toList = [x, y]) (hx : compOpd P tx x = some x') (hy : compOpd P ty y = some y')
    (hd : ∀ d, o.dst = some d → d < F.N) (hE : opW P st root (.maxi x' y') (· = E)) : Good P F o st E := by
  simp only [opW] at hE
  split at hE
  case h_2 => exact hE.elim
  rename_i k p k' q hb1 hb2
  subst hE
  refine good_val hd fun a w κ γ hh ht => ?_
  have hv := opd_rv hx ht; rw [hb1] at hv
  have h1 := rv_i hv
  have hv2 := opd_rv hy ht; rw [hb2] at hv2
  have h2 := rv_i hv2
  have hargs : c.args = #[x, y] := by rw [← Array.toArray_toList (xs := c.args), ha]
  refine ⟨.int k (if q > p then q else p), w, ?_, .refl w, .pure _ _ (.i _ _)⟩
  simp [execOp, hop, resolve, hc, hargs, invoke, builtin, Builtin.max_, Builtin.max2, h1, h2]

theorem good_mkfn {g : FuncId} {first caps : Array Operand} {cs : List TOpd} (hop : o.op = .makeFunc (.func g) first caps) (hf : first.isEmpty = true)
    (hcs : cs.length = caps.size) (hx : ∀ (j : Nat) (x : TOpd), cs[j]? = some x → ∃ y t, caps[j]? = some y ∧ compOpd P t y = some x)
    (hd : ∀ d, o.dst = some d → d < F.N) (hE : opW P st root (.mkfn g cs) (· = E)) : Good P F o st E := by
  simp only [opW] at hE; subst hE
  refine good_val hd fun a w κ γ hh ht => ?_
  have hf' : first = #[] := by simpa using hf
  refine ⟨.func (.func g) #[] (caps.map a.eval), w, by simp [execOp, hop, hf', Instr.makeFunc], .refl w, ?_⟩
  refine .fn _ _ _ (by simpa using hcs) fun j u hu => ?_
  rw [List.getElem?_map] at hu
  cases hj : cs[j]? with
  | none => simp [hj] at hu
  | some x =>
    simp only [hj, Option.map_some, Option.some.injEq] at hu
    subst hu
    obtain ⟨y, t, h1, h2⟩ := hx j x hj
    simpa [h1] using opd_rv h2 ht

theorem good_eqp {neg : Bool} {op : BinOp} {x y : Operand} {x' y' : TOpd} {t u e tx ty : TypeId} (hop : o.op = .binOp op t x y u) (ho : op = if neg then .neq else .eql) (hk : P.underlying t = some (.pointer e)) (hx : compOpd P tx x = some x') (hy : compOpd P ty y = some y')
    (hd : ∀ d, o.dst = some d → d < F.N) (hE : opW P st root (.eqp neg x' y') (· = E)) : Good P F o st E := by
  simp only [opW] at hE
  refine good_val' hd fun a w κ γ hh ht => ?_
  have hxv := opd_rv hx ht
  have hyv := opd_rv hy ht
  have key : ∃ (p q : Option Addr) (b : Bool), a.eval x = .pointer p ∧ a.eval y = .pointer q ∧ (p = none ∨ q = none) ∧ (b = (p.isNone && q.isNone)) ∧ val st (.b (b ^^ neg)) = E := by
    split at hE
    · rename_i h1 h2
      rw [h1] at hxv; rw [h2] at hyv
      exact ⟨none, none, true, rv_np hxv, rv_np hyv, .inl rfl, rfl, by rw [← hE]; simp⟩
    · rename_i h1 h2
      rw [h1] at hxv; rw [h2] at hyv
      obtain ⟨ad, h3⟩ := rv_pt hyv
      exact ⟨none, some ad, false, rv_np hxv, h3, .inl rfl, rfl, by rw [← hE]; simp⟩
    · rename_i h1 h2
      rw [h1] at hxv; rw [h2] at hyv
      obtain ⟨ad, h3⟩ := rv_po hyv
      exact ⟨none, some ad, false, rv_np hxv, h3, .inl rfl, rfl, by rw [← hE]; simp⟩
    · rename_i h1 h2
      rw [h1] at hxv; rw [h2] at hyv
      obtain ⟨ad, h3⟩ := rv_pt hxv
      exact ⟨some ad, none, false, h3, rv_np hyv, .inr rfl, rfl, by rw [← hE]; simp⟩
    · rename_i h1 h2
      rw [h1] at hxv; rw [h2] at hyv
      obtain ⟨ad, h3⟩ := rv_po hxv
      exact ⟨some ad, none, false, h3, rv_np hyv, .inr rfl, rfl, by rw [← hE]; simp⟩
    · exact hE.elim
  obtain ⟨p, q, b, h1, h2, h3, h4, h5⟩ := key
  have heq : (Op.equal t (.pointer p) (.pointer q)).run P w = .ok b w := by
    have gen : ∀ n, (Op.equalIn (n + 1) t (.pointer p) (.pointer q)).run P w = .ok b w := by
      intro n
      simp only [Op.equalIn, Sem.run_bind, run_underlying hk, Result.andThen_ok]
      subst h4
      rcases h3 with rfl | rfl
      · cases q <;> simp
      · cases p <;> simp
    exact gen 9999
  refine ⟨_, .bool (b ^^ neg), w, h5, ?_, .refl w, .pure _ _ (.b _)⟩
  have hq := guard_quiet (P := P) (w := w) (op := op) (t := t) (x := x) (y := y) (a := a.eval x) (b := a.eval y) (.inr (.inr (.inr (.inr ⟨p, h1⟩))))
  rw [h1, h2] at hq
  cases neg
  · simp only [Bool.false_eq_true, if_false] at ho; subst ho
    simp [execOp, hop, h1, h2, hq, binOp, heq]
  · simp only [if_true] at ho; subst ho
    simp [execOp, hop, h1, h2, hq, binOp, heq]
end
end Go.Proofs.YtloodkhdngipbaaT
