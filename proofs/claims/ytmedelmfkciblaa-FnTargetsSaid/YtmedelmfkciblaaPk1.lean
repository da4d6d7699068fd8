/- Texts of this session's own, one behind the other: TmA, TmB, TmC, TmD. -/
import Derived.Tactics
import Derived.Orders
import Derived.Below
import Ieee.Arith
namespace Go.Proofs.YtmedelmfkciblaaT
set_option linter.unusedVariables false
set_option linter.unusedSimpArgs false
open Go
abbrev Path := List (Nat × Nat)
inductive TV where
 | b (x : Bool)
 | i (k : IntKind) (n : Int)
 | f (bits : Nat)
 | s (x : ByteArray)
 | np
 | sl (own : Bool) (z : Nat) (es : List (List TV))
 | po (own : Bool) (cs : List TV)
 | rf (p : Path) (off len : Nat)
 | pt (p : Path) (i f : Nat)
 | ag (cs : List TV)
 | tu (vs : List TV)
 | fn (g : FuncId) (caps : List TV)
 | junk
 | pin (v : Value)
 deriving Inhabited
def canon (x : Nat) : Nat := if FloatKind.f64.format.order x x = none then 9221120237041090561 else x
def kid : TV → Nat × Nat → Option TV
 | .sl true _ es, s => (es[s.1]?).bind (·[s.2]?)
 | .po true cs, s => if s.1 = 0 then cs[s.2]? else none
 | _, _ => none
def down : TV → Path → Option TV
 | u, [] => some u
 | u, s :: r => (kid u s).bind (down · r)
def upk (φ : TV → TV) (s : Nat × Nat) : TV → TV
 | .sl true z es => .sl true z (es.modify s.1 (fun e => e.modify s.2 φ))
 | .po true cs => .po true (if s.1 = 0 then cs.modify s.2 φ else cs)
 | u => u
def modd (φ : TV → TV) : Path → TV → TV
 | [], u => φ u
 | s :: r, u => upk (modd φ r) s u
abbrev Hp := Nat → List TV
def cellAt (H : Hp) : Path → Option TV
 | [] => none
 | s :: r => ((H s.1)[s.2]?).bind (down · r)
def modH (H : Hp) (φ : TV → TV) : Path → Hp
 | [] => H
 | s :: r => fun id => if id = s.1 then (H id).modify s.2 (modd φ r) else H id
structure Keep (K : Nat → Nat → Prop) (w w' : World) : Prop where
 size : w.heap.size ≤ w'.heap.size
 cells : ∀ (b : Nat) (arr : Array Value) (T : TypeId) (fz : Nat × Nat), w.heap[b]? = some (.cells arr T fz) → ∃ arr', w'.heap[b]? = some (.cells arr' T fz) ∧ arr'.size = arr.size ∧ ∀ o, K b o → arr'[o]? = arr[o]?
 rest : ∀ (b : Nat) (o : Obj), w.heap[b]? = some o → (∀ (arr : Array Value) (T : TypeId) (fz : Nat × Nat), o ≠ Obj.cells arr T fz) → w'.heap[b]? = some o
theorem Keep.refl (K : Nat → Nat → Prop) (w : World) : Keep K w w := ⟨Nat.le_refl _, fun _ arr _ _ h => ⟨arr, h, rfl, fun _ _ => rfl⟩, fun _ _ h _ => h⟩
theorem Keep.mono {K K' : Nat → Nat → Prop} {w w' : World} (h : Keep K w w') (hk : ∀ b o, K' b o → K b o) : Keep K' w w' :=
 ⟨h.size, fun b arr T fz hb => let ⟨arr', h1, h2, h3⟩ := h.cells b arr T fz hb; ⟨arr', h1, h2, fun o ho => h3 o (hk b o ho)⟩, h.rest⟩
theorem Keep.trans {K K' : Nat → Nat → Prop} {a b c : World} (h : Keep K a b) (h' : Keep K' b c) : Keep (fun x o => K x o ∧ K' x o) a c := by
 refine ⟨Nat.le_trans h.size h'.size, fun x arr T fz hx => ?_, fun x o hx ho => h'.rest x o (h.rest x o hx ho) ho⟩
 obtain ⟨a1, h1, h2, h3⟩ := h.cells x arr T fz hx
 obtain ⟨a2, k1, k2, k3⟩ := h'.cells x a1 T fz h1
 exact ⟨a2, k1, k2.trans h2, fun o ho => (k3 o ho.2).trans (h3 o ho.1)⟩
structure Chg (S : Nat → Nat → Prop) (w w' : World) : Prop where
 os : w'.os = w.os
 tape : w'.tape = w.tape
 output : w'.output = w.output
 keep : Keep (fun b o => ¬ S b o) w w'
theorem Chg.refl (S : Nat → Nat → Prop) (w : World) : Chg S w w := ⟨rfl, rfl, rfl, .refl _ w⟩
theorem Chg.trans {S : Nat → Nat → Prop} {a b c : World} {S' : Nat → Nat → Prop} (h : Chg S a b) (h' : Chg S' b c) (hs : ∀ x o, S' x o → x < a.heap.size → S x o) : Chg S a c := by
 refine ⟨h'.os.trans h.os, h'.tape.trans h.tape, h'.output.trans h.output, ?_⟩
 refine ⟨Nat.le_trans h.keep.size h'.keep.size, fun x arr T fz hx => ?_, fun x o hx ho => h'.keep.rest x o (h.keep.rest x o hx ho) ho⟩
 have hlt : x < a.heap.size := by
  rcases Nat.lt_or_ge x a.heap.size with h | h
  ·exact h
  ·rw [Array.getElem?_eq_none h] at hx; cases hx
 obtain ⟨a1, h1, h2, h3⟩ := h.keep.cells x arr T fz hx
 obtain ⟨a2, k1, k2, k3⟩ := h'.keep.cells x a1 T fz h1
 exact ⟨a2, k1, k2.trans h2, fun o ho => (k3 o (fun hs' => ho (hs x o hs' hlt))).trans (h3 o ho)⟩
inductive RR (w : World) (A : Nat → Nat → Prop) : TV → Value → Prop
 | b (x : Bool) : RR w A (.b x) (.bool x)
 | i (k : IntKind) (n : Int) : RR w A (.i k n) (.int k n)
 | f (x : Nat) : RR w A (.f (canon x)) (.float .f64 x)
 | s (x : ByteArray) : RR w A (.s x) (.string x)
 | np : RR w A .np (.pointer none)
 | sl0 (z : Nat) : RR w A (.sl false z []) (.slice none 0 0)
 | sle (z c : Nat) (a : Addr) : RR w A (.sl false z []) (.slice (some a) 0 c)
 | sl (z n c B o : Nat) (es : List (List TV)) (arr : Array Value) (T : TypeId) (fz : Nat × Nat)
   (hl : es.length = n) (hn : n ≤ c) (hz : ∀ e ∈ es, e.length = z)
   (hb : w.heap[B]? = some (.cells arr T fz)) (hs : o + n * z ≤ arr.size)
   (hA : ∀ k, k < n * z → A B (o + k))
   (hc : ∀ (i f : Nat) (e : List TV) (u : TV), es[i]? = some e → e[f]? = some u → RR w A u ((arr[o + i * z + f]?).getD undef)) :
   RR w A (.sl false z es) (.slice (some ⟨B, o, none⟩) n c)
 | po (B o : Nat) (cs : List TV) (arr : Array Value) (T : TypeId) (fz : Nat × Nat)
   (hb : w.heap[B]? = some (.cells arr T fz)) (hs : o + cs.length ≤ arr.size)
   (hA : ∀ k, k < cs.length → A B (o + k))
   (hc : ∀ (f : Nat) (u : TV), cs[f]? = some u → RR w A u ((arr[o + f]?).getD undef)) :
   RR w A (.po false cs) (.pointer (some ⟨B, o, none⟩))
 | fn (g : FuncId) (caps : List TV) (capv : Array Value) (hl : caps.length = capv.size)
   (hc : ∀ (j : Nat) (u : TV), caps[j]? = some u → RR w A u ((capv[j]?).getD undef)) :
   RR w A (.fn g caps) (.func (.func g) #[] capv)
 | junk (v : Value) : RR w A .junk v
 | pin (v : Value) (h : v.oneCell' = true) : RR w A (.pin v) v
inductive TR (w : World) (κ : Path → Value) (γ : Nat → Nat → Option Path) (A : Nat → Nat → Prop) : Path → TV → Value → Prop
 | pure (p : Path) (u : TV) (v : Value) (h : RR w A u v) : TR w κ γ A p u v
 | sl0 (p : Path) (z : Nat) (hk : κ p = .slice none 0 0) : TR w κ γ A p (.sl true z []) (.slice none 0 0)
 | sl (p : Path) (z n c B o : Nat) (es : List (List TV)) (arr : Array Value) (T : TypeId)
   (hk : κ p = .slice (some ⟨B, o, none⟩) n c)
   (hl : es.length = n) (hn : n ≤ c) (hz : ∀ e ∈ es, e.length = z)
   (hb : w.heap[B]? = some (.cells arr T (0, 0))) (hs : o + c * z ≤ arr.size)
   (hg : ∀ k, k < c * z → γ B (o + k) = some p)
   (hc : ∀ (i f : Nat) (e : List TV) (u : TV), es[i]? = some e → e[f]? = some u → TR w κ γ A (p ++ [(i, f)]) u ((arr[o + i * z + f]?).getD undef)) :
   TR w κ γ A p (.sl true z es) (.slice (some ⟨B, o, none⟩) n c)
 | po (p : Path) (B o : Nat) (cs : List TV) (arr : Array Value) (T : TypeId)
   (hk : κ p = .pointer (some ⟨B, o, none⟩))
   (hb : w.heap[B]? = some (.cells arr T (0, 0))) (hs : o + cs.length ≤ arr.size)
   (hg : ∀ k, k < cs.length → γ B (o + k) = some p)
   (hc : ∀ (f : Nat) (u : TV), cs[f]? = some u → TR w κ γ A (p ++ [(0, f)]) u ((arr[o + f]?).getD undef)) :
   TR w κ γ A p (.po true cs) (.pointer (some ⟨B, o, none⟩))
def shape : TV → Option (Bool × Nat × Nat)
 | .sl true z es => some (true, z, es.length)
 | .po true cs => some (false, 0, cs.length)
 | _ => none
def shapeAt (H : Hp) (p : Path) : Option (Bool × Nat × Nat) := (cellAt H p).bind shape
inductive RV (w : World) (κ : Path → Value) (H : Hp) (A : Nat → Nat → Prop) : TV → Value → Prop
 | pure (u : TV) (v : Value) (h : RR w A u v) : RV w κ H A u v
 | nil (z : Nat) : RV w κ H A (.sl true z []) (.slice none 0 0)
 | rf0 (p : Path) (z off : Nat) (hk : κ p = .slice none 0 0) (hc : shapeAt H p = some (true, z, 0)) : RV w κ H A (.rf p off 0) (.slice none 0 0)
 | rf (p : Path) (z n c B o off len : Nat) (hk : κ p = .slice (some ⟨B, o, none⟩) n c)
   (hc : shapeAt H p = some (true, z, n)) (hb : off + len ≤ n) (hn : n ≤ c) :
   RV w κ H A (.rf p off len) (.slice (some ⟨B, o + off * z, none⟩) len (c - off))
 | rfE (p : Path) (z n c B o off o1 c1 : Nat) (hk : κ p = .slice (some ⟨B, o, none⟩) n c)
   (hc : shapeAt H p = some (true, z, n)) (h1 : o ≤ o1) (h2 : o1 + c1 * z ≤ o + c * z) (h3 : off ≠ 0) :
   RV w κ H A (.rf p off 0) (.slice (some ⟨B, o1, none⟩) 0 c1)
 | ptS (p : Path) (z n c B o i f : Nat) (hk : κ p = .slice (some ⟨B, o, none⟩) n c)
   (hc : shapeAt H p = some (true, z, n)) (hi : i < n) (hf : f ≤ z) :
   RV w κ H A (.pt p i f) (.pointer (some ⟨B, o + i * z + f, none⟩))
 | ptP (p : Path) (B o f n : Nat) (hk : κ p = .pointer (some ⟨B, o, none⟩))
   (hc : shapeAt H p = some (false, 0, n)) (hf : f ≤ n) :
   RV w κ H A (.pt p 0 f) (.pointer (some ⟨B, o + f, none⟩))
 | ag (cs : List TV) (vs : Array Value) (hl : cs.length = vs.size) (hc : ∀ (j : Nat) (u : TV), cs[j]? = some u → RV w κ H A u ((vs[j]?).getD undef)) : RV w κ H A (.ag cs) (.agg vs)
 | tu (cs : List TV) (vs : Array Value) (hl : cs.length = vs.size) (hc : ∀ (j : Nat) (u : TV), cs[j]? = some u → RV w κ H A u ((vs[j]?).getD undef)) : RV w κ H A (.tu cs) (.tuple vs)
 | fn (g : FuncId) (caps : List TV) (capv : Array Value) (hl : caps.length = capv.size)
   (hc : ∀ (j : Nat) (u : TV), caps[j]? = some u → RV w κ H A u ((capv[j]?).getD undef)) : RV w κ H A (.fn g caps) (.func (.func g) #[] capv)
end Go.Proofs.YtmedelmfkciblaaT


namespace Go.Proofs.YtmedelmfkciblaaT
set_option linter.unusedVariables false
set_option linter.unusedSimpArgs false
open Go
theorem ix_lt {i f z n : Nat} (hi : i < n) (hf : f < z) : i * z + f < n * z := by
 have h1 : (i + 1) * z ≤ n * z := Nat.mul_le_mul_right z hi
 rw [Nat.add_mul] at h1; omega
theorem ix_inj {i f i' f' z : Nat} (hf : f < z) (hf' : f' < z) (h : i * z + f = i' * z + f') : i = i' ∧ f = f' := by
 rcases Nat.lt_trichotomy i i' with h1 | h1 | h1
 ·have : (i + 1) * z ≤ i' * z := Nat.mul_le_mul_right z h1
  rw [Nat.add_mul] at this; omega
 ·subst h1; exact ⟨rfl, by omega⟩
 ·have : (i' + 1) * z ≤ i * z := Nat.mul_le_mul_right z h1
  rw [Nat.add_mul] at this; omega
theorem cell_lt {i f z n : Nat} {es : List (List TV)} {e : List TV} {u : TV} (hz : ∀ e ∈ es, e.length = z) (hl : es.length = n)
  (hi : es[i]? = some e) (hf : e[f]? = some u) : i < n ∧ f < z := by
 obtain ⟨h1, h2⟩ := List.getElem?_eq_some_iff.1 hi
 obtain ⟨h3, h4⟩ := List.getElem?_eq_some_iff.1 hf
 have := hz e (List.mem_of_getElem? hi)
 omega
section
variable {w w' : World} {A A' K : Nat → Nat → Prop}
theorem RR.keep {u : TV} {v : Value} (h : RR w A u v) (hk : Keep K w w') (hA : ∀ b o, A b o → K b o) (hA' : ∀ b o, A b o → A' b o) : RR w' A' u v := by
 induction h with
 | b x => exact .b x
 | i k n => exact .i k n
 | f x => exact .f x
 | s x => exact .s x
 | np => exact .np
 | sl0 z => exact .sl0 z
 | sle z c a => exact .sle z c a
 | junk v => exact .junk v
 | pin v h => exact .pin v h
 | fn g caps capv hl hc ih => exact .fn g caps capv hl ih
 | sl z n c B o es arr T fz hl hn hz hb hs ha hc ih =>
  obtain ⟨arr', h1, h2, h3⟩ := hk.cells B arr T fz hb
  refine .sl z n c B o es arr' T fz hl hn hz h1 (by omega) (fun k hk' => hA' _ _ (ha k hk')) fun i f e u hi hf => ?_
  obtain ⟨q1, q2⟩ := cell_lt hz hl hi hf
  have q3 := ix_lt q1 q2
  have := h3 (o + (i * z + f)) (hA _ _ (ha _ q3))
  rw [Nat.add_assoc, this, ← Nat.add_assoc]
  exact ih i f e u hi hf
 | po B o cs arr T fz hb hs ha hc ih =>
  obtain ⟨arr', h1, h2, h3⟩ := hk.cells B arr T fz hb
  refine .po B o cs arr' T fz h1 (by omega) (fun k hk' => hA' _ _ (ha k hk')) fun f u hf => ?_
  have := (List.getElem?_eq_some_iff.1 hf).1
  rw [h3 (o + f) (hA _ _ (ha _ this))]
  exact ih f u hf
theorem RR.nokid {u : TV} {v : Value} (h : RR w A u v) (s : Nat × Nat) : kid u s = none := by cases h <;> rfl
theorem RR.noshape {u : TV} {v : Value} (h : RR w A u v) : shape u = none := by cases h <;> rfl
variable {κ κ' : Path → Value} {γ γ' : Nat → Nat → Option Path}
theorem TR.ren {p : Path} {u : TV} {v : Value} (h : TR w κ γ A p u v) : ∀ (p' : Path),
  (∀ (r : Path) (nd : TV), down u r = some nd → (shape nd).isSome = true → κ' (p' ++ r) = κ (p ++ r) ∧ ∀ b o, γ b o = some (p ++ r) → γ' b o = some (p' ++ r) ∧ K b o) →
  Keep K w w' → (∀ b o, A b o → K b o) → (∀ b o, A b o → A' b o) → TR w' κ' γ' A' p' u v := by
 induction h with
 | pure p u v h => intro p' _ hk hA hA'; exact .pure p' u v (h.keep hk hA hA')
 | sl0 p z hk => intro p' hr _ _ _; exact .sl0 p' z (by have := (hr [] _ rfl rfl).1; simpa [hk] using this)
 | sl p z n c B o es arr T hk hl hn hz hb hs hg hc ih =>
  intro p' hr hkeep hA hA'
  obtain ⟨arr', h1, h2, h3⟩ := hkeep.cells B arr T (0, 0) hb
  have h0 := hr [] _ rfl rfl
  simp only [List.append_nil] at h0
  refine .sl p' z n c B o es arr' T (h0.1.trans hk) hl hn hz h1 (by omega) (fun k hk' => (h0.2 _ _ (hg k hk')).1) fun i f e u hi hf => ?_
  obtain ⟨q1, q2⟩ := cell_lt hz hl hi hf
  have q3 := ix_lt (n := c) (by omega : i < c) q2
  have := h3 (o + (i * z + f)) (h0.2 _ _ (hg _ q3)).2
  rw [Nat.add_assoc, this, ← Nat.add_assoc]
  refine ih i f e u hi hf (p' ++ [(i, f)]) (fun r nd hd hs' => ?_) hkeep hA hA'
  have := hr ((i, f) :: r) nd (by simp [down, kid, hi, hf, hd]) hs'
  simpa using this
 | po p B o cs arr T hk hb hs hg hc ih =>
  intro p' hr hkeep hA hA'
  obtain ⟨arr', h1, h2, h3⟩ := hkeep.cells B arr T (0, 0) hb
  have h0 := hr [] _ rfl rfl
  simp only [List.append_nil] at h0
  refine .po p' B o cs arr' T (h0.1.trans hk) h1 (by omega) (fun k hk' => (h0.2 _ _ (hg k hk')).1) fun f u hf => ?_
  have q := (List.getElem?_eq_some_iff.1 hf).1
  rw [h3 (o + f) (h0.2 _ _ (hg _ q)).2]
  refine ih f u hf (p' ++ [(0, f)]) (fun r nd hd hs' => ?_) hkeep hA hA'
  have := hr ((0, f) :: r) nd (by simp [down, kid, hf, hd]) hs'
  simpa using this
def cellAddr (k : Value) (nd : TV) (s : Nat × Nat) : Option (Nat × Nat) :=
 match nd, k with
 | .sl true z _, .slice (some a) _ _ => some (a.block, a.off + s.1 * z + s.2)
 | .po true _, .pointer (some a) => some (a.block, a.off + s.2)
 | _, _ => none
theorem TR.desc {p : Path} {u : TV} {v : Value} (h : TR w κ γ A p u v) : ∀ (r : Path) (u1 : TV), down u r = some u1 → ∃ v1, TR w κ γ A (p ++ r) u1 v1 := by
 induction h with
 | pure p u v h =>
  intro r u1 hd
  cases r with
  | nil => cases hd; exact ⟨v, by simpa using .pure p u v h⟩
  | cons s r => simp [down, h.nokid] at hd
 | sl0 p z hk =>
  intro r u1 hd
  cases r with
  | nil => cases hd; exact ⟨_, by simpa using .sl0 p z hk⟩
  | cons s r => simp [down, kid] at hd
 | sl p z n c B o es arr T hk hl hn hz hb hs hg hc ih =>
  intro r u1 hd
  cases r with
  | nil => cases hd; exact ⟨_, by simpa using .sl p z n c B o es arr T hk hl hn hz hb hs hg hc⟩
  | cons s r =>
   simp only [down, kid, Option.bind_eq_some_iff] at hd
   obtain ⟨u', ⟨e, he, hf⟩, hd⟩ := hd
   obtain ⟨v1, h1⟩ := ih s.1 s.2 e u' he hf r u1 hd
   exact ⟨v1, by simpa using h1⟩
 | po p B o cs arr T hk hb hs hg hc ih =>
  intro r u1 hd
  cases r with
  | nil => cases hd; exact ⟨_, by simpa using .po p B o cs arr T hk hb hs hg hc⟩
  | cons s r =>
   obtain ⟨i, f⟩ := s
   simp only [down, kid, Option.bind_eq_some_iff] at hd
   obtain ⟨u', hf, hd⟩ := hd
   split at hf
   ·rename_i h0
    cases h0
    obtain ⟨v1, h1⟩ := ih f u' hf r u1 hd
    exact ⟨v1, by simpa using h1⟩
   ·cases hf
theorem TR.cell {p : Path} {u u0 : TV} {v : Value} {s : Nat × Nat} (h : TR w κ γ A p u v) (hs : kid u s = some u0) :
  ∃ B off arr T, cellAddr (κ p) u s = some (B, off) ∧ γ B off = some p ∧ w.heap[B]? = some (.cells arr T (0, 0)) ∧ off < arr.size ∧
   TR w κ γ A (p ++ [s]) u0 ((arr[off]?).getD undef) := by
 cases h with
 | pure p u v h => simp [h.nokid] at hs
 | sl0 p z hk => simp [kid] at hs
 | sl p z n c B o es arr T hk hl hn hz hb hsz hg hc =>
  simp only [kid, Option.bind_eq_some_iff] at hs
  obtain ⟨e, he, hf⟩ := hs
  obtain ⟨q1, q2⟩ := cell_lt hz hl he hf
  have q3 := ix_lt (n := c) (by omega : s.1 < c) q2
  refine ⟨B, o + s.1 * z + s.2, arr, T, by simp [cellAddr, hk], ?_, hb, by omega, hc _ _ _ _ he hf⟩
  rw [Nat.add_assoc]; exact hg _ q3
 | po p B o cs arr T hk hb hsz hg hc =>
  obtain ⟨i, f⟩ := s
  simp only [kid] at hs
  split at hs
  ·rename_i h0
   cases h0
   have q := (List.getElem?_eq_some_iff.1 hs).1
   exact ⟨B, o + f, arr, T, by simp [cellAddr, hk], hg _ q, hb, by omega, hc _ _ hs⟩
  ·cases hs
theorem pre_ne {p : Path} {s s' : Nat × Nat} {r r' : Path} (h : s ≠ s') : ¬ (p ++ s :: r <+: p ++ s' :: r') := by
 intro hp
 rw [List.prefix_append_right_inj] at hp
 obtain ⟨t, ht⟩ := hp
 simp at ht
 exact h ht.1
theorem npre_snoc (p : Path) (s : Nat × Nat) (r : Path) : ¬ (p ++ s :: r <+: p) := by
 intro h
 have h1 := h.length_le
 simp only [List.length_append, List.length_cons] at h1
 omega
theorem TR.upk {p : Path} {u u1 : TV} {v : Value} {s : Nat × Nat} {φ : TV → TV} (h : TR w κ γ A p u v) (hkid : kid u s = some u1)
  (hκ : κ' p = κ p) (hγ : ∀ b o, γ b o = some p → γ' b o = some p) (hkeep : Keep K w w')
  (hK : ∀ b o, γ b o = some p → cellAddr (κ p) u s ≠ some (b, o) → K b o)
  (hnew : ∀ B off arr arr' T, cellAddr (κ p) u s = some (B, off) → w.heap[B]? = some (.cells arr T (0, 0)) → w'.heap[B]? = some (.cells arr' T (0, 0)) → γ B off = some p →
   (K B off → arr'[off]? = arr[off]?) → TR w κ γ A (p ++ [s]) u1 ((arr[off]?).getD undef) → TR w' κ' γ' A' (p ++ [s]) (φ u1) ((arr'[off]?).getD undef))
  (hother : ∀ s2 u2 v2, s2 ≠ s → kid u s2 = some u2 → TR w κ γ A (p ++ [s2]) u2 v2 → TR w' κ' γ' A' (p ++ [s2]) u2 v2) :
  TR w' κ' γ' A' p (upk φ s u) v := by
 cases h with
 | pure p u v h => simp [h.nokid] at hkid
 | sl0 p z hk => simp [kid] at hkid
 | sl p z n c B o es arr T hk hl hn hz hb hsz hg hc =>
  obtain ⟨i, f⟩ := s
  simp only [kid, Option.bind_eq_some_iff] at hkid
  obtain ⟨e0, he0, hf0⟩ := hkid
  obtain ⟨q1, q2⟩ := cell_lt hz hl he0 hf0
  obtain ⟨arr', h1, h2, h3⟩ := hkeep.cells B arr T (0, 0) hb
  have hca : cellAddr (κ p) (.sl true z es) (i, f) = some (B, o + i * z + f) := by simp [cellAddr, hk]
  refine .sl p z n c B o _ arr' T (hκ.trans hk) (by simpa using hl) hn ?_ h1 (by omega) (fun k hk' => hγ _ _ (hg k hk')) ?_
  ·intro e he
   obtain ⟨j, hj⟩ := List.getElem?_of_mem he
   rw [List.getElem?_modify] at hj
   cases hes : es[j]? with
   | none => simp [hes] at hj
   | some e1 =>
    have := hz e1 (List.mem_of_getElem? hes)
    simp only [hes, Option.map_eq_map, Option.map_some, Option.some.injEq] at hj
    split at hj <;> subst hj <;> simpa using this
  ·intro i' f' e u he hf
   rw [List.getElem?_modify] at he
   cases hes : es[i']? with
   | none => simp [hes] at he
   | some e1 =>
    simp only [hes, Option.map_eq_map, Option.map_some, Option.some.injEq] at he
    have old : ∀ u, e1[f']? = some u → (i', f') ≠ (i, f) → TR w' κ' γ' A' (p ++ [(i', f')]) u ((arr'[o + i' * z + f']?).getD undef) := by
     intro u hu hne
     obtain ⟨q1', q2'⟩ := cell_lt hz hl hes hu
     have q3 := ix_lt (n := c) (by omega : i' < c) q2'
     have hne2 : o + i' * z + f' ≠ o + i * z + f := by
      intro heq
      obtain ⟨x1, x2⟩ := ix_inj q2' q2 (by omega : i' * z + f' = i * z + f)
      exact hne (by rw [x1, x2])
     have := h3 (o + i' * z + f') (hK _ _ (by rw [Nat.add_assoc]; exact hg _ q3) (by rw [hca]; simp; omega))
     rw [this]
     exact hother _ _ _ hne (by simp [kid, hes, hu]) (hc i' f' e1 u hes hu)
    split at he
    ·rename_i hii
     subst hii; subst he
     rw [List.getElem?_modify] at hf
     split at hf
     ·rename_i hff
      subst hff
      rw [he0] at hes; cases hes
      rw [hf0] at hf; simp at hf; subst hf
      have q3 := ix_lt (n := c) (by omega : i < c) q2
      exact hnew _ _ _ _ _ hca hb h1 (by rw [Nat.add_assoc]; exact hg _ q3) (h3 _) (hc _ _ _ _ he0 hf0)
     ·rename_i hff
      exact old u (by simpa using hf) (by simp; omega)
    ·rename_i hii
     subst he
     exact old u hf (by simp; omega)
 | po p B o cs arr T hk hb hsz hg hc =>
  obtain ⟨i, f⟩ := s
  simp only [kid] at hkid
  split at hkid
  case isFalse => cases hkid
  rename_i h0
  cases h0
  have q1 := (List.getElem?_eq_some_iff.1 hkid).1
  have hca : cellAddr (κ p) (.po true cs) (0, f) = some (B, o + f) := by simp [cellAddr, hk]
  obtain ⟨arr', h1, h2, h3⟩ := hkeep.cells B arr T (0, 0) hb
  simp only [Go.Proofs.YtmedelmfkciblaaT.upk, if_true]
  refine .po p B o _ arr' T (hκ.trans hk) h1 (by simp; omega) (fun k hk' => hγ _ _ (hg k (by simpa using hk'))) ?_
  intro f' u hf
  rw [List.getElem?_modify] at hf
  split at hf
  ·rename_i hff
   subst hff
   rw [hkid] at hf; simp at hf; subst hf
   exact hnew _ _ _ _ _ hca hb h1 (hg _ q1) (h3 _) (hc _ _ hkid)
  ·rename_i hff
   have hu : cs[f']? = some u := by simpa using hf
   have q := (List.getElem?_eq_some_iff.1 hu).1
   have := h3 (o + f') (hK _ _ (hg _ q) (by rw [hca]; simp; omega))
   rw [this]
   exact hother _ _ _ (by simp; omega) (by simp [kid, hu]) (hc f' u hu)
theorem TR.repl {t pn : Path} {s : Nat × Nat} {nd u0 u' : TV} {B off : Nat} (ht : t = pn ++ [s]) (hkid : kid nd s = some u0)
  (hca : cellAddr (κ pn) nd s = some (B, off)) (hgc : γ B off = some pn)
  (hκ : ∀ q, ¬ t <+: q → κ' q = κ q)
  (hγ : ∀ b o q, γ b o = some q → ¬ t <+: q → (b, o) ≠ (B, off) → K b o)
  (hkeep : Keep K w w') (hA : ∀ b o, A b o → K b o) (hA' : ∀ b o, A b o → A' b o)
  (hx : ∀ arr T, w'.heap[B]? = some (.cells arr T (0, 0)) → TR w' κ' γ' A' t u' ((arr[off]?).getD undef)) :
  ∀ (r0 : Path) (p : Path) (u : TV) (v : Value), p ++ r0 = pn → TR w κ γ A p u v → down u r0 = some nd →
   (∀ (r : Path) (x : TV), down u r = some x → (shape x).isSome = true → ¬ t <+: p ++ r → ∀ b o, γ b o = some (p ++ r) → γ' b o = some (p ++ r)) →
   TR w' κ' γ' A' p (modd (fun _ => u') (r0 ++ [s]) u) v := by
 have other : ∀ (p r1 : Path) (s1 s2 : Nat × Nat) (u u2 : TV) (v2 : Value), p ++ s1 :: r1 = t → p ++ s1 :: r1 ≠ pn → s2 ≠ s1 → kid u s2 = some u2 →
   (∀ (r : Path) (x : TV), down u r = some x → (shape x).isSome = true → ¬ t <+: p ++ r → ∀ b o, γ b o = some (p ++ r) → γ' b o = some (p ++ r)) →
   TR w κ γ A (p ++ [s2]) u2 v2 → TR w' κ' γ' A' (p ++ [s2]) u2 v2 := by
  intro p r1 s1 s2 u u2 v2 htp hpn hne hk2 hg' h2
  refine h2.ren _ (fun r nd' hd' hs' => ?_) hkeep hA hA'
  have hn1 : ¬ t <+: p ++ [s2] ++ r := by rw [← htp]; simpa using pre_ne (p := p) (r := r1) (r' := r) (Ne.symm hne)
  refine ⟨hκ _ hn1, fun b o' hb' => ⟨?_, ?_⟩⟩
  ·have := hg' (s2 :: r) nd' (by simp [down, hk2, hd']) hs' (by simpa using hn1) b o' (by simpa using hb')
   simpa using this
  ·refine hγ _ _ _ hb' hn1 ?_
   intro hh
   simp only [Prod.mk.injEq] at hh
   obtain ⟨rfl, rfl⟩ := hh
   rw [hgc] at hb'
   simp only [Option.some.injEq] at hb'
   subst hb'
   rw [ht] at htp
   cases r1 with
   | nil =>
    have := congrArg List.length htp
    simp at this
   | cons a r1 =>
    have h3 : p ++ s1 :: a :: r1 = p ++ s2 :: (r ++ [s]) := by simpa using htp
    simp at h3
    exact hne h3.1.symm
 intro r0
 induction r0 with
 | nil =>
  intro p u v hp h hd hg'
  simp only [List.append_nil] at hp; subst hp
  cases hd
  have hnt : ¬ t <+: p := by subst ht; exact npre_snoc _ _ _
  have hroot := hg' [] _ rfl (by cases h <;> first | rfl | (rename_i hh; simp [hh.nokid] at hkid)) (by simpa using hnt)
  simp only [List.append_nil] at hroot
  simp only [modd, List.nil_append]
  refine h.upk hkid (hκ _ hnt) (fun b o hb => hroot b o hb) hkeep (fun b o hb hne => hγ _ _ _ hb hnt ?_) ?_ ?_
  ·rintro hh; rw [hca] at hne; simp only [Prod.mk.injEq] at hh; exact hne (by rw [hh.1, hh.2])
  ·intro B1 off1 arr arr' T h1 h2 h3 h4 h5 h6
   rw [hca] at h1; simp only [Option.some.injEq, Prod.mk.injEq] at h1
   obtain ⟨rfl, rfl⟩ := h1
   rw [← ht]; exact hx _ _ h3
  ·intro s2 u2 v2 hne hk2 h2
   exact other p [] s s2 _ u2 v2 ht.symm (by intro hh; have := congrArg List.length hh; simp at this) hne hk2 hg' h2
 | cons s1 r1 ih =>
  intro p u v hp h hd hg'
  simp only [down, Option.bind_eq_some_iff] at hd
  obtain ⟨u1, hk1, hd1⟩ := hd
  have htp : p ++ s1 :: (r1 ++ [s]) = t := by subst ht; subst hp; simp
  have hnt : ¬ t <+: p := by rw [← htp]; exact npre_snoc _ _ _
  have hpn : pn ≠ p := by subst hp; intro hh; have := congrArg List.length hh; simp at this
  have hroot := hg' [] _ rfl (by cases h <;> first | rfl | (rename_i hh; simp [hh.nokid] at hk1)) (by simpa using hnt)
  simp only [List.append_nil] at hroot
  simp only [modd, List.cons_append]
  have notc : ∀ b o, γ b o = some p → K b o := fun b o hb => hγ _ _ _ hb hnt (by
   intro hh
   simp only [Prod.mk.injEq] at hh
   obtain ⟨rfl, rfl⟩ := hh
   rw [hgc] at hb; cases hb; exact hpn rfl)
  refine h.upk hk1 (hκ _ hnt) (fun b o hb => hroot b o hb) hkeep (fun b o hb _ => notc b o hb) ?_ ?_
  ·intro B1 off1 arr arr' T h1 h2 h3 h4 h5 h6
   rw [h5 (notc _ _ h4)]
   exact ih (p ++ [s1]) u1 _ (by simpa using hp) h6 hd1 (fun r x hx1 hs' hn' b o hb => by
    have := hg' (s1 :: r) x (by simp [down, hk1, hx1]) hs' (by simpa using hn') b o (by simpa using hb)
    simpa using this)
  ·intro s2 u2 v2 hne hk2 h2
   exact other p (r1 ++ [s]) s1 s2 u u2 v2 htp (by subst hp; intro hh; have := congrArg List.length hh; simp at this) hne hk2 hg' h2
end
end Go.Proofs.YtmedelmfkciblaaT


namespace Go.Proofs.YtmedelmfkciblaaT
set_option linter.unusedVariables false
set_option linter.unusedSimpArgs false
open Go
structure HR (w0 : World) (S0 A : Nat → Nat → Prop) (w : World) (κ : Path → Value) (γ : Nat → Nat → Option Path) (H : Hp) : Prop where
 root : ∀ (s : Nat × Nat) (u : TV), (H s.1)[s.2]? = some u → TR w κ γ A [s] u (κ [s])
 own : ∀ b o q, γ b o = some q → b < w.heap.size ∧ (S0 b o ∨ w0.heap.size ≤ b)
 old : ∀ b o, A b o → b < w0.heap.size ∧ ¬ S0 b o
 chg : Chg S0 w0 w
def Live (H : Hp) (q : Path) : Prop := ∃ x, cellAt H q = some x ∧ (shape x).isSome = true
section
variable {w0 w w' : World} {S0 A K : Nat → Nat → Prop} {κ κ' : Path → Value} {γ γ' : Nat → Nat → Option Path} {H : Hp}
theorem down_append (u : TV) (p q : Path) : down u (p ++ q) = (down u p).bind (down · q) := by
 induction p generalizing u with
 | nil => rfl
 | cons s p ih =>
  simp only [List.cons_append, down]
  cases kid u s with
  | none => rfl
  | some u1 => exact ih u1
theorem cellAt_append (p q : Path) (hp : p ≠ []) : cellAt H (p ++ q) = (cellAt H p).bind (down · q) := by
 cases p with
 | nil => exact absurd rfl hp
 | cons s p =>
  simp only [List.cons_append, cellAt]
  cases (H s.1)[s.2]? with
  | none => rfl
  | some u => exact down_append u p q
theorem cellAt_snoc (p : Path) (s : Nat × Nat) (hp : p ≠ []) : cellAt H (p ++ [s]) = (cellAt H p).bind (kid · s) := by
 rw [cellAt_append p [s] hp]
 cases cellAt H p with
 | none => rfl
 | some x => simp [down]
theorem HR.at (h : HR w0 S0 A w κ γ H) {p : Path} {u : TV} (hp : cellAt H p = some u) : ∃ v, TR w κ γ A p u v := by
 cases p with
 | nil => cases hp
 | cons s r =>
  simp only [cellAt, Option.bind_eq_some_iff] at hp
  obtain ⟨u0, h0, h1⟩ := hp
  obtain ⟨v, hv⟩ := (h.root s u0 h0).desc r u h1
  exact ⟨v, by simpa using hv⟩
theorem HR.cell (h : HR w0 S0 A w κ γ H) {pn : Path} {nd u0 : TV} {s : Nat × Nat} (hp : cellAt H pn = some nd) (hk : kid nd s = some u0) :
  ∃ B off arr T, cellAddr (κ pn) nd s = some (B, off) ∧ γ B off = some pn ∧ w.heap[B]? = some (.cells arr T (0, 0)) ∧ off < arr.size ∧
   TR w κ γ A (pn ++ [s]) u0 ((arr[off]?).getD undef) := by
 obtain ⟨v, hv⟩ := h.at hp
 exact hv.cell hk
theorem HR.notA (h : HR w0 S0 A w κ γ H) {b o : Nat} {q : Path} (hg : γ b o = some q) : ¬ A b o := by
 intro ha
 obtain ⟨h1, h2⟩ := h.old b o ha
 rcases (h.own b o q hg).2 with h3 | h3
 ·exact h2 h3
 ·omega
theorem HR.root_keep (h : HR w0 S0 A w κ γ H) {s : Nat × Nat} {u : TV} (hu : (H s.1)[s.2]? = some u)
  (hl : ∀ q, [s] <+: q → Live H q → κ' q = κ q ∧ ∀ b o, γ b o = some q → γ' b o = some q ∧ K b o)
  (hkeep : Keep K w w') (hA : ∀ b o, A b o → K b o) : TR w' κ' γ' A [s] u (κ [s]) := by
 refine (h.root s u hu).ren [s] (fun r nd hd hs => ?_) hkeep hA (fun _ _ h => h)
 exact hl ([s] ++ r) (List.prefix_append _ _) ⟨nd, by simp [cellAt, hu, hd], hs⟩
theorem HR.setroot (h : HR w0 S0 A w κ γ H) (id : Nat) (cells : List TV)
  (hl : ∀ q, (∀ j r, q ≠ (id, j) :: r) → Live H q → κ' q = κ q ∧ ∀ b o, γ b o = some q → γ' b o = some q ∧ K b o)
  (hκr : ∀ s : Nat × Nat, s.1 ≠ id → κ' [s] = κ [s])
  (hkeep : Keep K w w') (hA : ∀ b o, A b o → K b o)
  (hown : ∀ b o q, γ' b o = some q → b < w'.heap.size ∧ (S0 b o ∨ w0.heap.size ≤ b))
  (hchg : Chg S0 w0 w')
  (hnew : ∀ j u, cells[j]? = some u → TR w' κ' γ' A [(id, j)] u (κ' [(id, j)])) :
  HR w0 S0 A w' κ' γ' (fun x => if x = id then cells else H x) := by
 refine ⟨?_, hown, h.old, hchg⟩
 intro s u hu
 obtain ⟨i, j⟩ := s
 by_cases hi : i = id
 ·subst hi
  simp only [if_true] at hu
  exact hnew j u hu
 ·simp only [hi, if_false] at hu
  rw [hκr _ hi]
  refine h.root_keep hu (fun q hq hlq => hl q ?_ hlq) hkeep hA
  rintro j' r rfl
  obtain ⟨t, ht⟩ := hq
  simp at ht
  exact hi ht.1.1
theorem modH_get (φ : TV → TV) (s0 : Nat × Nat) (r : Path) (s : Nat × Nat) :
  (modH H φ (s0 :: r) s.1)[s.2]? = if s = s0 then ((H s.1)[s.2]?).map (modd φ r) else (H s.1)[s.2]? := by
 obtain ⟨i, j⟩ := s
 obtain ⟨i0, j0⟩ := s0
 simp only [modH]
 by_cases hi : i = i0
 ·subst hi
  simp only [if_true]
  rw [List.getElem?_modify]
  by_cases hj : j0 = j
  ·subst hj; simp
  ·simp [hj, Ne.symm hj]
 ·simp [hi]
theorem HR.repl (h : HR w0 S0 A w κ γ H) {pn : Path} {nd u0 u' : TV} {s : Nat × Nat} {B off : Nat} (hp : cellAt H pn = some nd) (hk : kid nd s = some u0)
  (hca : cellAddr (κ pn) nd s = some (B, off)) (hgc : γ B off = some pn)
  (hκ : ∀ q, ¬ pn ++ [s] <+: q → κ' q = κ q)
  (hγ : ∀ b o q, γ b o = some q → ¬ pn ++ [s] <+: q → (b, o) ≠ (B, off) → K b o)
  (hγ' : ∀ q, Live H q → ¬ pn ++ [s] <+: q → ∀ b o, γ b o = some q → γ' b o = some q)
  (hkeep : Keep K w w') (hA : ∀ b o, A b o → K b o)
  (hown : ∀ b o q, γ' b o = some q → b < w'.heap.size ∧ (S0 b o ∨ w0.heap.size ≤ b))
  (hchg : Chg S0 w0 w')
  (hx : ∀ arr T, w'.heap[B]? = some (.cells arr T (0, 0)) → TR w' κ' γ' A (pn ++ [s]) u' ((arr[off]?).getD undef)) :
  HR w0 S0 A w' κ' γ' (modH H (fun _ => u') (pn ++ [s])) := by
 refine ⟨?_, hown, h.old, hchg⟩
 intro s1 u hu
 cases pn with
 | nil => cases hp
 | cons s0 r0 =>
  have hroot : ∀ s1 : Nat × Nat, κ' [s1] = κ [s1] := fun s1 => hκ _ (by
   intro hh
   have := hh.length_le
   simp at this)
  rw [hroot]
  rw [List.cons_append, modH_get] at hu
  simp only [cellAt, Option.bind_eq_some_iff] at hp
  obtain ⟨ur, hur, hd⟩ := hp
  split at hu
  ·rename_i hs
   subst hs
   rw [hur] at hu
   simp only [Option.map_some, Option.some.injEq] at hu
   subst hu
   refine TR.repl (t := s1 :: r0 ++ [s]) rfl hk hca hgc hκ hγ hkeep hA (fun _ _ h => h) hx r0 [s1] ur _ rfl (h.root _ _ hur) hd ?_
   intro r x hd' hs' hn b o hb
   exact hγ' _ ⟨x, by simp [cellAt, hur, hd'], hs'⟩ hn b o hb
  ·rename_i hs
   refine h.root_keep hu (fun q hq hlq => ?_) hkeep hA
   have hn : ¬ s0 :: r0 ++ [s] <+: q := by
    obtain ⟨t, rfl⟩ := hq
    intro hh
    obtain ⟨t', ht'⟩ := hh
    simp at ht'
    exact hs ht'.1.symm
   refine ⟨hκ _ hn, fun b o hb => ⟨hγ' q hlq hn b o hb, hγ b o q hb hn ?_⟩⟩
   intro hh
   simp only [Prod.mk.injEq] at hh
   obtain ⟨rfl, rfl⟩ := hh
   rw [hgc] at hb
   cases hb
   obtain ⟨t, ht⟩ := hq
   simp at ht
   exact hs ht.1
def rnm (ps t : Path) (off : Nat) (q : Path) : Path :=
 if ps <+: q then
  match q.drop ps.length with
  | [] => t
  | s :: r => t ++ (s.1 - off, s.2) :: r
 else q
theorem rnm_self (ps t : Path) (off : Nat) : rnm ps t off ps = t := by simp [rnm]
theorem rnm_under (ps t : Path) (off : Nat) (s : Nat × Nat) (r : Path) : rnm ps t off (ps ++ s :: r) = t ++ (s.1 - off, s.2) :: r := by simp [rnm]
theorem rnm_not (ps t : Path) (off : Nat) (q : Path) (h : ¬ ps <+: q) : rnm ps t off q = q := by simp [rnm, h]
def cutU (off len : Nat) : TV → TV
 | .sl true z es => .sl true z ((es.drop off).take len)
 | u => u
def cutV (z off len : Nat) : Value → Value
 | .slice (some a) _ c => .slice (some ⟨a.block, a.off + off * z, none⟩) len (c - off)
 | v => v
def mvκ (κ : Path → Value) (ps t : Path) (off : Nat) (v : Value) (q : Path) : Value :=
 if t <+: q then
  match q.drop t.length with
  | [] => v
  | s :: r => κ (ps ++ (s.1 + off, s.2) :: r)
 else κ q
theorem mvκ_self {ps t : Path} {off : Nat} {v : Value} : mvκ κ ps t off v t = v := by simp [mvκ]
theorem mvκ_under {ps t : Path} {off : Nat} {v : Value} (s : Nat × Nat) (r : Path) : mvκ κ ps t off v (t ++ s :: r) = κ (ps ++ (s.1 + off, s.2) :: r) := by simp [mvκ]
theorem mvκ_not {ps t : Path} {off : Nat} {v : Value} (q : Path) (h : ¬ t <+: q) : mvκ κ ps t off v q = κ q := by simp [mvκ, h]
theorem TR.move {ps t : Path} {z off len : Nat} {es : List (List TV)} {v : Value} (h : TR w κ γ A ps (.sl true z es) v) (hl : off + len ≤ es.length) :
  TR w (mvκ κ ps t off (cutV z off len v)) (fun b o => (γ b o).map (rnm ps t off)) A t (cutU off len (.sl true z es)) (cutV z off len v) := by
 cases h with
 | pure p u v h => cases h
 | sl0 p z hk =>
  have h1 : off = 0 := by simp at hl; omega
  have h2 : len = 0 := by simp at hl; omega
  subst h1; subst h2
  exact .sl0 t z (by simp [mvκ_self, cutV])
 | sl p z n c B o es arr T hk hln hn hz hb hs hg hc =>
  simp only [cutU, cutV]
  have hsz : (o + off * z) + (c - off) * z ≤ arr.size := by
   have : off * z + (c - off) * z = c * z := by rw [← Nat.add_mul]; congr 1; omega
   omega
  refine .sl t z len (c - off) B (o + off * z) _ arr T mvκ_self (by simp; omega) (by omega) (fun e he => hz e (List.mem_of_mem_drop (List.mem_of_mem_take he))) hb hsz ?_ ?_
  ·intro k hk'
   have : off * z + k < c * z := by
    have : off * z + (c - off) * z = c * z := by rw [← Nat.add_mul]; congr 1; omega
    omega
   rw [Nat.add_assoc, hg _ this]
   simp [rnm_self]
  ·intro i f e u he hf
   rw [List.getElem?_take] at he
   split at he
   case isFalse => cases he
   rw [List.getElem?_drop] at he
   have hch := hc _ _ _ _ he hf
   have : o + (off + i) * z + f = o + off * z + i * z + f := by rw [Nat.add_mul]; omega
   rw [this] at hch
   refine hch.ren (K := fun _ _ => True) _ (fun r nd hd hs' => ⟨?_, fun b o' hb' => ⟨?_, trivial⟩⟩) (Keep.refl _ w) (fun _ _ _ => trivial) (fun _ _ h => h)
   ·have := mvκ_under (κ := κ) (ps := ps) (t := t) (off := off) (v := Value.slice (some ⟨B, o + off * z, none⟩) len (c - off)) (i, f) r
    simpa [Nat.add_comm] using this
   ·rw [hb']
    have := rnm_under ps t off (off + i, f) r
    simpa using this
theorem cellAt_root (s : Nat × Nat) : cellAt H [s] = (H s.1)[s.2]? := by
 simp only [cellAt]
 cases (H s.1)[s.2]? <;> rfl
theorem HR.junk (h : HR w0 S0 A w κ γ H) {t : Path} {u0 : TV} (ht : cellAt H t = some u0) : HR w0 S0 A w κ γ (modH H (fun _ => .junk) t) := by
 rcases List.eq_nil_or_concat t with rfl | ⟨pn, s, rfl⟩
 ·cases ht
 ·rw [List.concat_eq_append] at ht ⊢
  cases pn with
  | nil =>
   refine ⟨?_, h.own, h.old, h.chg⟩
   intro s1 u hu
   rw [List.nil_append, modH_get] at hu
   split at hu
   ·rename_i hs
    subst hs
    cases hc : (H s1.1)[s1.2]? with
    | none => simp [hc] at hu
    | some x =>
     simp only [hc, Option.map_some, modd, Option.some.injEq] at hu
     subst hu
     exact .pure _ _ _ (.junk _)
   ·exact h.root _ _ hu
  | cons s0 r =>
   rw [cellAt_snoc _ _ (by simp)] at ht
   simp only [Option.bind_eq_some_iff] at ht
   obtain ⟨nd, h1, h2⟩ := ht
   obtain ⟨B, off, arr, T, c1, c2, c3, c4, c5⟩ := h.cell h1 h2
   refine h.repl (K := fun _ _ => True) h1 h2 c1 c2 (fun _ _ => rfl) (fun _ _ _ _ _ _ => trivial) (fun _ _ _ _ _ hb => hb) (Keep.refl _ w) (fun _ _ _ => trivial) h.own h.chg ?_
   intro arr' T' _
   exact .pure _ _ _ (.junk _)
theorem HR.fill (h : HR w0 S0 A w κ γ H) {ps pn : Path} {s : Nat × Nat} {nd u u' : TV} {x : Value} {o1 : Nat}
  (hp : cellAt H pn = some nd) (hk : kid nd s = some u)
  (hdet : ∀ q, Live H q → ¬ ps <+: q)
  (hT : TR w (mvκ κ ps (pn ++ [s]) o1 x) (fun b o => (γ b o).map (rnm ps (pn ++ [s]) o1)) A (pn ++ [s]) u' x)
  (hx : ∀ B off arr T, cellAddr (κ pn) nd s = some (B, off) → w.heap[B]? = some (.cells arr T (0, 0)) → (arr[off]?).getD undef = x) :
  HR w0 S0 A w (mvκ κ ps (pn ++ [s]) o1 x) (fun b o => (γ b o).map (rnm ps (pn ++ [s]) o1)) (modH H (fun _ => u') (pn ++ [s])) := by
 obtain ⟨B, off, arr, T, c1, c2, c3, c4, c5⟩ := h.cell hp hk
 refine h.repl (K := fun _ _ => True) hp hk c1 c2 (fun q hq => mvκ_not q hq) (fun _ _ _ _ _ _ => trivial) (fun q hl hq b o hb => ?_) (Keep.refl _ w) (fun _ _ _ => trivial) ?_ h.chg ?_
 ·rw [hb]; simp [rnm_not _ _ _ _ (hdet q hl)]
 ·intro b o q hb
  cases hg : γ b o with
  | none => simp [hg] at hb
  | some q0 => exact h.own b o q0 hg
 ·intro arr' T' hb
  rw [hx B off arr' T' c1 hb]
  exact hT
theorem HR.push (h : HR w0 S0 A w κ γ H) {ps : Path} {u' : TV} {x : Value} {o1 id : Nat}
  (hdet : ∀ q, Live H q → ¬ ps <+: q)
  (hT : TR w (mvκ κ ps [(id, (H id).length)] o1 x) (fun b o => (γ b o).map (rnm ps [(id, (H id).length)] o1)) A [(id, (H id).length)] u' x) :
  HR w0 S0 A w (mvκ κ ps [(id, (H id).length)] o1 x) (fun b o => (γ b o).map (rnm ps [(id, (H id).length)] o1)) (fun y => if y = id then H id ++ [u'] else H y) := by
 have kept : ∀ q, ¬ [(id, (H id).length)] <+: q → Live H q → mvκ κ ps [(id, (H id).length)] o1 x q = κ q ∧
   ∀ b o, γ b o = some q → (γ b o).map (rnm ps [(id, (H id).length)] o1) = some q ∧ True := by
  intro q hq hl
  refine ⟨mvκ_not q hq, fun b o hb => ⟨?_, trivial⟩⟩
  rw [hb]; simp [rnm_not _ _ _ _ (hdet q hl)]
 have nlast : ∀ j, j < (H id).length → ∀ q, [(id, j)] <+: q → ¬ [(id, (H id).length)] <+: q := by
  rintro j hj q ⟨t, rfl⟩ ⟨t', ht'⟩
  simp at ht'
  omega
 refine h.setroot id _ (K := fun _ _ => True) (fun q hq hl => ?_) (fun s hs => mvκ_not _ ?_) (Keep.refl _ w) (fun _ _ _ => trivial) ?_ h.chg ?_
 ·refine kept q ?_ hl
  rintro ⟨t, rfl⟩
  exact hq _ _ rfl
 ·rintro ⟨t, ht⟩
  simp at ht
  exact hs (by rw [← ht.1])
 ·intro b o q hb
  cases hg : γ b o with
  | none => simp [hg] at hb
  | some q0 => exact h.own b o q0 hg
 ·intro j u hu
  rcases Nat.lt_or_ge j (H id).length with hj | hj
  ·rw [List.getElem?_append_left hj] at hu
   have hne := nlast j hj [(id, j)] (List.prefix_refl _)
   rw [mvκ_not _ hne]
   exact h.root_keep (s := (id, j)) hu (fun q hq hl => kept q (nlast j hj q hq) hl) (Keep.refl (fun _ _ => True) w) (fun _ _ _ => trivial)
  ·rw [List.getElem?_append_right hj] at hu
   have : j = (H id).length := by
    cases hjj : j - (H id).length with
    | zero => omega
    | succ n => rw [hjj] at hu; simp at hu
   subst this
   simp only [Nat.sub_self, List.getElem?_cons_zero, Option.some.injEq] at hu
   subst hu
   rw [mvκ_self]
   exact hT
theorem live_junk {ps : Path} {u0 : TV} (ht : cellAt H ps = some u0) : ∀ q, Live (modH H (fun _ => .junk) ps) q → ¬ ps <+: q := by
 rintro q ⟨x, hx, hs⟩ ⟨r, rfl⟩
 have key : ∀ (r1 : Path) (u : TV) (u1 : TV), down u r1 = some u1 → down (modd (fun _ => .junk) r1 u) r1 = some .junk := by
  intro r1
  induction r1 with
  | nil => intro u u1 _; rfl
  | cons s r1 ih =>
   intro u u1 hd
   simp only [down, Option.bind_eq_some_iff] at hd
   obtain ⟨u2, h2, h3⟩ := hd
   have := ih u2 u1 h3
   have hkid : kid (modd (fun _ => .junk) (s :: r1) u) s = some (modd (fun _ => .junk) r1 u2) := by
    cases u with
    | sl own z es =>
     cases own with
     | false => simp [kid] at h2
     | true =>
      simp only [kid, Option.bind_eq_some_iff] at h2
      obtain ⟨e, he, hf⟩ := h2
      simp [modd, upk, kid, he, hf]
    | po own cs =>
     cases own with
     | false => simp [kid] at h2
     | true =>
      simp only [kid] at h2
      split at h2
      ·rename_i h0; simp [modd, upk, kid, h0, h2]
      ·cases h2
    | _ => simp [kid] at h2
   simp [down, hkid, this]
 have hj : cellAt (modH H (fun _ => .junk) ps) ps = some .junk := by
  cases ps with
  | nil => cases ht
  | cons s r1 =>
   simp only [cellAt, Option.bind_eq_some_iff] at ht
   obtain ⟨u, h1, h2⟩ := ht
   simp only [cellAt]
   rw [modH_get]
   simp [h1, key r1 u u0 h2]
 have hne : ps ≠ [] := by rintro rfl; cases ht
 rw [cellAt_append ps r hne, hj] at hx
 cases r with
 | nil => simp [down] at hx; subst hx; cases hs
 | cons s r => simp [down, kid] at hx
end
end Go.Proofs.YtmedelmfkciblaaT


namespace Go.Proofs.YtmedelmfkciblaaT
set_option linter.unusedVariables false
set_option linter.unusedSimpArgs false
open Go
section
theorem shape_upk (φ : TV → TV) (s : Nat × Nat) (u : TV) : shape (upk φ s u) = shape u := by
 cases u with
 | sl own z es => cases own <;> simp [upk, shape]
 | po own cs =>
  cases own
  ·rfl
  ·simp only [upk, shape]; split <;> simp
 | _ => rfl
theorem kid_upk_same (φ : TV → TV) (s : Nat × Nat) (u : TV) : kid (upk φ s u) s = (kid u s).map φ := by
 cases u with
 | sl own z es =>
  cases own
  ·rfl
  ·simp only [upk, kid, List.getElem?_modify_eq]
   cases es[s.1]? with
   | none => rfl
   | some e => simp
 | po own cs =>
  cases own
  ·rfl
  ·simp only [upk, kid]; split <;> simp
 | _ => rfl
theorem kid_upk_ne (φ : TV → TV) (s s' : Nat × Nat) (u : TV) (h : s' ≠ s) : kid (upk φ s u) s' = kid u s' := by
 obtain ⟨i, f⟩ := s
 obtain ⟨i', f'⟩ := s'
 cases u with
 | sl own z es =>
  cases own
  ·rfl
  ·simp only [upk, kid, List.getElem?_modify]
   by_cases hi : i = i'
   ·subst hi
    have hf : f ≠ f' := by rintro rfl; exact h rfl
    cases es[i]? with
    | none => rfl
    | some e => simp [hf]
   ·simp [hi]
 | po own cs =>
  cases own
  ·rfl
  ·simp only [upk, kid]
   by_cases hi : i' = 0
   ·subst hi
    by_cases hi : i = 0
    ·subst hi
     have hf : f ≠ f' := by rintro rfl; exact h rfl
     simp [hf]
    ·simp [hi]
   ·simp [hi]
 | _ => rfl
theorem down_modd_shape (φ : TV → TV) : ∀ (r q : Path) (u : TV), ¬ r <+: q → (down (modd φ r u) q).bind shape = (down u q).bind shape := by
 intro r
 induction r with
 | nil => intro q u h; exact absurd (List.nil_prefix) h
 | cons s r ih =>
  intro q u h
  cases q with
  | nil => simp [down, modd, shape_upk]
  | cons s' q =>
   simp only [down, modd]
   by_cases hs : s' = s
   ·subst hs
    rw [kid_upk_same]
    have h' : ¬ r <+: q := fun hh => h (by simpa using hh)
    cases kid u s' with
    | none => rfl
    | some x => simpa using ih q x h'
   ·rw [kid_upk_ne _ _ _ _ hs]
theorem shapeAt_modH (H : Hp) (φ : TV → TV) (t q : Path) (h : ¬ t <+: q) : shapeAt (modH H φ t) q = shapeAt H q := by
 cases t with
 | nil => exact absurd (List.nil_prefix) h
 | cons s r =>
  cases q with
  | nil => rfl
  | cons s' q =>
   simp only [shapeAt, cellAt]
   rw [modH_get]
   by_cases hs : s' = s
   ·subst hs
    simp only [if_true]
    have h' : ¬ r <+: q := fun hh => h (by simpa using hh)
    cases (H s'.1)[s'.2]? with
    | none => rfl
    | some x => simpa using down_modd_shape φ r q x h'
   ·simp [hs]
theorem live_iff (H : Hp) (q : Path) : Live H q ↔ (shapeAt H q).isSome = true := by
 unfold Live shapeAt
 cases cellAt H q with
 | none => simp
 | some x => simp
end
mutual
def killT (d : Path → Bool) : TV → TV
 | .rf p o l => if d p then .junk else .rf p o l
 | .pt p i f => if d p then .junk else .pt p i f
 | .ag cs => .ag (killL d cs)
 | .tu cs => .tu (killL d cs)
 | .fn g cs => .fn g (killL d cs)
 | .b x => .b x
 | .i k n => .i k n
 | .f x => .f x
 | .s x => .s x
 | .np => .np
 | .sl o z es => .sl o z es
 | .po o cs => .po o cs
 | .junk => .junk
 | .pin v => .pin v
def killL (d : Path → Bool) : List TV → List TV
 | [] => []
 | u :: us => killT d u :: killL d us
end
theorem killL_eq (d : Path → Bool) (cs : List TV) : killL d cs = cs.map (killT d) := by
 induction cs with
 | nil => rfl
 | cons c cs ih => simp [killL, ih]
section
variable {w0 w w' : World} {S0 A K : Nat → Nat → Prop} {κ κ' : Path → Value} {γ γ' : Nat → Nat → Option Path} {H H' : Hp}
theorem RR.kill {u : TV} {v : Value} (h : RR w A u v) (d : Path → Bool) : killT d u = u := by
 induction h with
 | fn g caps capv hl hc ih =>
  simp only [killT, killL_eq]
  congr 1
  refine List.ext_getElem? fun j => ?_
  rw [List.getElem?_map]
  cases hj : caps[j]? with
  | none => rfl
  | some u => simp [ih j u hj]
 | _ => rfl
theorem RV.kill {u : TV} {v : Value} (h : RV w κ H A u v) (d : Path → Bool)
  (hd : ∀ q, d q = false → (shapeAt H q).isSome = true → κ' q = κ q ∧ shapeAt H' q = shapeAt H q)
  (hk : Keep K w w') (hA : ∀ b o, A b o → K b o) : RV w' κ' H' A (killT d u) v := by
 induction h with
 | pure u v h => rw [h.kill]; exact .pure u v (h.keep hk hA (fun _ _ h => h))
 | nil z => exact .nil z
 | rf0 p z off hk' hc =>
  simp only [killT]
  split
  ·exact .pure _ _ (.junk _)
  ·rename_i hp
   obtain ⟨h1, h2⟩ := hd p (by simpa using hp) (by rw [hc]; rfl)
   exact .rf0 p z off (h1.trans hk') (h2.trans hc)
 | rf p z n c B o off len hk' hc hb hn =>
  simp only [killT]
  split
  ·exact .pure _ _ (.junk _)
  ·rename_i hp
   obtain ⟨h1, h2⟩ := hd p (by simpa using hp) (by rw [hc]; rfl)
   exact .rf p z n c B o off len (h1.trans hk') (h2.trans hc) hb hn
 | rfE p z n c B o off o1 c1 hk' hc g1 g2 g3 =>
  simp only [killT]
  split
  ·exact .pure _ _ (.junk _)
  ·rename_i hp
   obtain ⟨h1, h2⟩ := hd p (by simpa using hp) (by rw [hc]; rfl)
   exact .rfE p z n c B o off o1 c1 (h1.trans hk') (h2.trans hc) g1 g2 g3
 | ptS p z n c B o i f hk' hc hi hf =>
  simp only [killT]
  split
  ·exact .pure _ _ (.junk _)
  ·rename_i hp
   obtain ⟨h1, h2⟩ := hd p (by simpa using hp) (by rw [hc]; rfl)
   exact .ptS p z n c B o i f (h1.trans hk') (h2.trans hc) hi hf
 | ptP p B o f n hk' hc hf =>
  simp only [killT]
  split
  ·exact .pure _ _ (.junk _)
  ·rename_i hp
   obtain ⟨h1, h2⟩ := hd p (by simpa using hp) (by rw [hc]; rfl)
   exact .ptP p B o f n (h1.trans hk') (h2.trans hc) hf
 | ag cs vs hl hc ih =>
  simp only [killT, killL_eq]
  refine .ag _ vs (by simpa using hl) fun j u hu => ?_
  rw [List.getElem?_map] at hu
  cases hj : cs[j]? with
  | none => simp [hj] at hu
  | some x => simp only [hj, Option.map_some, Option.some.injEq] at hu; subst hu; exact ih j x hj
 | tu cs vs hl hc ih =>
  simp only [killT, killL_eq]
  refine .tu _ vs (by simpa using hl) fun j u hu => ?_
  rw [List.getElem?_map] at hu
  cases hj : cs[j]? with
  | none => simp [hj] at hu
  | some x => simp only [hj, Option.map_some, Option.some.injEq] at hu; subst hu; exact ih j x hj
 | fn g cs vs hl hc ih =>
  simp only [killT, killL_eq]
  refine .fn g _ vs (by simpa using hl) fun j u hu => ?_
  rw [List.getElem?_map] at hu
  cases hj : cs[j]? with
  | none => simp [hj] at hu
  | some x => simp only [hj, Option.map_some, Option.some.injEq] at hu; subst hu; exact ih j x hj
theorem RV.mono {u : TV} {v : Value} (h : RV w κ H A u v)
  (hd : ∀ q, (shapeAt H q).isSome = true → κ' q = κ q ∧ shapeAt H' q = shapeAt H q)
  (hk : Keep K w w') (hA : ∀ b o, A b o → K b o) : RV w' κ' H' A u v := by
 induction h with
 | pure u v h => exact .pure u v (h.keep hk hA (fun _ _ h => h))
 | nil z => exact .nil z
 | rf0 p z off hk' hc => obtain ⟨h1, h2⟩ := hd p (by rw [hc]; rfl); exact .rf0 p z off (h1.trans hk') (h2.trans hc)
 | rf p z n c B o off len hk' hc hb hn => obtain ⟨h1, h2⟩ := hd p (by rw [hc]; rfl); exact .rf p z n c B o off len (h1.trans hk') (h2.trans hc) hb hn
 | rfE p z n c B o off o1 c1 hk' hc g1 g2 g3 => obtain ⟨h1, h2⟩ := hd p (by rw [hc]; rfl); exact .rfE p z n c B o off o1 c1 (h1.trans hk') (h2.trans hc) g1 g2 g3
 | ptS p z n c B o i f hk' hc hi hf => obtain ⟨h1, h2⟩ := hd p (by rw [hc]; rfl); exact .ptS p z n c B o i f (h1.trans hk') (h2.trans hc) hi hf
 | ptP p B o f n hk' hc hf => obtain ⟨h1, h2⟩ := hd p (by rw [hc]; rfl); exact .ptP p B o f n (h1.trans hk') (h2.trans hc) hf
 | ag cs vs hl hc ih => exact .ag cs vs hl ih
 | tu cs vs hl hc ih => exact .tu cs vs hl ih
 | fn g cs vs hl hc ih => exact .fn g cs vs hl ih
mutual
def noref : TV → Bool
 | .rf .. | .pt .. | .ag _ | .tu _ | .junk => false
 | .sl own _ _ => !own
 | .po own _ => !own
 | .fn _ cs => norefL cs
 | .b _ | .i .. | .f _ | .s _ | .np | .pin _ => true
def norefL : List TV → Bool
 | [] => true
 | u :: us => noref u && norefL us
end
theorem norefL_eq (cs : List TV) : norefL cs = cs.all noref := by
 induction cs with
 | nil => rfl
 | cons c cs ih => simp [norefL, ih]
theorem RV.pure_of {u : TV} {v : Value} (h : RV w κ H A u v) (hn : noref u = true) : RR w A u v := by
 induction h with
 | pure u v h => exact h
 | fn g cs vs hl hc ih =>
  refine .fn g cs vs hl fun j u hu => ih j u hu ?_
  simp only [noref, norefL_eq, List.all_eq_true] at hn
  exact hn u (List.mem_of_getElem? hu)
 | _ => cases hn
def take1 (H : Hp) : TV → Option (TV × Hp × List Path)
 | .rf p off len => match cellAt H p with
  | some (.sl true z es) => some (.sl true z ((es.drop off).take len), modH H (fun _ => .junk) p, [p])
  | _ => none
 | .pt p 0 0 => match cellAt H p with
  | some (.po true cs) => some (.po true cs, modH H (fun _ => .junk) p, [p])
  | _ => none
 | .sl true z [] => some (.sl true z [], H, [])
 | u => if noref u then some (u, H, []) else none
def takeL : List TV → Hp → Option (List TV × Hp × List Path)
 | [], H => some ([], H, [])
 | c :: cs, H => (take1 H c).bind fun x => (takeL cs x.2.1).bind fun y => some (x.1 :: y.1, y.2.1, x.2.2 ++ y.2.2)
def wr0 (H : Hp) (L : List TV) : Hp := fun y => if y = 0 then L else H y
theorem wr0_self (h : H 0 = []) : wr0 H [] = H := by
 funext y; simp only [wr0]; split
 ·rename_i hy; rw [hy, h]
 ·rfl
theorem cellAt_wr0 (L : List TV) (p : Path) (h : ∀ j r, p ≠ (0, j) :: r) : cellAt (wr0 H L) p = cellAt H p := by
 cases p with
 | nil => rfl
 | cons s r =>
  have : s.1 ≠ 0 := by intro h0; exact h s.2 r (by rw [← h0])
  simp [cellAt, wr0, this]
theorem modH_wr0 (φ : TV → TV) (L : List TV) (p : Path) (h : ∀ j r, p ≠ (0, j) :: r) : modH (wr0 H L) φ p = wr0 (modH H φ p) L := by
 cases p with
 | nil => rfl
 | cons s r =>
  have h1 : s.1 ≠ 0 := by intro h0; exact h s.2 r (by rw [← h0])
  funext y
  simp only [modH, wr0]
  by_cases hy : y = 0
  ·subst hy; simp [Ne.symm h1]
  ·simp [hy]
theorem not0_of_live (h0 : H 0 = []) {p : Path} {x : TV} (h : cellAt H p = some x) : ∀ j r, p ≠ (0, j) :: r := by
 rintro j r rfl
 simp [cellAt, h0] at h
theorem modH_zero (φ : TV → TV) {p : Path} (h0 : H 0 = []) : modH H φ p 0 = [] := by
 cases p with
 | nil => exact h0
 | cons s r => simp only [modH]; split <;> simp [h0]
theorem TR.move0 {ps t : Path} {u : TV} {v : Value} (h : TR w κ γ A ps u v) :
  TR w (mvκ κ ps t 0 v) (fun b o => (γ b o).map (rnm ps t 0)) A t u v := by
 refine h.ren (K := fun _ _ => True) _ (fun r nd hd hs' => ⟨?_, fun b o' hb' => ⟨?_, trivial⟩⟩) (Keep.refl _ w) (fun _ _ _ => trivial) (fun _ _ h => h)
 ·cases r with
  | nil =>
   simp only [List.append_nil]
   rw [mvκ_self]
   cases hd
   cases h with
   | pure p u v h => rw [h.noshape] at hs'; cases hs'
   | sl0 p z hk => exact hk.symm
   | sl p z n c B o es arr T hk => exact hk.symm
   | po p B o cs arr T hk => exact hk.symm
  | cons s r => simpa using mvκ_under (κ := κ) (ps := ps) (t := t) (off := 0) (v := v) s r
 ·rw [hb']
  cases r with
  | nil => simp [rnm_self]
  | cons s r => simpa using rnm_under ps t 0 s r
theorem take1_ok {L : List TV} {c u : TV} {v : Value} {H1 : Hp} {d : List Path} (h : HR w0 S0 A w κ γ (wr0 H L)) (h0 : H 0 = [])
  (hv : RV w κ H A c v) (ht : take1 H c = some (u, H1, d)) :
  ∃ κ' γ', HR w0 S0 A w κ' γ' (wr0 H1 (L ++ [u])) ∧ H1 0 = [] ∧ κ' [(0, L.length)] = v ∧
   (∀ q, ¬ [(0, L.length)] <+: q → κ' q = κ q) ∧ (∀ q, (∀ p ∈ d, ¬ p <+: q) → shapeAt H1 q = shapeAt H q) ∧
   ((shape u).isSome = true ∨ RR w A u v) ∧ (∀ q, Live H1 q → ∀ p ∈ d, ¬ p <+: q) := by
 have hlen : (wr0 H L 0).length = L.length := by simp [wr0]
 have hwr : ∀ (X : Hp) (y : TV), (fun z => if z = 0 then wr0 X L 0 ++ [y] else wr0 X L z) = wr0 X (L ++ [y]) := by
  intro X y; funext z; simp only [wr0]; by_cases hz : z = 0 <;> simp [hz]
 have pureCase : noref c = true → u = c → H1 = H → d = [] → ∃ κ' γ', HR w0 S0 A w κ' γ' (wr0 H1 (L ++ [u])) ∧ H1 0 = [] ∧ κ' [(0, L.length)] = v ∧
   (∀ q, ¬ [(0, L.length)] <+: q → κ' q = κ q) ∧ (∀ q, (∀ p ∈ d, ¬ p <+: q) → shapeAt H1 q = shapeAt H q) ∧
   ((shape u).isSome = true ∨ RR w A u v) ∧ (∀ q, Live H1 q → ∀ p ∈ d, ¬ p <+: q) := by
  rintro hn rfl rfl rfl
  have hr := hv.pure_of hn
  have hp := h.push (ps := [(0, (wr0 H1 L 0).length)]) (u' := u) (x := v) (o1 := 0) (id := 0) (by
   rintro q ⟨x, hx, hs⟩ ⟨r, rfl⟩
   simp [cellAt] at hx) (.pure _ _ _ hr)
  rw [hwr, hlen] at hp
  exact ⟨_, _, hp, h0, mvκ_self, fun q hq => mvκ_not q hq, fun _ _ => rfl, .inr hr, fun _ _ _ hp => by cases hp⟩
 have other : (∀ p o l, c ≠ .rf p o l) → (∀ p i f, c ≠ .pt p i f) → (∀ z, c ≠ .sl true z []) → noref c = true ∧ u = c ∧ H1 = H ∧ d = [] := by
  intro h1 h2 h3
  have : take1 H c = if noref c then some (c, H, []) else none := by
   cases c with
   | rf p o l => exact absurd rfl (h1 p o l)
   | pt p i f => exact absurd rfl (h2 p i f)
   | sl o z es =>
    cases o with
    | false => rfl
    | true =>
     cases es with
     | nil => exact absurd rfl (h3 z)
     | cons e es => rfl
   | _ => rfl
  rw [this] at ht
  split at ht
  ·rename_i hn
   simp only [Option.some.injEq, Prod.mk.injEq] at ht
   exact ⟨hn, ht.1.symm, ht.2.1.symm, ht.2.2.symm⟩
  ·cases ht
 have nodeCase : ∀ (p : Path) (x : TV), cellAt H p = some x → (shape u).isSome = true → H1 = modH H (fun _ => .junk) p → d = [p] →
   (∀ t, ∃ o1, TR w (mvκ κ p t o1 v) (fun b o => (γ b o).map (rnm p t o1)) A t u v) →
   ∃ κ' γ', HR w0 S0 A w κ' γ' (wr0 H1 (L ++ [u])) ∧ H1 0 = [] ∧ κ' [(0, L.length)] = v ∧
   (∀ q, ¬ [(0, L.length)] <+: q → κ' q = κ q) ∧ (∀ q, (∀ p ∈ d, ¬ p <+: q) → shapeAt H1 q = shapeAt H q) ∧
   ((shape u).isSome = true ∨ RR w A u v) ∧ (∀ q, Live H1 q → ∀ p ∈ d, ¬ p <+: q) := by
  rintro p x hx hs rfl rfl hT
  have hn0 := not0_of_live h0 hx
  have hx' : cellAt (wr0 H L) p = some x := by rw [cellAt_wr0 _ _ hn0]; exact hx
  have hj := h.junk hx'
  have hl := live_junk hx'
  rw [modH_wr0 _ _ _ hn0] at hj hl
  have hlen' : (wr0 (modH H (fun _ => .junk) p) L 0).length = L.length := by simp [wr0]
  obtain ⟨o1, hT1⟩ := hT [(0, (wr0 (modH H (fun _ => .junk) p) L 0).length)]
  have hp := hj.push (id := 0) hl hT1
  rw [hwr, hlen'] at hp
  exact ⟨_, _, hp, modH_zero _ h0, mvκ_self, fun q hq => mvκ_not q hq, fun q hq => shapeAt_modH _ _ _ _ (hq p (by simp)), .inl hs, fun q hq p' hp' => by
   simp only [List.mem_singleton] at hp'; subst hp'; exact live_junk hx q hq⟩
 have owned : ∀ (p : Path) (x : TV), cellAt H p = some x → ∃ v1, TR w κ γ A p x v1 := by
  intro p x hx
  have hn0 := not0_of_live h0 hx
  exact h.at (by rw [cellAt_wr0 _ _ hn0]; exact hx)
 cases hv with
 | pure u v hr =>
  obtain ⟨h1, h2, h3, h4⟩ := other (by rintro p o l rfl; cases hr) (by rintro p i f rfl; cases hr) (by rintro z rfl; cases hr)
  exact pureCase h1 h2 h3 h4
 | nil z =>
  simp only [take1, Option.some.injEq, Prod.mk.injEq] at ht
  obtain ⟨rfl, rfl, rfl⟩ := ht
  have hp := h.push (ps := [(0, (wr0 H L 0).length)]) (u' := .sl true z []) (x := .slice none 0 0) (o1 := 0) (id := 0) (by
   rintro q ⟨x, hx, hs⟩ ⟨r, rfl⟩
   simp [cellAt] at hx) (.sl0 _ _ mvκ_self)
  rw [hwr, hlen] at hp
  exact ⟨_, _, hp, h0, mvκ_self, fun q hq => mvκ_not q hq, fun _ _ => rfl, .inl rfl, fun _ _ _ hp => by cases hp⟩
 | ag cs vs hl hc => exact pureCase (other (by simp) (by simp) (by simp)).1 (other (by simp) (by simp) (by simp)).2.1 (other (by simp) (by simp) (by simp)).2.2.1 (other (by simp) (by simp) (by simp)).2.2.2
 | tu cs vs hl hc => exact pureCase (other (by simp) (by simp) (by simp)).1 (other (by simp) (by simp) (by simp)).2.1 (other (by simp) (by simp) (by simp)).2.2.1 (other (by simp) (by simp) (by simp)).2.2.2
 | fn g cs vs hl hc => exact pureCase (other (by simp) (by simp) (by simp)).1 (other (by simp) (by simp) (by simp)).2.1 (other (by simp) (by simp) (by simp)).2.2.1 (other (by simp) (by simp) (by simp)).2.2.2
 | rf0 p z off hk hc =>
  simp only [take1] at ht
  split at ht
  case h_2 => cases ht
  rename_i z' es hx
  simp only [Option.some.injEq, Prod.mk.injEq] at ht
  obtain ⟨rfl, rfl, rfl⟩ := ht
  simp only [shapeAt, hx, Option.bind_some, shape, Option.some.injEq, Prod.mk.injEq, true_and] at hc
  obtain ⟨rfl, hlz⟩ := hc
  obtain ⟨v1, hv1⟩ := owned p _ hx
  refine nodeCase p _ hx rfl rfl rfl fun t => ⟨0, ?_⟩
  have hm := hv1.move (t := t) (off := 0) (len := 0) (by omega)
  have hv1' : v1 = .slice none 0 0 := by
   cases hv1 with
   | pure p u v h => cases h
   | sl0 p z hk => rfl
   | sl p z n c B o es arr T hk2 => rw [hk] at hk2; cases hk2
  subst hv1'
  simpa [cutU, cutV] using hm
 | rf p z n c B o off len hk hc hb hn =>
  simp only [take1] at ht
  split at ht
  case h_2 => cases ht
  rename_i z' es hx
  simp only [Option.some.injEq, Prod.mk.injEq] at ht
  obtain ⟨rfl, rfl, rfl⟩ := ht
  simp only [shapeAt, hx, Option.bind_some, shape, Option.some.injEq, Prod.mk.injEq, true_and] at hc
  obtain ⟨rfl, hlz⟩ := hc
  obtain ⟨v1, hv1⟩ := owned p _ hx
  refine nodeCase p _ hx rfl rfl rfl fun t => ⟨off, ?_⟩
  have hm := hv1.move (t := t) (off := off) (len := len) (by omega)
  have hv1' : v1 = .slice (some ⟨B, o, none⟩) n c := by
   cases hv1 with
   | pure p u v h => cases h
   | sl0 p z hk2 => rw [hk] at hk2; cases hk2
   | sl p z n c B o es arr T hk2 => rw [hk] at hk2; exact hk2.symm
  subst hv1'
  simpa [cutU, cutV] using hm
 | rfE p z n c B o off o1 c1 hk hc g1 g2 g3 =>
  simp only [take1] at ht
  split at ht
  case h_2 => cases ht
  rename_i z' es hx
  simp only [Option.some.injEq, Prod.mk.injEq] at ht
  obtain ⟨rfl, rfl, rfl⟩ := ht
  simp only [shapeAt, hx, Option.bind_some, shape, Option.some.injEq, Prod.mk.injEq, true_and] at hc
  obtain ⟨rfl, hlz⟩ := hc
  obtain ⟨v1, hv1⟩ := owned p _ hx
  refine nodeCase p _ hx rfl rfl rfl fun t => ⟨0, ?_⟩
  cases hv1 with
  | pure p u v h => cases h
  | sl0 p z hk2 => rw [hk] at hk2; cases hk2
  | sl p z n' c' B' o' es arr T hk2 hl hn hz hb hs hg hcc =>
   rw [hk] at hk2; cases hk2
   rw [List.take_zero]
   refine .sl t _ 0 c1 B o1 [] arr T mvκ_self rfl (Nat.zero_le _) (by simp) hb (by omega) (fun k hk' => ?_) (by simp)
   have := hg (o1 - o + k) (by omega)
   rw [show o + (o1 - o + k) = o1 + k by omega] at this
   rw [this]; simp [rnm_self]
 | ptS p z n c B o i f hk hc hi hf =>
  cases i with
  | succ i => simp [take1, noref] at ht
  | zero =>
   cases f with
   | succ f => simp [take1, noref] at ht
   | zero =>
    simp only [take1] at ht
    split at ht
    case h_2 => cases ht
    rename_i cs hx
    simp [shapeAt, hx, shape] at hc
 | ptP p B o f n hk hc hf =>
  cases f with
  | succ f => simp [take1, noref] at ht
  | zero =>
   simp only [take1] at ht
   split at ht
   case h_2 => cases ht
   rename_i cs hx
   simp only [Option.some.injEq, Prod.mk.injEq] at ht
   obtain ⟨rfl, rfl, rfl⟩ := ht
   obtain ⟨v1, hv1⟩ := owned p _ hx
   refine nodeCase p _ hx rfl rfl rfl fun t => ⟨0, ?_⟩
   have hv1' : v1 = .pointer (some ⟨B, o, none⟩) := by
    cases hv1 with
    | pure p u v h => cases h
    | po p B o cs arr T hk2 => rw [hk] at hk2; exact hk2.symm
   subst hv1'
   exact hv1.move0
structure Rs (w : World) (κ : Path → Value) (H : Hp) (A : Nat → Nat → Prop) (c : TV) (v : Value) : Prop where
 pure : noref c = true → RR w A c v
 rf : ∀ p o l, c = .rf p o l → Live H p → RV w κ H A c v
 pt : ∀ p i f, c = .pt p i f → Live H p → RV w κ H A c v
 nil : ∀ z, c = .sl true z [] → v = .slice none 0 0
theorem RV.rs {c : TV} {v : Value} (h : RV w κ H A c v) : Rs w κ H A c v := ⟨h.pure_of, fun _ _ _ _ _ => h, fun _ _ _ _ _ => h, fun z hz => by subst hz; cases h with | pure u v h => cases h | nil z => rfl⟩
theorem Rs.rv {c u : TV} {v : Value} {H1 : Hp} {d : List Path} (h : Rs w κ H A c v) (ht : take1 H c = some (u, H1, d)) : RV w κ H A c v := by
 cases c with
 | rf p o l =>
  refine h.rf p o l rfl ?_
  simp only [take1] at ht
  split at ht
  ·rename_i z es hx; exact ⟨_, hx, rfl⟩
  ·cases ht
 | pt p i f =>
  refine h.pt p i f rfl ?_
  cases i with
  | succ i => simp [take1, noref] at ht
  | zero =>
   cases f with
   | succ f => simp [take1, noref] at ht
   | zero =>
    simp only [take1] at ht
    split at ht
    ·rename_i cs hx; exact ⟨_, hx, rfl⟩
    ·cases ht
 | sl o z es =>
  cases o with
  | false => exact .pure _ _ (h.pure rfl)
  | true =>
   cases es with
   | nil => rw [h.nil z rfl]; exact .nil z
   | cons e es => simp [take1, noref] at ht
 | _ =>
  refine .pure _ _ (h.pure ?_)
  simp only [take1] at ht
  split at ht
  ·assumption
  ·cases ht
theorem Rs.after {c : TV} {v : Value} (h : Rs w κ H A c v) (hl : ∀ q, Live H' q → Live H q ∧ κ' q = κ q ∧ shapeAt H' q = shapeAt H q) : Rs w κ' H' A c v := by
 refine ⟨h.pure, ?_, ?_, h.nil⟩
 ·rintro p o l rfl hlv
  obtain ⟨h1, h2, h3⟩ := hl p hlv
  have hr := h.rf p o l rfl h1
  cases hr with
  | pure u v h => cases h
  | rf0 p z off hk hc => exact .rf0 _ _ _ (h2.trans hk) (h3.trans hc)
  | rf p z n c B o off len hk hc hb hn => exact .rf _ _ _ _ _ _ _ _ (h2.trans hk) (h3.trans hc) hb hn
  | rfE p z n c B o off o1 c1 hk hc g1 g2 g3 => exact .rfE _ _ _ _ _ _ _ _ _ (h2.trans hk) (h3.trans hc) g1 g2 g3
 ·rintro p i f rfl hlv
  obtain ⟨h1, h2, h3⟩ := hl p hlv
  have hr := h.pt p i f rfl h1
  cases hr with
  | pure u v h => cases h
  | ptS p z n c B o i f hk hc hi hf => exact .ptS _ _ _ _ _ _ _ _ (h2.trans hk) (h3.trans hc) hi hf
  | ptP p B o f n hk hc hf => exact .ptP _ _ _ _ _ (h2.trans hk) (h3.trans hc) hf
theorem takeL_ok : ∀ (cs : List TV) (vs : List Value) (L us : List TV) (H H1 : Hp) (κ : Path → Value) (γ : Nat → Nat → Option Path) (d : List Path),
  HR w0 S0 A w κ γ (wr0 H L) → H 0 = [] → cs.length = vs.length → (∀ (j : Nat) (c : TV) (v : Value), cs[j]? = some c → vs[j]? = some v → Rs w κ H A c v) → takeL cs H = some (us, H1, d) →
  ∃ κ' γ', HR w0 S0 A w κ' γ' (wr0 H1 (L ++ us)) ∧ H1 0 = [] ∧ us.length = cs.length ∧ (∀ (j : Nat) (v : Value), vs[j]? = some v → κ' [(0, L.length + j)] = v) ∧
   (∀ q, (∀ j r, q ≠ (0, L.length + j) :: r) → κ' q = κ q) ∧ (∀ q, (∀ p ∈ d, ¬ p <+: q) → shapeAt H1 q = shapeAt H q) ∧
   (∀ (j : Nat) (u : TV) (v : Value), us[j]? = some u → vs[j]? = some v → (shape u).isSome = true ∨ RR w A u v) ∧ (∀ q, Live H1 q → ∀ p ∈ d, ¬ p <+: q) := by
 intro cs
 induction cs with
 | nil =>
  intro vs L us H H1 κ γ d h h0 hlen hv ht
  simp only [takeL, Option.some.injEq, Prod.mk.injEq] at ht
  obtain ⟨rfl, rfl, rfl⟩ := ht
  have : vs = [] := List.eq_nil_of_length_eq_zero (by simpa using hlen.symm)
  subst this
  exact ⟨κ, γ, by simpa using h, h0, rfl, by simp, fun _ _ => rfl, fun _ _ => rfl, by simp, by simp⟩
 | cons c cs ih =>
  intro vs L us H H1 κ γ d h h0 hlen hv ht
  cases vs with
  | nil => simp at hlen
  | cons v vs =>
   simp only [takeL, Option.bind_eq_some_iff, Option.some.injEq, Prod.mk.injEq] at ht
   obtain ⟨⟨u, H2, d2⟩, h1, ⟨us', H3, d3⟩, h2, rfl, rfl, rfl⟩ := ht
   obtain ⟨κ1, γ1, k1, k2, k3, k4, k5, k6, k7⟩ := take1_ok h h0 ((hv 0 c v rfl rfl).rv h1) h1
   have not0 : ∀ q, Live H2 q → ¬ [(0, L.length)] <+: q := by
    rintro q ⟨x, hx, _⟩ ⟨r, rfl⟩
    exact not0_of_live k2 hx _ _ rfl
   have hlv : ∀ q, Live H2 q → Live H q ∧ κ1 q = κ q ∧ shapeAt H2 q = shapeAt H q := by
    intro q hq
    have e := k5 q (k7 q hq)
    exact ⟨by rw [live_iff] at hq ⊢; rw [← e]; exact hq, k4 q (not0 q hq), e⟩
   have hv' : ∀ (j : Nat) (c : TV) (v : Value), cs[j]? = some c → vs[j]? = some v → Rs w κ1 H2 A c v :=
    fun j c' v' hc hv'' => (hv (j + 1) c' v' (by simpa using hc) (by simpa using hv'')).after hlv
   obtain ⟨κ2, γ2, m1, m2, m3, m4, m5, m6, m7, m8⟩ := ih vs (L ++ [u]) us' H2 H3 κ1 γ1 d3 k1 k2 (by simpa using hlen) hv' h2
   have hlen1 : (L ++ [u]).length = L.length + 1 := by simp
   rw [hlen1] at m4 m5
   have shapes : ∀ q, (∀ p ∈ d2 ++ d3, ¬ p <+: q) → shapeAt H3 q = shapeAt H q := fun q hq =>
    (m6 q fun p hp => hq p (List.mem_append_right _ hp)).trans (k5 q fun p hp => hq p (List.mem_append_left _ hp))
   refine ⟨κ2, γ2, by simpa using m1, m2, by simpa using m3, ?_, ?_, shapes, ?_, ?_⟩
   ·intro j v' hj
    cases j with
    | zero =>
     simp only [List.getElem?_cons_zero, Option.some.injEq] at hj
     subst hj
     rw [Nat.add_zero, m5 _ (by intro j r hh; simp at hh; omega)]
     exact k3
    | succ j =>
     have := m4 j v' (by simpa using hj)
     rw [show L.length + (j + 1) = L.length + 1 + j by omega]; exact this
   ·intro q hq
    rw [m5 q (fun j r hh => hq (j + 1) r (by rw [hh]; congr 2; omega))]
    refine k4 q ?_
    rintro ⟨r, rfl⟩
    exact hq 0 r rfl
   ·intro j u' v' hu hv''
    cases j with
    | zero => simp at hu hv''; subst hu; subst hv''; exact k6
    | succ j => exact m7 j u' v' (by simpa using hu) (by simpa using hv'')
   ·intro q hq p hp
    rcases List.mem_append.1 hp with hp | hp
    ·have e := m6 q (m8 q hq)
     exact k7 q (by rw [live_iff] at hq ⊢; rw [← e]; exact hq) p hp
    ·exact m8 q hq p hp
end
end Go.Proofs.YtmedelmfkciblaaT

