/- TM, part A: abstract values (trees), paths into them, and the relations that tie them to the model's values and memory. -/
import Derived.Tactics
import Derived.Orders
import Derived.Below
import Ieee.Arith
namespace Go.Proofs.YtloodkhdngipbaaT
set_option linter.unusedVariables false
set_option linter.unusedSimpArgs false
open Go

abbrev Path := List (Nat × Nat)

/-- Abstract values. -/
inductive TV where
  | b (x : Bool)
  | i (k : IntKind) (n : Int)
  | f (bits : Nat)
  | s (x : ByteArray)
  | np
  /-- a slice by its contents: one's own, or only read; cells of an element; elements -/
  | sl (own : Bool) (z : Nat) (es : List (List TV))
  /-- a pointer by the cells that it points to -/
  | po (own : Bool) (cs : List TV)
  /-- a slice of one's own, by its place -/
  | rf (p : Path) (off len : Nat)
  /-- a pointer into what is one's own -/
  | pt (p : Path) (i f : Nat)
  | ag (cs : List TV)
  | tu (vs : List TV)
  | fn (g : FuncId) (caps : List TV)
  | junk
  /-- just this value -/
  | pin (v : Value)
  deriving Inhabited

def canon (x : Nat) : Nat := if FloatKind.f64.format.order x x = none then 9221120237041090561 else x

/-! ### paths -/
def kid : TV → Nat × Nat → Option TV
  | .sl true _ es, s => (es[s.1]?).bind (·[s.2]?)
  | .po true cs, s => if s.1 = 0 then cs[s.2]? else none
  | _, _ => none

def down : TV → Path → Option TV
  | u, [] => some u
  | u, s :: r => (kid u s).bind (down · r)

def upk (φ : TV → TV) (s : Nat × Nat) : TV → TV
  | .sl true z es => .sl true z (es.modify s.1 (fun e => e.modify s.2 φ))
  | .po true cs => .po true (if s.1 = 0 then cs.modify s.2 φ else cs)
  | u => u

def modd (φ : TV → TV) : Path → TV → TV
  | [], u => φ u
  | s :: r, u => upk (modd φ r) s u

/-- The abstract heap: roots, each with its cells. -/
abbrev Hp := Nat → List TV

def cellAt (H : Hp) : Path → Option TV
  | [] => none
  | s :: r => ((H s.1)[s.2]?).bind (down · r)

def modH (H : Hp) (φ : TV → TV) : Path → Hp
  | [] => H
  | s :: r => fun id => if id = s.1 then (H id).modify s.2 (modd φ r) else H id

/-! ### worlds -/

/-- What may be kept: blocks stay of their kind and size; the cells of K stay. -/
structure Keep (K : Nat → Nat → Prop) (w w' : World) : Prop where
  size : w.heap.size ≤ w'.heap.size
  cells : ∀ (b : Nat) (arr : Array Value) (T : TypeId) (fz : Nat × Nat), w.heap[b]? = some (.cells arr T fz) → ∃ arr', w'.heap[b]? = some (.cells arr' T fz) ∧ arr'.size = arr.size ∧ ∀ o, K b o → arr'[o]? = arr[o]?
  rest : ∀ (b : Nat) (o : Obj), w.heap[b]? = some o → (∀ (arr : Array Value) (T : TypeId) (fz : Nat × Nat), o ≠ Obj.cells arr T fz) → w'.heap[b]? = some o

theorem Keep.refl (K : Nat → Nat → Prop) (w : World) : Keep K w w := ⟨Nat.le_refl _, fun _ arr _ _ h => ⟨arr, h, rfl, fun _ _ => rfl⟩, fun _ _ h _ => h⟩

theorem Keep.mono {K K' : Nat → Nat → Prop} {w w' : World} (h : Keep K w w') (hk : ∀ b o, K' b o → K b o) : Keep K' w w' :=
  ⟨h.size, fun b arr T fz hb => let ⟨arr', h1, h2, h3⟩ := h.cells b arr T fz hb; ⟨arr', h1, h2, fun o ho => h3 o (hk b o ho)⟩, h.rest⟩

theorem Keep.trans {K K' : Nat → Nat → Prop} {a b c : World} (h : Keep K a b) (h' : Keep K' b c) : Keep (fun x o => K x o ∧ K' x o) a c := by
  refine ⟨Nat.le_trans h.size h'.size, fun x arr T fz hx => ?_, fun x o hx ho => h'.rest x o (h.rest x o hx ho) ho⟩
  obtain ⟨a1, h1, h2, h3⟩ := h.cells x arr T fz hx
  obtain ⟨a2, k1, k2, k3⟩ := h'.cells x a1 T fz h1
  exact ⟨a2, k1, k2.trans h2, fun o ho => (k3 o ho.2).trans (h3 o ho.1)⟩

/-- What a stretch of code may have done: only cells of S have turned, nothing outside the heap. -/
structure Chg (S : Nat → Nat → Prop) (w w' : World) : Prop where
  os : w'.os = w.os
  tape : w'.tape = w.tape
  output : w'.output = w.output
  keep : Keep (fun b o => ¬ S b o) w w'

theorem Chg.refl (S : Nat → Nat → Prop) (w : World) : Chg S w w := ⟨rfl, rfl, rfl, .refl _ w⟩

theorem Chg.trans {S : Nat → Nat → Prop} {a b c : World} {S' : Nat → Nat → Prop} (h : Chg S a b) (h' : Chg S' b c) (hs : ∀ x o, S' x o → x < a.heap.size → S x o) : Chg S a c := by
  refine ⟨h'.os.trans h.os, h'.tape.trans h.tape, h'.output.trans h.output, ?_⟩
  refine ⟨Nat.le_trans h.keep.size h'.keep.size, fun x arr T fz hx => ?_, fun x o hx ho => h'.keep.rest x o (h.keep.rest x o hx ho) ho⟩
  have hlt : x < a.heap.size := by
    rcases Nat.lt_or_ge x a.heap.size with h | h
    · exact h
    · rw [Array.getElem?_eq_none h] at hx; cases hx
  obtain ⟨a1, h1, h2, h3⟩ := h.keep.cells x arr T fz hx
  obtain ⟨a2, k1, k2, k3⟩ := h'.keep.cells x a1 T fz h1
  exact ⟨a2, k1, k2.trans h2, fun o ho => (k3 o (fun hs' => ho (hs x o hs' hlt))).trans (h3 o ho)⟩

/-! ### what is only read -/
inductive RR (w : World) (A : Nat → Nat → Prop) : TV → Value → Prop
  | b (x : Bool) : RR w A (.b x) (.bool x)
  | i (k : IntKind) (n : Int) : RR w A (.i k n) (.int k n)
  | f (x : Nat) : RR w A (.f (canon x)) (.float .f64 x)
  | s (x : ByteArray) : RR w A (.s x) (.string x)
  | np : RR w A .np (.pointer none)
  | sl0 (z : Nat) : RR w A (.sl false z []) (.slice none 0 0)
  | sle (z c : Nat) (a : Addr) : RR w A (.sl false z []) (.slice (some a) 0 c)
  | sl (z n c B o : Nat) (es : List (List TV)) (arr : Array Value) (T : TypeId) (fz : Nat × Nat)
      (hl : es.length = n) (hn : n ≤ c) (hz : ∀ e ∈ es, e.length = z)
      (hb : w.heap[B]? = some (.cells arr T fz)) (hs : o + n * z ≤ arr.size)
      (hA : ∀ k, k < n * z → A B (o + k))
      (hc : ∀ (i f : Nat) (e : List TV) (u : TV), es[i]? = some e → e[f]? = some u → RR w A u ((arr[o + i * z + f]?).getD undef)) :
      RR w A (.sl false z es) (.slice (some ⟨B, o, none⟩) n c)
  | po (B o : Nat) (cs : List TV) (arr : Array Value) (T : TypeId) (fz : Nat × Nat)
      (hb : w.heap[B]? = some (.cells arr T fz)) (hs : o + cs.length ≤ arr.size)
      (hA : ∀ k, k < cs.length → A B (o + k))
      (hc : ∀ (f : Nat) (u : TV), cs[f]? = some u → RR w A u ((arr[o + f]?).getD undef)) :
      RR w A (.po false cs) (.pointer (some ⟨B, o, none⟩))
  | fn (g : FuncId) (caps : List TV) (capv : Array Value) (hl : caps.length = capv.size)
      (hc : ∀ (j : Nat) (u : TV), caps[j]? = some u → RR w A u ((capv[j]?).getD undef)) :
      RR w A (.fn g caps) (.func (.func g) #[] capv)
  | junk (v : Value) : RR w A .junk v
  | pin (v : Value) (h : v.oneCell' = true) : RR w A (.pin v) v

/-! ### what is one's own, in the heap -/
inductive TR (w : World) (κ : Path → Value) (γ : Nat → Nat → Option Path) (A : Nat → Nat → Prop) : Path → TV → Value → Prop
  | pure (p : Path) (u : TV) (v : Value) (h : RR w A u v) : TR w κ γ A p u v
  | sl0 (p : Path) (z : Nat) (hk : κ p = .slice none 0 0) : TR w κ γ A p (.sl true z []) (.slice none 0 0)
  | sl (p : Path) (z n c B o : Nat) (es : List (List TV)) (arr : Array Value) (T : TypeId)
      (hk : κ p = .slice (some ⟨B, o, none⟩) n c)
      (hl : es.length = n) (hn : n ≤ c) (hz : ∀ e ∈ es, e.length = z)
      (hb : w.heap[B]? = some (.cells arr T (0, 0))) (hs : o + c * z ≤ arr.size)
      (hg : ∀ k, k < c * z → γ B (o + k) = some p)
      (hc : ∀ (i f : Nat) (e : List TV) (u : TV), es[i]? = some e → e[f]? = some u → TR w κ γ A (p ++ [(i, f)]) u ((arr[o + i * z + f]?).getD undef)) :
      TR w κ γ A p (.sl true z es) (.slice (some ⟨B, o, none⟩) n c)
  | po (p : Path) (B o : Nat) (cs : List TV) (arr : Array Value) (T : TypeId)
      (hk : κ p = .pointer (some ⟨B, o, none⟩))
      (hb : w.heap[B]? = some (.cells arr T (0, 0))) (hs : o + cs.length ≤ arr.size)
      (hg : ∀ k, k < cs.length → γ B (o + k) = some p)
      (hc : ∀ (f : Nat) (u : TV), cs[f]? = some u → TR w κ γ A (p ++ [(0, f)]) u ((arr[o + f]?).getD undef)) :
      TR w κ γ A p (.po true cs) (.pointer (some ⟨B, o, none⟩))

/-! ### values that a variable holds -/
def shape : TV → Option (Bool × Nat × Nat)
  | .sl true z es => some (true, z, es.length)
  | .po true cs => some (false, 0, cs.length)
  | _ => none
def shapeAt (H : Hp) (p : Path) : Option (Bool × Nat × Nat) := (cellAt H p).bind shape

inductive RV (w : World) (κ : Path → Value) (H : Hp) (A : Nat → Nat → Prop) : TV → Value → Prop
  | pure (u : TV) (v : Value) (h : RR w A u v) : RV w κ H A u v
  | nil (z : Nat) : RV w κ H A (.sl true z []) (.slice none 0 0)
  | rf0 (p : Path) (z off : Nat) (hk : κ p = .slice none 0 0) (hc : shapeAt H p = some (true, z, 0)) : RV w κ H A (.rf p off 0) (.slice none 0 0)
  | rf (p : Path) (z n c B o off len : Nat) (hk : κ p = .slice (some ⟨B, o, none⟩) n c)
      (hc : shapeAt H p = some (true, z, n)) (hb : off + len ≤ n) (hn : n ≤ c) :
      RV w κ H A (.rf p off len) (.slice (some ⟨B, o + off * z, none⟩) len (c - off))
  | rfE (p : Path) (z n c B o off o1 c1 : Nat) (hk : κ p = .slice (some ⟨B, o, none⟩) n c)
      (hc : shapeAt H p = some (true, z, n)) (h1 : o ≤ o1) (h2 : o1 + c1 * z ≤ o + c * z) (h3 : off ≠ 0) :
      RV w κ H A (.rf p off 0) (.slice (some ⟨B, o1, none⟩) 0 c1)
  | ptS (p : Path) (z n c B o i f : Nat) (hk : κ p = .slice (some ⟨B, o, none⟩) n c)
      (hc : shapeAt H p = some (true, z, n)) (hi : i < n) (hf : f ≤ z) :
      RV w κ H A (.pt p i f) (.pointer (some ⟨B, o + i * z + f, none⟩))
  | ptP (p : Path) (B o f n : Nat) (hk : κ p = .pointer (some ⟨B, o, none⟩))
      (hc : shapeAt H p = some (false, 0, n)) (hf : f ≤ n) :
      RV w κ H A (.pt p 0 f) (.pointer (some ⟨B, o + f, none⟩))
  | ag (cs : List TV) (vs : Array Value) (hl : cs.length = vs.size) (hc : ∀ (j : Nat) (u : TV), cs[j]? = some u → RV w κ H A u ((vs[j]?).getD undef)) : RV w κ H A (.ag cs) (.agg vs)
  | tu (cs : List TV) (vs : Array Value) (hl : cs.length = vs.size) (hc : ∀ (j : Nat) (u : TV), cs[j]? = some u → RV w κ H A u ((vs[j]?).getD undef)) : RV w κ H A (.tu cs) (.tuple vs)
  | fn (g : FuncId) (caps : List TV) (capv : Array Value) (hl : caps.length = capv.size)
      (hc : ∀ (j : Nat) (u : TV), caps[j]? = some u → RV w κ H A u ((capv[j]?).getD undef)) : RV w κ H A (.fn g caps) (.func (.func g) #[] capv)
end Go.Proofs.YtloodkhdngipbaaT
