/- Regs: kinds and places. -/
import Derived.Test.YtmedelmfkciblaaKh
namespace Go.Proofs.YtmedelmfkciblaaT
set_option linter.unusedVariables false
set_option linter.unusedSimpArgs false
open Go


def sortL (c r e : List (ByteArray × Int)) (s : Int) : List (ByteArray × Int) := if s = 1 then c else if s = 2 then r else if s = 3 then e else []
def sortR (c r e : List (ByteArray × Int)) (s : Int) : TV := if s = 1 then .sl false 2 (c.map dT) else if s = 2 then .sl false 2 (r.map dT) else if s = 3 then .sl false 2 (e.map dT) else .sl true 2 []
theorem sortR_cases (c r e : List (ByteArray × Int)) (s : Int) : (sortR c r e s = .sl true 2 [] ∧ sortL c r e s = []) ∨ sortR c r e s = .sl false 2 ((sortL c r e s).map dT) := by
  unfold sortR sortL
  split
  · exact .inr rfl
  · split
    · exact .inr rfl
    · split
      · exact .inr rfl
      · exact .inl ⟨rfl, rfl⟩
theorem sortL_len {c r e : List (ByteArray × Int)} {k : Nat} (s : Int) (hc : c.length ≤ k) (hr : r.length ≤ k) (he : e.length ≤ k) : (sortL c r e s).length ≤ k := by
  unfold sortL; split
  · exact hc
  · split
    · exact hr
    · split
      · exact he
      · simp
def kindF (L : List (ByteArray × Int)) (a : Int) : Int := if 0 ≤ a ∧ a ≤ (L.length : Int) - 1 then ((L[a.toNat]?).map (·.2)).getD 0 else 0
def nameIs (x : ByteArray) (d : ByteArray × Int) : Bool := decide (d.1 = x)
end Go.Proofs.YtmedelmfkciblaaT
