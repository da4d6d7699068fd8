/- Division of whole numbers: the plain law. -/
import Derived.Test.YtpoalnlkhlchbaaKq1
import Derived.Test.YtpoalnlkhlchbaaKv4
namespace Go.Proofs.YtpoalnlkhlchbaaT
set_option linter.unusedVariables false
set_option linter.unusedSimpArgs false
open Go

theorem wrap_ex (n : Int) : ∃ k : Int, IntKind.i64.wrap n = n + k * 18446744073709551616 := by
  rw [IntKind.wrap_i64]
  exact ⟨-((n + 9223372036854775808) / 18446744073709551616), by omega⟩
theorem wrap_cong {a b k : Int} (h : a = b + k * 18446744073709551616) (hb : in64 b) : IntKind.i64.wrap a = b := by
  unfold in64 at hb
  rw [IntKind.wrap_i64]; omega
theorem div_back {A B : Int} (hA : in64 A) : IntKind.i64.wrap (IntKind.i64.wrap (IntKind.i64.wrap (A.tdiv B) * B) + A.tmod B) = A := by
  have e := Int.mul_tdiv_add_tmod A B
  obtain ⟨k1, h1⟩ := wrap_ex (A.tdiv B)
  rw [h1]
  obtain ⟨k2, h2⟩ := wrap_ex ((A.tdiv B + k1 * 18446744073709551616) * B)
  rw [h2]
  refine wrap_cong (k := k1 * B + k2) ?_ hA
  have e2 : (A.tdiv B + k1 * 18446744073709551616) * B = B * A.tdiv B + (k1 * B) * 18446744073709551616 := by
    rw [Int.add_mul, Int.mul_comm (A.tdiv B) B, Int.mul_assoc, Int.mul_comm 18446744073709551616 B, ← Int.mul_assoc]
  rw [e2, Int.add_mul]
  generalize k1 * B = p at *
  generalize B * A.tdiv B = q at *
  omega
theorem mod_abs {A B : Int} (hB : ¬ B = 0) : (A.tmod B).natAbs < B.natAbs := by
  rw [Int.natAbs_tmod]
  exact Nat.mod_lt _ (by omega)
theorem mod_sign {A B : Int} (hm : ¬ A.tmod B = 0) : A.tmod B < 0 ↔ A < 0 := by
  constructor
  · intro h
    refine Int.not_le.1 fun h2 => ?_
    have := Int.tmod_nonneg B h2
    omega
  · intro h
    have h3 := Int.tmod_nonneg B (show 0 ≤ -A by omega)
    rw [Int.neg_tmod] at h3
    omega
end Go.Proofs.YtpoalnlkhlchbaaT
