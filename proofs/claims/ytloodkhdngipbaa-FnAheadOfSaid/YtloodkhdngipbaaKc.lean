/- The law FnExactEntsOk, walked. -/
import Derived.Test.YtloodkhdngipbaaKb
namespace Go.Proofs.YtloodkhdngipbaaT
set_option linter.unusedVariables false
set_option linter.unusedSimpArgs false
open Go

theorem szEntsF_len {g f : List Int} {n : Int} (h : ¬ szEntsF g f n < 0) : g.length ≤ n ∧ f.length ≤ n := by
  unfold szEntsF at h
  split at h
  · omega
  · rename_i h1
    have h2 := szF_k n g.length (by omega)
    have h3 := szF_k _ f.length (by omega : 0 ≤ szF (szF n g.length) f.length)
    unfold szF at h1 h3
    split at h3 <;> omega

end Go.Proofs.YtloodkhdngipbaaT
