/- The Go law FnExactConstants answers true: the program's constants are those of the document. No condition. -/
import Derived.Test.YtlddgmpaaobpoaaQ1
namespace Go.Proofs.Ytlddgmpaaobpoaa.Pure
open Go.RowKit Go.Proofs.Ytlddgmpaaobpoaa.Q Go.Proofs.YtlddgmpaaobpoaaW.PrintWords Go.Proofs.YtlddgmpaaobpoaaW.PrintLast

/-- YOURS: laws_FnExactConstants.f  = some true
What it reaches (each with k first where it has rounds; `.mono`: more rounds tell the same; `.l0`, ..: its loops, with `.mono_l`): laws_FnExactConstants.f -/
theorem FnExactConstants : laws_FnExactConstants.Pure := by
  unfold laws_FnExactConstants.Pure laws_FnExactConstants.f; rfl

end Go.Proofs.Ytlddgmpaaobpoaa.Pure
