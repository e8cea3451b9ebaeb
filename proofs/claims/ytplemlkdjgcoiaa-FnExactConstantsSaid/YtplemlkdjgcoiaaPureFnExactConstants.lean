/- Proved: FnExactConstants returns true; there is no condition. -/
import Derived.Test.YtplemlkdjgcoiaaPFnExactConstantsx1
namespace Go.Proofs.Ytplemlkdjgcoiaa.Pure
open Go.RowKit Go.Proofs.Ytplemlkdjgcoiaa.PFnExactConstants Go.Proofs.YtplemlkdjgcoiaaW.PrintWords Go.Proofs.YtplemlkdjgcoiaaW.PrintLast


/-- YOURS: laws_FnExactConstants.f  = some true
What it reaches (each with k first where it has rounds; `.mono`: more rounds tell the same; `.l0`, ..: its loops, with `.mono_l`): laws_FnExactConstants.f -/
theorem FnExactConstants : laws_FnExactConstants.Pure := by
  rfl

end Go.Proofs.Ytplemlkdjgcoiaa.Pure
