/- The program's exported constants are the document's: the law FnExactConstants returns true, without any condition. -/
import Derived.Test.YtcccigapbalidaaPFnExactConstantsx1
namespace Go.Proofs.Ytcccigapbalidaa.Pure
open Go.RowKit Go.Proofs.Ytcccigapbalidaa.PFnExactConstants Go.Proofs.YtcccigapbalidaaW.PrintWords Go.Proofs.YtcccigapbalidaaW.PrintLast

/-- YOURS: laws_FnExactConstants.f  = some true
What it reaches (each with k first where it has rounds; `.mono`: more rounds tell the same; `.l0`, ..: its loops, with `.mono_l`): laws_FnExactConstants.f -/
theorem FnExactConstants : laws_FnExactConstants.Pure := by
  rfl

end Go.Proofs.Ytcccigapbalidaa.Pure
