/- The program's exported constants have the values that the document gives them: the law's function returns true. -/
import Derived.Test.YtbaghlplpkpknaaPFnExactConstantsx1
namespace Go.Proofs.Ytbaghlplpkpknaa.Pure
open Go.RowKit Go.Proofs.Ytbaghlplpkpknaa.PFnExactConstants Go.Proofs.YtbaghlplpkpknaaW.PrintWords Go.Proofs.YtbaghlplpkpknaaW.PrintLast

/-- YOURS: laws_FnExactConstants.f  = some true
What it reaches (each with k first where it has rounds; `.mono`: more rounds tell the same; `.l0`, ..: its loops, with `.mono_l`): laws_FnExactConstants.f -/
theorem FnExactConstants : laws_FnExactConstants.Pure := by
  rfl

end Go.Proofs.Ytbaghlplpkpknaa.Pure
