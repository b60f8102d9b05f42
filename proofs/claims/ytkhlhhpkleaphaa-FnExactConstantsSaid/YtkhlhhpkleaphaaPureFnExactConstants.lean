/- The program's exported constants have the values of the specification. -/
import Derived.Test.YtkhlhhpkleaphaaPFnExactConstantsx1
namespace Go.Proofs.Ytkhlhhpkleaphaa.Pure
open Go.RowKit Go.Proofs.Ytkhlhhpkleaphaa.PFnExactConstants Go.Proofs.YtkhlhhpkleaphaaW.PrintWords Go.Proofs.YtkhlhhpkleaphaaW.PrintLast Go.Proofs.YtkhlhhpkleaphaaW.PrintMore

theorem FnExactConstants : laws_FnExactConstants.Pure := by
  rfl

end Go.Proofs.Ytkhlhhpkleaphaa.Pure
