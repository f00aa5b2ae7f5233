/- The program's named constants are those of the reference; no condition. -/
import Derived.Test.YtnfpcgjdpcmkcaaPFnExactConstantsx1
namespace Go.Proofs.Ytnfpcgjdpcmkcaa.Pure
open Go.RowKit Go.Proofs.Ytnfpcgjdpcmkcaa.PFnExactConstants Go.Proofs.YtnfpcgjdpcmkcaaW.PrintWords Go.Proofs.YtnfpcgjdpcmkcaaW.PrintLast

theorem FnExactConstants : laws_FnExactConstants.Pure := by
  unfold laws_FnExactConstants.Pure laws_FnExactConstants.f
  rfl

end Go.Proofs.Ytnfpcgjdpcmkcaa.Pure
