/- The law FnExactConstants of the folder, read as a plain function, answers true. -/
import Derived.Test.YtclmompgjjmooaaPFnExactConstantsx1
namespace Go.Proofs.Ytclmompgjjmooaa.Pure
open Go.RowKit Go.Proofs.Ytclmompgjjmooaa.PFnExactConstants Go.Proofs.YtclmompgjjmooaaW.PrintWords Go.Proofs.YtclmompgjjmooaaW.PrintLast

theorem FnExactConstants : laws_FnExactConstants.Pure := by
  first | rfl | decide | simp [laws_FnExactConstants.Pure, laws_FnExactConstants.f]

end Go.Proofs.Ytclmompgjjmooaa.Pure
