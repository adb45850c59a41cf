/- The pure statement of FnExactConstants: what the printed functions of the program and of the reference compute makes the law answer true, for all arguments (each number of its kind). -/
import Derived.Test.YtejodldgipnhcaaPFnExactConstantsx1
import Derived.Test.YtejodldgipnhcaaBase
set_option linter.unusedVariables false
set_option linter.unusedSimpArgs false
namespace Go.Proofs.Ytejodldgipnhcaa.Pure
open Go.RowKit Go.Proofs.Ytejodldgipnhcaa.PFnExactConstants Go.Proofs.YtejodldgipnhcaaW.PrintWords Go.Proofs.YtejodldgipnhcaaW.PrintLast Go.Proofs.YtejodldgipnhcaaW.PrintMore Go.Proofs.Ytejodldgipnhcaa.Base
namespace FnExactConstants_
theorem FnExactConstants : laws_FnExactConstants.Pure := by
  unfold laws_FnExactConstants.Pure laws_FnExactConstants.f; rfl
end FnExactConstants_
theorem FnExactConstants : laws_FnExactConstants.Pure := FnExactConstants_.FnExactConstants
end Go.Proofs.Ytejodldgipnhcaa.Pure
