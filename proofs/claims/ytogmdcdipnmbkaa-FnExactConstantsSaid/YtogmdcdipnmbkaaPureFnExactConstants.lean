/- Every constant of the program has the value that the reference gives. -/
import Derived.Test.YtogmdcdipnmbkaaBFnExactConstants
namespace Go.Proofs.Ytogmdcdipnmbkaa.Pure
open Go.Proofs.Ytogmdcdipnmbkaa.PFnExactConstants
open Go.RowKit Go.Proofs.YtogmdcdipnmbkaaW.PrintWords Go.Proofs.YtogmdcdipnmbkaaW.PrintLast Go.Proofs.YtogmdcdipnmbkaaW.PrintMore
set_option linter.unusedVariables false
theorem FnExactConstants : laws_FnExactConstants.Pure := rfl

end Go.Proofs.Ytogmdcdipnmbkaa.Pure
