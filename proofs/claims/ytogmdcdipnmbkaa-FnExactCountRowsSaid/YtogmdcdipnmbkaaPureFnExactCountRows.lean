/- The program's CountRows answers as the reference's does, for all arguments. -/
import Derived.Test.YtogmdcdipnmbkaaBFnExactCountRows
namespace Go.Proofs.Ytogmdcdipnmbkaa.Pure
open Go.Proofs.Ytogmdcdipnmbkaa.QFnExactCountRows
open Go.RowKit Go.Proofs.YtogmdcdipnmbkaaW.PrintWords Go.Proofs.YtogmdcdipnmbkaaW.PrintLast Go.Proofs.YtogmdcdipnmbkaaW.PrintMore
set_option linter.unusedVariables false
theorem FnExactCountRows : laws_FnExactCountRows.Pure := by
 intro a _
 refine Ev.rounds (g := fun k => laws_FnExactCountRows.f k a) ?_
 unfold laws_FnExactCountRows.f
 exact Ev.bind (spec_CountRows_ev a) (Ev.bind (impl_CountRows_ev a) (Ev.pos rfl (Ev.now _)))

end Go.Proofs.Ytogmdcdipnmbkaa.Pure
