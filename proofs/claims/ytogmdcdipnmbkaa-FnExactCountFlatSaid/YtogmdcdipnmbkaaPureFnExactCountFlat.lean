/- The program's CountFlat answers as the reference's does, for all arguments. -/
import Derived.Test.YtogmdcdipnmbkaaBFnExactCountFlat
namespace Go.Proofs.Ytogmdcdipnmbkaa.Pure
open Go.Proofs.Ytogmdcdipnmbkaa.QFnExactCountFlat
open Go.RowKit Go.Proofs.YtogmdcdipnmbkaaW.PrintWords Go.Proofs.YtogmdcdipnmbkaaW.PrintLast Go.Proofs.YtogmdcdipnmbkaaW.PrintMore
set_option linter.unusedVariables false
theorem FnExactCountFlat : laws_FnExactCountFlat.Pure := by
 intro a _
 refine Ev.rounds (g := fun k => laws_FnExactCountFlat.f k a) ?_
 unfold laws_FnExactCountFlat.f
 exact Ev.bind (spec_CountFlat_ev a) (Ev.bind (impl_CountFlat_ev a) (Ev.pos rfl (Ev.now _)))

end Go.Proofs.Ytogmdcdipnmbkaa.Pure
