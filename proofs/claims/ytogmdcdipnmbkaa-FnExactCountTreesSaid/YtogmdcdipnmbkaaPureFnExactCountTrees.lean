/- The program's CountTrees answers as the reference's does, for all arguments. -/
import Derived.Test.YtogmdcdipnmbkaaBFnExactCountTrees
namespace Go.Proofs.Ytogmdcdipnmbkaa.Pure
open Go.Proofs.Ytogmdcdipnmbkaa.PFnExactCountTrees
open Go.RowKit Go.Proofs.YtogmdcdipnmbkaaW.PrintWords Go.Proofs.YtogmdcdipnmbkaaW.PrintLast Go.Proofs.YtogmdcdipnmbkaaW.PrintMore
set_option linter.unusedVariables false
theorem FnExactCountTrees : laws_FnExactCountTrees.Pure := by
  intro a _
  refine Ev.rounds (g := fun k => laws_FnExactCountTrees.f k a) ?_
  unfold laws_FnExactCountTrees.f
  exact Ev.bind (spec_CountTrees_ev a) (Ev.bind (impl_CountTrees_ev a) (Ev.pos rfl (Ev.now _)))

end Go.Proofs.Ytogmdcdipnmbkaa.Pure
