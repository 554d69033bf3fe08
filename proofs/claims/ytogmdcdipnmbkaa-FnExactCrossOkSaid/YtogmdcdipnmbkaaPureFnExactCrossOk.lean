/- The program's CrossOk answers as the reference's does, for all arguments. -/
import Derived.Test.YtogmdcdipnmbkaaBFnExactCrossOk
namespace Go.Proofs.Ytogmdcdipnmbkaa.Pure
open Go.Proofs.Ytogmdcdipnmbkaa.PFnExactCrossOk
open Go.RowKit Go.Proofs.YtogmdcdipnmbkaaW.PrintWords Go.Proofs.YtogmdcdipnmbkaaW.PrintLast Go.Proofs.YtogmdcdipnmbkaaW.PrintMore
set_option linter.unusedVariables false
theorem FnExactCrossOk : laws_FnExactCrossOk.Pure := by
  intro a b c d _ _ _ _
  refine Ev.rounds (g := fun k => laws_FnExactCrossOk.f k a b c d) ?_
  unfold laws_FnExactCrossOk.f
  exact Ev.bindv (spec_CrossOk_eq a b c d) (Ev.bind (impl_CrossOk_ev a b c d) (Ev.neg (by simp) (Ev.now _)))

end Go.Proofs.Ytogmdcdipnmbkaa.Pure
