/- The program's DeepestStack answers as the reference's does, for all arguments (texts of more than 1048576 bytes are let by). -/
import Derived.Test.YtdckgafgidfplaaBFnExactDeepestStack
namespace Go.Proofs.Ytdckgafgidfplaa.Pure
open Go.Proofs.Ytdckgafgidfplaa.QFnExactDeepestStack
open Go.RowKit Go.Proofs.YtdckgafgidfplaaW.PrintWords Go.Proofs.YtdckgafgidfplaaW.PrintLast Go.Proofs.YtdckgafgidfplaaW.PrintMore
set_option linter.unusedVariables false
set_option linter.unusedSimpArgs false
-- uses HdC
theorem FnExactDeepestStack : laws_FnExactDeepestStack.Pure := by
 intro a0 a1 _ hs
 refine Ev.rounds (g := fun k => laws_FnExactDeepestStack.f k a0 a1) ?_
 unfold laws_FnExactDeepestStack.f
 by_cases hbig : (a1.size : Int) > 1048576
 ·exact Ev.pos hbig (Ev.now _)
 exact Ev.neg hbig (Ev.bind (spec_DeepestStack_ev a0 hs) (Ev.bindv (impl_DeepestStack_eq a0 hs) (Ev.pos rfl (Ev.now _))))

end Go.Proofs.Ytdckgafgidfplaa.Pure
