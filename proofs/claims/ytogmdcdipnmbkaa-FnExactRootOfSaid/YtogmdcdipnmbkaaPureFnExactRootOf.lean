/- The program's RootOf answers as the reference's does, for all arguments (rows of more than 1048576 numbers are let by). -/
import Derived.Test.YtogmdcdipnmbkaaBFnExactRootOf
namespace Go.Proofs.Ytogmdcdipnmbkaa.Pure
open Go.Proofs.Ytogmdcdipnmbkaa.PFnExactRootOf
open Go.RowKit Go.Proofs.YtogmdcdipnmbkaaW.PrintWords Go.Proofs.YtogmdcdipnmbkaaW.PrintLast Go.Proofs.YtogmdcdipnmbkaaW.PrintMore
set_option linter.unusedVariables false
theorem FnExactRootOf : laws_FnExactRootOf.Pure := by
  intro l0 _ _ _
  refine Ev.rounds (g := fun k => laws_FnExactRootOf.f k l0) ?_
  unfold laws_FnExactRootOf.f
  by_cases hbig : (l0.length : Int) > 1048576
  · exact Ev.pos hbig (Ev.now _)
  · refine Ev.neg hbig ?_
    have L := laws_toIntS_ev (l := l0) (by omega)
    exact Ev.bind L (Ev.bind (spec_RootOf_ev l0) (Ev.bind L (Ev.bind (impl_RootOf_ev l0) (Ev.pos rfl (Ev.bind L (Ev.bind (laws_eqIntS_ev (by omega)) (Ev.pos (by simp) (Ev.now _))))))))

end Go.Proofs.Ytogmdcdipnmbkaa.Pure
