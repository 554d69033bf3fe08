/- The program's TreeOk answers as the reference's does, for every row of numbers. -/
import Derived.Test.YtogmdcdipnmbkaaBFnExactTreeOk
namespace Go.Proofs.Ytogmdcdipnmbkaa.Pure
open Go.Proofs.Ytogmdcdipnmbkaa.PFnExactTreeOk
open Go.RowKit Go.Proofs.YtogmdcdipnmbkaaW.PrintWords Go.Proofs.YtogmdcdipnmbkaaW.PrintLast Go.Proofs.YtogmdcdipnmbkaaW.PrintMore
set_option linter.unusedVariables false
theorem FnExactTreeOk : laws_FnExactTreeOk.Pure := by
  intro l0 _ _ _
  refine Ev.rounds (g := fun k => laws_FnExactTreeOk.f k l0) ?_
  unfold laws_FnExactTreeOk.f
  by_cases hbig : (l0.length : Int) > 1048576
  · exact Ev.pos hbig (Ev.now _)
  · refine Ev.neg hbig ?_
    have L := laws_toIntS_ev (l := l0) (by omega)
    exact Ev.bind L (Ev.bind (spec_TreeOk_ev l0) (Ev.bind L (Ev.bind (impl_TreeOk_ev l0) (Ev.neg (by simp) (Ev.bind L (Ev.bind (laws_eqIntS_ev (by omega)) (Ev.pos (by simp) (Ev.now _))))))))

end Go.Proofs.Ytogmdcdipnmbkaa.Pure
