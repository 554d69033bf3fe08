/- The program's UnderOk answers as the reference's does, for all arguments (rows of more than 1048576 numbers are let by). -/
import Derived.Test.YtogmdcdipnmbkaaBFnExactUnderOk
namespace Go.Proofs.Ytogmdcdipnmbkaa.Pure
open Go.Proofs.Ytogmdcdipnmbkaa.PFnExactUnderOk
open Go.RowKit Go.Proofs.YtogmdcdipnmbkaaW.PrintWords Go.Proofs.YtogmdcdipnmbkaaW.PrintLast Go.Proofs.YtogmdcdipnmbkaaW.PrintMore
set_option linter.unusedVariables false
theorem FnExactUnderOk : laws_FnExactUnderOk.Pure := by
  intro l0 a1 a2 _ _ _ _ _
  refine Ev.rounds (g := fun k => laws_FnExactUnderOk.f k l0 a1 a2) ?_
  unfold laws_FnExactUnderOk.f
  by_cases hbig : (l0.length : Int) > 1048576
  · exact Ev.pos hbig (Ev.now _)
  · refine Ev.neg hbig ?_
    have L := laws_toIntS_ev (l := l0) (by omega)
    exact Ev.bind L (Ev.bind (spec_UnderOk_ev l0 a1 a2) (Ev.bind L (Ev.bind (impl_UnderOk_ev l0 a1 a2) (Ev.neg (by simp) (Ev.bind L (Ev.bind (laws_eqIntS_ev (by omega)) (Ev.pos (by simp) (Ev.now _))))))))

end Go.Proofs.Ytogmdcdipnmbkaa.Pure
