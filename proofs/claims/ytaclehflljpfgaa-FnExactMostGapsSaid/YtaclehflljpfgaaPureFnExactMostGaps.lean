/- The program's MostGaps answers as the reference's does, for all arguments (rows of more than 1048576 numbers are let by). -/
import Derived.Test.YtaclehflljpfgaaBFnExactMostGaps
namespace Go.Proofs.Ytaclehflljpfgaa.Pure
open Go.Proofs.Ytaclehflljpfgaa.QFnExactMostGaps
open Go.RowKit Go.Proofs.YtaclehflljpfgaaW.PrintWords Go.Proofs.YtaclehflljpfgaaW.PrintLast Go.Proofs.YtaclehflljpfgaaW.PrintMore
set_option linter.unusedVariables false
-- uses HdB
theorem FnExactMostGaps : laws_FnExactMostGaps.Pure := by
 intro l0 _ _ _
 refine Ev.rounds (g := fun k => laws_FnExactMostGaps.f k l0) ?_
 unfold laws_FnExactMostGaps.f
 by_cases hbig : (l0.length : Int) > 1048576
 ·exact Ev.pos hbig (Ev.now _)
 ·refine Ev.neg hbig ?_
  have L := laws_toIntS_ev (l := l0) (by omega)
  have E0 := laws_eqIntS_ev (a := l0) (b := l0) (by omega)
  exact Ev.bind L (Ev.bind (spec_MostGaps_ev l0) (Ev.bind L (Ev.bind (impl_MostGaps_ev (by omega)) (Ev.pos rfl (Ev.bind L (Ev.bind E0 (Ev.pos (by simp) (Ev.now _))))))))

end Go.Proofs.Ytaclehflljpfgaa.Pure
