/- The program's NestedOk answers as the reference's does, for all arguments (rows of more than 1048576 numbers are let by). -/
import Derived.Test.YtaclehflljpfgaaBFnExactNestedOk
namespace Go.Proofs.Ytaclehflljpfgaa.Pure
open Go.Proofs.Ytaclehflljpfgaa.PFnExactNestedOk
open Go.RowKit Go.Proofs.YtaclehflljpfgaaW.PrintWords Go.Proofs.YtaclehflljpfgaaW.PrintLast Go.Proofs.YtaclehflljpfgaaW.PrintMore
set_option linter.unusedVariables false
theorem FnExactNestedOk : laws_FnExactNestedOk.Pure := by
  intro l0 _ _ _
  refine Ev.rounds (g := fun k => laws_FnExactNestedOk.f k l0) ?_
  unfold laws_FnExactNestedOk.f
  by_cases hbig : (l0.length : Int) > 1048576
  · exact Ev.pos hbig (Ev.now _)
  · refine Ev.neg hbig ?_
    have L := laws_toIntS_ev (l := l0) (by omega)
    exact Ev.bind L (Ev.bind (spec_NestedOk_ev l0 (by omega)) (Ev.bind L (Ev.bind (impl_NestedOk_ev l0 (by omega)) (Ev.neg (by simp) (Ev.bind L (Ev.bind (laws_eqIntS_ev (by omega)) (Ev.pos (by simp) (Ev.now _))))))))

end Go.Proofs.Ytaclehflljpfgaa.Pure
