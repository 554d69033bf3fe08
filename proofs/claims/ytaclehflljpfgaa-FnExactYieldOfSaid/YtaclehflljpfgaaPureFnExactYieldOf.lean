/- The program's YieldOf answers as the reference's does, for all arguments (rows of more than 1048576 numbers are let by). -/
import Derived.Test.YtaclehflljpfgaaBFnExactYieldOf
namespace Go.Proofs.Ytaclehflljpfgaa.Pure
open Go.Proofs.Ytaclehflljpfgaa.QFnExactYieldOf
open Go.RowKit Go.Proofs.YtaclehflljpfgaaW.PrintWords Go.Proofs.YtaclehflljpfgaaW.PrintLast Go.Proofs.YtaclehflljpfgaaW.PrintMore
set_option linter.unusedVariables false
theorem FnExactYieldOf : laws_FnExactYieldOf.Pure := by
 intro l0 a1 _ _ _ _
 refine Ev.rounds (g := fun k => laws_FnExactYieldOf.f k l0 a1) ?_
 unfold laws_FnExactYieldOf.f
 by_cases hbig : (l0.length : Int) > 1048576
 ·exact Ev.pos hbig (Ev.now _)
 ·refine Ev.neg hbig ?_
  have L := laws_toIntS_ev (l := l0) (by omega)
  have hr : (Hd.yldL l0 a1).length ≤ 1048576 := by have := Hd.yldL_len l0 a1; omega
  have E := laws_eqIntS_ev (a := Hd.yldL l0 a1) (b := Hd.yldL l0 a1) hr
  have E0 := laws_eqIntS_ev (a := l0) (b := l0) (by omega)
  refine Ev.bind L (Ev.bind (spec_YieldOf_ev l0 a1) (Ev.bind L (Ev.bind (impl_YieldOf_ev l0 a1) (Ev.bind E (Ev.pos (by simp) (Ev.bind L (Ev.bind E0 (Ev.pos (by simp) (Ev.bind (laws_markIntS_ev (by omega) (by omega) (by omega)) (Ev.neg (by simp only; omega) (Ev.bind E ?_)))))))))))
  refine laws_FnExactYieldOf.j0.ev (Ev.neg (by simp) (Ev.bind (laws_markIntS_ev (by omega) (by omega) (by omega)) (Ev.bind (laws_heldIntS_ev (by omega) (by omega) (by omega)) (Ev.neg (by omega) (Ev.pos rfl (Ev.bind L (Ev.bind (impl_YieldOf_ev l0 a1) (Ev.bind E (Ev.pos (by simp) (Ev.bind (laws_heldIntS_ev (by omega) (by omega) (by omega)) (Ev.neg (by omega) (Ev.pos rfl (Ev.now _)))))))))))))

end Go.Proofs.Ytaclehflljpfgaa.Pure
