/- The program's OrderOk answers as the reference's does, for all arguments (rows of more than 1048576 numbers are let by). -/
import Derived.Test.YtfccopfhniobjaaBFnExactOrderOk
namespace Go.Proofs.Ytfccopfhniobjaa.Pure
open Go.Proofs.Ytfccopfhniobjaa.QFnExactOrderOk
open Go.RowKit Go.Proofs.YtfccopfhniobjaaW.PrintWords Go.Proofs.YtfccopfhniobjaaW.PrintLast Go.Proofs.YtfccopfhniobjaaW.PrintMore
set_option linter.unusedVariables false
set_option linter.unusedSimpArgs false
-- uses HdG
theorem FnExactOrderOk : laws_FnExactOrderOk.Pure := by
 intro l0 a1 _ _ _ _
 refine Ev.rounds (g := fun k => laws_FnExactOrderOk.f k l0 a1) ?_
 unfold laws_FnExactOrderOk.f
 by_cases hbig : (l0.length : Int) > 1048576
 ·exact Ev.pos hbig (Ev.now _)
 refine Ev.neg hbig ?_
 have L := laws_toIntS_ev (l := l0) (by omega)
 have E0 := laws_eqIntS_ev (a := l0) (b := l0) (by omega)
 exact Ev.bind L (Ev.bind (spec_OrderOk_ev (by omega) a1) (Ev.bind L (Ev.bindv (impl_OrderOk_eq l0 a1) (Ev.neg (by simp) (Ev.bind L (Ev.bind E0 (Ev.pos (by simp) (Ev.now _))))))))

end Go.Proofs.Ytfccopfhniobjaa.Pure
