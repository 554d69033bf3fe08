/- The program's PlaceOf answers as the reference's does, for all arguments, and leaves its argument as it was (rows of more than 1048576 numbers are let by). -/
import Derived.Test.YtfccopfhniobjaaBFnExactPlaceOf
namespace Go.Proofs.Ytfccopfhniobjaa.Pure
open Go.Proofs.Ytfccopfhniobjaa.QFnExactPlaceOf
open Go.RowKit Go.Proofs.YtfccopfhniobjaaW.PrintWords Go.Proofs.YtfccopfhniobjaaW.PrintLast Go.Proofs.YtfccopfhniobjaaW.PrintMore
set_option linter.unusedVariables false
set_option linter.unusedSimpArgs false
-- base Hd9
-- uses HdI
theorem FnExactPlaceOf : laws_FnExactPlaceOf.Pure := by
 intro l0 _ _ _
 refine Ev.rounds (g := fun k => laws_FnExactPlaceOf.f k l0) ?_
 unfold laws_FnExactPlaceOf.f
 by_cases hbig : (l0.length : Int) > 1048576
 ·exact Ev.pos hbig (Ev.now _)
 refine Ev.neg hbig ?_
 have L := laws_toIntS_ev (l := l0) (by omega)
 have E0 := laws_eqIntS_ev (a := l0) (b := l0) (by omega)
 have I := impl_PlaceOf_ev l0
 have S := spec_PlaceOf_ev l0
 generalize placeI l0 = x at I S
 exact Ev.bind L (Ev.bind S (Ev.bind L (Ev.bind I (Ev.pos rfl (Ev.bind L (Ev.bind E0 (Ev.pos (by simp) (Ev.now _))))))))

end Go.Proofs.Ytfccopfhniobjaa.Pure
