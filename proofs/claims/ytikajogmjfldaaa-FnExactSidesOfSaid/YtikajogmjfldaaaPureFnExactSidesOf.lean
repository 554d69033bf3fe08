/- The program's SidesOf answers as the reference's does, for all arguments (rows of more than 1048576 numbers are let by). -/
import Derived.Test.YtikajogmjfldaaaBFnExactSidesOf
namespace Go.Proofs.Ytikajogmjfldaaa.Pure
open Go.Proofs.Ytikajogmjfldaaa.PFnExactSidesOf
open Go.RowKit Go.Proofs.YtikajogmjfldaaaW.PrintWords Go.Proofs.YtikajogmjfldaaaW.PrintLast Go.Proofs.YtikajogmjfldaaaW.PrintMore
set_option linter.unusedVariables false
theorem FnExactSidesOf : laws_FnExactSidesOf.Pure := by
  intro l0 a1 _ _ _ _
  refine Ev.rounds (g := fun k => laws_FnExactSidesOf.f k l0 a1) ?_
  unfold laws_FnExactSidesOf.f
  by_cases hbig : (l0.length : Int) > 1048576
  · exact Ev.pos hbig (Ev.now _)
  · refine Ev.neg hbig ?_
    have L := laws_toIntS_ev (l := l0) (by omega)
    have E0 := laws_eqIntS_ev (a := l0) (b := l0) (by omega)
    exact Ev.bind L (Ev.bind (spec_SidesOf_ev l0 a1) (Ev.bind L (Ev.bind (impl_SidesOf_ev l0 a1) (Ev.pos rfl (Ev.pos rfl (laws_FnExactSidesOf.j0.ev (Ev.neg (by simp) (Ev.bind L (Ev.bind E0 (Ev.pos (by simp) (Ev.now _)))))))))))

end Go.Proofs.Ytikajogmjfldaaa.Pure
