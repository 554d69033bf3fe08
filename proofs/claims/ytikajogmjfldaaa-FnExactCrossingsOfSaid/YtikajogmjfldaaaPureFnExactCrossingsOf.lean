/- The program's CrossingsOf answers as the reference's does, for all arguments (rows of more than 1048576 numbers are let by). -/
import Derived.Test.YtikajogmjfldaaaBFnExactCrossingsOf
namespace Go.Proofs.Ytikajogmjfldaaa.Pure
open Go.Proofs.Ytikajogmjfldaaa.QFnExactCrossingsOf
open Go.RowKit Go.Proofs.YtikajogmjfldaaaW.PrintWords Go.Proofs.YtikajogmjfldaaaW.PrintLast Go.Proofs.YtikajogmjfldaaaW.PrintMore
set_option linter.unusedVariables false
theorem FnExactCrossingsOf : laws_FnExactCrossingsOf.Pure := by
 intro l0 _ _ _
 refine Ev.rounds (g := fun k => laws_FnExactCrossingsOf.f k l0) ?_
 unfold laws_FnExactCrossingsOf.f
 by_cases hbig : (l0.length : Int) > 1048576
 ·exact Ev.pos hbig (Ev.now _)
 ·refine Ev.neg hbig ?_
  have L := laws_toIntS_ev (l := l0) (by omega)
  exact Ev.bind L (Ev.bind (spec_CrossingsOf_ev l0) (Ev.bind L (Ev.bind (impl_CrossingsOf_ev l0) (Ev.pos rfl (Ev.bind L (Ev.bind (laws_eqIntS_ev (by omega)) (Ev.pos (by simp) (Ev.now _))))))))

end Go.Proofs.Ytikajogmjfldaaa.Pure
