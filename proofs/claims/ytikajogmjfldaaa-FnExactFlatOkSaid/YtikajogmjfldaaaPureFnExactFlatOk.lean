/- The program's FlatOk answers as the reference's does, for all arguments (rows of more than 1048576 numbers are let by). -/
import Derived.Test.YtikajogmjfldaaaBFnExactFlatOk
namespace Go.Proofs.Ytikajogmjfldaaa.Pure
open Go.Proofs.Ytikajogmjfldaaa.PFnExactFlatOk
open Go.RowKit Go.Proofs.YtikajogmjfldaaaW.PrintWords Go.Proofs.YtikajogmjfldaaaW.PrintLast Go.Proofs.YtikajogmjfldaaaW.PrintMore
set_option linter.unusedVariables false
theorem FnExactFlatOk : laws_FnExactFlatOk.Pure := by
  intro l0 _ _ _
  refine Ev.rounds (g := fun k => laws_FnExactFlatOk.f k l0) ?_
  unfold laws_FnExactFlatOk.f
  by_cases hbig : (l0.length : Int) > 1048576
  · exact Ev.pos hbig (Ev.now _)
  · refine Ev.neg hbig ?_
    have L := laws_toIntS_ev (l := l0) (by omega)
    exact Ev.bind L (Ev.bind (spec_FlatOk_ev l0) (Ev.bind L (Ev.bind (impl_FlatOk_ev l0) (Ev.neg (by simp) (Ev.bind L (Ev.bind (laws_eqIntS_ev (by omega)) (Ev.pos (by simp) (Ev.now _))))))))

end Go.Proofs.Ytikajogmjfldaaa.Pure
