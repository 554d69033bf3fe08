/- The program's MeetOf answers as the reference's does, for all arguments (rows of more than 1048576 numbers are let by). -/
import Derived.Test.YtikajogmjfldaaaBFnExactMeetOf
namespace Go.Proofs.Ytikajogmjfldaaa.Pure
open Go.Proofs.Ytikajogmjfldaaa.PFnExactMeetOf
open Go.RowKit Go.Proofs.YtikajogmjfldaaaW.PrintWords Go.Proofs.YtikajogmjfldaaaW.PrintLast Go.Proofs.YtikajogmjfldaaaW.PrintMore
set_option linter.unusedVariables false
theorem FnExactMeetOf : laws_FnExactMeetOf.Pure := by
  intro l0 a1 a2 _ _ _ _ _
  refine Ev.rounds (g := fun k => laws_FnExactMeetOf.f k l0 a1 a2) ?_
  unfold laws_FnExactMeetOf.f
  by_cases hbig : (l0.length : Int) > 1048576
  · exact Ev.pos hbig (Ev.now _)
  · refine Ev.neg hbig ?_
    have L := laws_toIntS_ev (l := l0) (by omega)
    exact Ev.bind L (Ev.bind (spec_MeetOf_ev l0 a1 a2) (Ev.bind L (Ev.bind (impl_MeetOf_ev l0 a1 a2) (Ev.pos rfl (Ev.bind L (Ev.bind (laws_eqIntS_ev (by omega)) (Ev.pos (by simp) (Ev.now _))))))))

end Go.Proofs.Ytikajogmjfldaaa.Pure
