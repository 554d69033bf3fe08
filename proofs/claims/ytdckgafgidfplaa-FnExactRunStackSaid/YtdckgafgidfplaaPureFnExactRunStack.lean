/- The program's RunStack answers as the reference's does, for all arguments (texts of more than 1048576 bytes are let by). -/
import Derived.Test.YtdckgafgidfplaaBFnExactRunStack
namespace Go.Proofs.Ytdckgafgidfplaa.Pure
open Go.Proofs.Ytdckgafgidfplaa.QFnExactRunStack
open Go.RowKit Go.Proofs.YtdckgafgidfplaaW.PrintWords Go.Proofs.YtdckgafgidfplaaW.PrintLast Go.Proofs.YtdckgafgidfplaaW.PrintMore
set_option linter.unusedVariables false
set_option linter.unusedSimpArgs false
-- uses HdC
theorem FnExactRunStack : laws_FnExactRunStack.Pure := by
 intro a0 a1 _ hs
 refine Ev.rounds (g := fun k => laws_FnExactRunStack.f k a0 a1) ?_
 unfold laws_FnExactRunStack.f
 by_cases hbig : (a1.size : Int) > 1048576
 ·exact Ev.pos hbig (Ev.now _)
 refine Ev.neg hbig ?_
 have hl := runF_len a0 a1
 have S := spec_RunStack_ev a0 hs
 have I := impl_RunStack_eq a0 hs
 generalize Mach.runF a0 a1 = x at hl S I
 have E := laws_eqIntS_ev (a := x.1) (b := x.1) (by omega)
 refine Ev.bind S (Ev.bindv I (Ev.bind E (Ev.pos (by simp) (laws_FnExactRunStack.j0.ev (Ev.neg (by simp) (Ev.bind (laws_markIntS_ev (by omega) (by omega) (by omega)) (Ev.bind (laws_heldIntS_ev (by omega) (by omega) (by omega)) (Ev.neg (by omega) (Ev.pos rfl (Ev.bindv I (Ev.bind E (Ev.pos (by simp) (laws_FnExactRunStack.j1.ev (Ev.neg (by simp) (Ev.bind (laws_heldIntS_ev (by omega) (by omega) (by omega)) (Ev.neg (by omega) (Ev.pos rfl (Ev.now _))))))))))))))))))

end Go.Proofs.Ytdckgafgidfplaa.Pure
