/- The program's RunEager answers as the reference's does, for all arguments (texts of more than 1048576 bytes are let by). -/
import Derived.Test.YtdckgafgidfplaaBFnExactRunEager
namespace Go.Proofs.Ytdckgafgidfplaa.Pure
open Go.Proofs.Ytdckgafgidfplaa.QFnExactRunEager
open Go.RowKit Go.Proofs.YtdckgafgidfplaaW.PrintWords Go.Proofs.YtdckgafgidfplaaW.PrintLast Go.Proofs.YtdckgafgidfplaaW.PrintMore
set_option linter.unusedVariables false
set_option linter.unusedSimpArgs false
-- base Hd8
-- flat
-- uses HdF
theorem FnExactRunEager : laws_FnExactRunEager.Pure := by
 intro a0 a1 _ hs
 refine Ev.rounds (g := fun k => laws_FnExactRunEager.f k a0 a1) ?_
 unfold laws_FnExactRunEager.f
 by_cases hbig : (a1.size : Int) > 1048576
 ·exact Ev.pos hbig (Ev.now _)
 refine Ev.neg hbig ?_
 have hl := runEF_len a0 a1
 have S := spec_RunEager_ev a0 hs
 have I := impl_RunEager_eq a0 hs
 generalize Mach.runEF a0 a1 = x at hl S I
 have E := laws_eqIntS_ev (a := x.1) (b := x.1) (by omega)
 refine Ev.bind S (Ev.bindv I (Ev.bind E (Ev.pos (by simp) (laws_FnExactRunEager.j0.ev (Ev.neg (by simp) (Ev.bind (laws_markIntS_ev (by omega) (by omega) (by omega)) (Ev.bind (laws_heldIntS_ev (by omega) (by omega) (by omega)) (Ev.neg (by omega) (Ev.pos rfl (Ev.bindv I (Ev.bind E (Ev.pos (by simp) (laws_FnExactRunEager.j1.ev (Ev.neg (by simp) (Ev.bind (laws_heldIntS_ev (by omega) (by omega) (by omega)) (Ev.neg (by omega) (Ev.pos rfl (Ev.now _))))))))))))))))))

end Go.Proofs.Ytdckgafgidfplaa.Pure
