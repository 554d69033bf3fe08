/- The program's MovesFor answers as the reference's does, for all arguments (rows of more than 1048576 numbers are let by). -/
import Derived.Test.YtdckgafgidfplaaBFnExactMovesFor
namespace Go.Proofs.Ytdckgafgidfplaa.Pure
open Go.Proofs.Ytdckgafgidfplaa.QFnExactMovesFor
open Go.RowKit Go.Proofs.YtdckgafgidfplaaW.PrintWords Go.Proofs.YtdckgafgidfplaaW.PrintLast Go.Proofs.YtdckgafgidfplaaW.PrintMore
set_option linter.unusedVariables false
set_option linter.unusedSimpArgs false
-- uses HdD
theorem FnExactMovesFor : laws_FnExactMovesFor.Pure := by
 intro l0 _ _ _
 refine Ev.rounds (g := fun k => laws_FnExactMovesFor.f k l0) ?_
 unfold laws_FnExactMovesFor.f
 by_cases hbig : (l0.length : Int) > 1048576
 ·exact Ev.pos hbig (Ev.now _)
 refine Ev.neg hbig ?_
 have L := laws_toIntS_ev (l := l0) (by omega)
 have E0 := laws_eqIntS_ev (a := l0) (b := l0) (by omega)
 have I := impl_MovesFor_ev l0
 have S := spec_MovesFor_ev l0
 unfold movP at S
 generalize (if Hd.flatB l0 = true then (Mach.movesF l0, true) else ((⟨#[]⟩ : ByteArray), false)) = x at I S
 refine Ev.bind L (Ev.bind S (Ev.bind L (Ev.bind I (Ev.pos rfl (laws_FnExactMovesFor.j0.ev (Ev.neg (by simp) ?_))))))
 exact Ev.bind L (Ev.bind E0 (Ev.pos (by simp) (Ev.now _)))

end Go.Proofs.Ytdckgafgidfplaa.Pure
