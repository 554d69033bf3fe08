/- For every drawn row and pair of words the program's TurnsOk answers as the reference's does; it holds the other way just if it does; and if it holds neither word is under the other one, and both yields have a gap. -/
import Derived.Test.YtafkabhnldahdaaBFnTurnsOk
namespace Go.Proofs.Ytafkabhnldahdaa.Pure
open Go.Proofs.Ytafkabhnldahdaa.QFnTurnsOk
open Go.RowKit Go.Proofs.YtafkabhnldahdaaW.PrintWords Go.Proofs.YtafkabhnldahdaaW.PrintLast Go.Proofs.YtafkabhnldahdaaW.PrintMore
set_option linter.unusedVariables false
set_option linter.unusedSimpArgs false
-- uses HdB
theorem FnTurnsOk : laws_FnTurnsOk.Pure := by
 intro l _ _ hw
 refine Ev.rounds (g := fun k => laws_FnTurnsOk.f k l) ?_
 unfold laws_FnTurnsOk.f
 by_cases hbig : (l.length : Int) > 1048576
 ·exact Ev.pos hbig (Ev.now _)
 refine Ev.neg hbig ?_
 obtain ⟨h, a, b, e⟩ := spec_DrawTurnsOk_ev hw
 refine Ev.bind e (Ev.bind (impl_TurnsOk_ev h a b) (Ev.bind (spec_TurnsOk_ev h a b) (Ev.neg (by simp) (Ev.bind (impl_TurnsOk_ev h b a) (Ev.pos (by simp [Hd.turns_swap h a b]) ?_)))))
 by_cases ht : turnsB h a b = true
 ·have T := turnsB_true.1 ht
  have G := Hd.turns_gap ht
  have n1 : ¬ uokB h a b = true := fun k => T.2.2.2.1 (uokB_true.1 k).2.2.2
  have n2 : ¬ uokB h b a = true := fun k => T.2.2.2.2.1 (uokB_true.1 k).2.2.2
  exact Ev.pos ht (Ev.bind (impl_UnderOk_ev h a b) (Ev.neg n1 (Ev.bind (impl_UnderOk_ev h b a) (Ev.neg n2 (Ev.bind (impl_GapsOf_ev h a) (Ev.pos G.1 (Ev.bind (impl_GapsOf_ev h b) (Ev.pos G.2 (Ev.bind laws_alive_ev (Ev.now _))))))))))
 ·exact Ev.neg ht (Ev.bind laws_alive_ev (Ev.now _))

end Go.Proofs.Ytafkabhnldahdaa.Pure
