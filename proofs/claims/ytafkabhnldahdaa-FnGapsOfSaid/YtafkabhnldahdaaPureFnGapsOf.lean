/- For every drawn row and word the program's GapsOf answers as the reference's does; it is less than the number of words of the yield; it is 0 for the root and for a word on which none depends; and the tree read from the last word has as many at that word. -/
import Derived.Test.YtafkabhnldahdaaBFnGapsOf
namespace Go.Proofs.Ytafkabhnldahdaa.Pure
open Go.Proofs.Ytafkabhnldahdaa.QFnGapsOf
open Go.RowKit Go.Proofs.YtafkabhnldahdaaW.PrintWords Go.Proofs.YtafkabhnldahdaaW.PrintLast Go.Proofs.YtafkabhnldahdaaW.PrintMore
set_option linter.unusedVariables false
set_option linter.unusedSimpArgs false
-- uses HdB
theorem FnGapsOf : laws_FnGapsOf.Pure := by
 intro l _ _ hw
 refine Ev.rounds (g := fun k => laws_FnGapsOf.f k l) ?_
 unfold laws_FnGapsOf.f
 by_cases hbig : (l.length : Int) > 1048576
 ·exact Ev.pos hbig (Ev.now _)
 refine Ev.neg hbig ?_
 obtain ⟨h, w, e, hl, w0, w1⟩ := spec_DrawGapsOf_ev hw
 have gb := Hd.gapsI_bd h w
 refine Ev.bind e (Ev.bind (impl_GapsOf_ev h w) (Ev.bind (spec_GapsOf_ev h w) (Ev.pos rfl ?_)))
 by_cases hn : Hd.gapsI h w < 0
 ·exact Ev.pos hn (Ev.pos (by omega) (Ev.bind laws_alive_ev (Ev.now _)))
 ·have W : Hd.T h ∧ 1 ≤ w ∧ w ≤ h.length := Classical.byContradiction fun k => hn (by rw [Hd.gapsI_no k]; omega)
  have lt := Hd.gapsI_lt (l := h) (w := w) (by omega)
  have bk := Hd.gaps_back W
  refine Ev.neg hn (Ev.bind (impl_DependsOf_ev h w) ?_)
  simp only
  rw [wid (x := (h.length : Int) + 1) (by omega) (by omega), wid (x := (h.length : Int) + 1 - w) (by omega) (by omega)]
  have end' : Ev (fun k => (impl_BackOf.f k h).bind fun t => ((impl_GapsOf.f k t ((h.length : Int) + 1 - w)).bind fun u => (some (u == Hd.gapsI h w)))) true :=
   Ev.bind (impl_BackOf_ev h) (Ev.bind (impl_GapsOf_ev _ _) (Ev.ret (by simpa using bk)))
  by_cases hk : ((Hd.kidL h w).length : Int) = 0
  ·exact Ev.pos hk (Ev.bind (impl_YieldOf_ev h w) (Ev.pos lt (Ev.pos (Hd.gaps_leaf W (by omega)) end')))
  ·refine Ev.neg hk (Ev.bind (impl_RootOf_ev h) (Ev.bind (impl_YieldOf_ev h w) (Ev.pos lt ?_)))
   by_cases hr : Hd.rootI h = w
   ·refine Ev.pos hr (Ev.pos ?_ end')
    rw [← hr]; exact Hd.gaps_root W.1
   ·exact Ev.neg hr end'

end Go.Proofs.Ytafkabhnldahdaa.Pure
