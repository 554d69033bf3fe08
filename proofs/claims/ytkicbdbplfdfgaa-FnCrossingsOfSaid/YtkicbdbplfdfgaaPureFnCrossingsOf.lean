/- For every drawn row the program's CrossingsOf answers as the reference's does; it is 0 for flat trees and for trees of fewer than four words, and the same for the tree read from the last word. -/
import Derived.Test.YtkicbdbplfdfgaaBFnCrossingsOf
namespace Go.Proofs.Ytkicbdbplfdfgaa.Pure
open Go.Proofs.Ytkicbdbplfdfgaa.QFnCrossingsOf
open Go.RowKit Go.Proofs.YtkicbdbplfdfgaaW.PrintWords Go.Proofs.YtkicbdbplfdfgaaW.PrintLast Go.Proofs.YtkicbdbplfdfgaaW.PrintMore
set_option linter.unusedVariables false
theorem FnCrossingsOf : laws_FnCrossingsOf.Pure := by
 intro l _ _ hw
 refine Ev.rounds (g := fun k => laws_FnCrossingsOf.f k l) ?_
 unfold laws_FnCrossingsOf.f
 by_cases hbig : (l.length : Int) > 1048576
 ·exact Ev.pos hbig (Ev.now _)
 refine Ev.neg hbig ?_
 obtain ⟨h, e, hl⟩ := spec_DrawCrossingsOf_ev hw
 refine Ev.bind e (Ev.bind (impl_CrossingsOf_ev h) (Ev.bind (spec_CrossingsOf_ev h) (Ev.pos rfl ?_)))
 by_cases t : Hd.T h
 ·have ci : crossI h = crsN h h.length := by rw [crossI, if_pos t]
  have cb : crossI (Hd.backL h) = crossI h := by rw [ci, crossI, if_pos (Hd.back_T t), Hd.crsN_back t]
  have end' : Ev (fun k => (impl_BackOf.f k h).bind fun u => ((impl_CrossingsOf.f k u).bind fun v => (if v = crossI h then ((laws_alive.f k).bind fun w => (some w)) else (some false)))) true :=
   Ev.bind (impl_BackOf_ev h) (Ev.bind (impl_CrossingsOf_ev _) (Ev.pos cb (Ev.bind laws_alive_ev (Ev.now _))))
  refine Ev.neg (by rw [ci]; omega) ?_
  by_cases hz : crossI h = 0
  ·exact Ev.pos hz end'
  ·have hn : crsN h h.length ≠ 0 := fun h0 => hz (by rw [ci, h0]; rfl)
   refine Ev.neg hz (Ev.bind (impl_FlatOk_ev h) (Ev.neg ?_ (Ev.pos ?_ end')))
   ·intro hf
    exact hn ((Hd.crsN_zero t).2 ((Hd.row_iff t.2).1 (Hd.flatB_true.1 hf).2).1)
   ·have := Hd.crs_few t
    omega
 ·have ci : crossI h = -1 := by rw [crossI, if_neg t]
  rw [ci]
  exact Ev.pos (by omega) (Ev.pos rfl (Ev.bind (impl_TreeOk_ev h) (Ev.neg (by rw [Hd.treeB_no t]; simp) (Ev.bind laws_alive_ev (Ev.now _)))))

end Go.Proofs.Ytkicbdbplfdfgaa.Pure
