/- For every drawn row the program's NestedOk answers as the reference's does; it holds of trees without crossings and of flat trees, and of a tree just if it holds of the tree read from the last word. -/
import Derived.Test.YtafkabhnldahdaaBFnNestedOk
namespace Go.Proofs.Ytafkabhnldahdaa.Pure
open Go.Proofs.Ytafkabhnldahdaa.QFnNestedOk
open Go.RowKit Go.Proofs.YtafkabhnldahdaaW.PrintWords Go.Proofs.YtafkabhnldahdaaW.PrintLast Go.Proofs.YtafkabhnldahdaaW.PrintMore
set_option linter.unusedVariables false
theorem FnNestedOk : laws_FnNestedOk.Pure := by
 intro l _ _ hw
 refine Ev.rounds (g := fun k => laws_FnNestedOk.f k l) ?_
 unfold laws_FnNestedOk.f
 by_cases hbig : (l.length : Int) > 1048576
 ·exact Ev.pos hbig (Ev.now _)
 refine Ev.neg hbig ?_
 obtain ⟨h, e, hl⟩ := spec_DrawNestedOk_ev hw
 have bl := Hd.backL_len h
 refine Ev.bind e (Ev.bind (impl_NestedOk_ev h (by omega)) (Ev.bind (spec_NestedOk_ev h (by omega)) (Ev.neg (by simp) (Ev.bind (spec_TreeOk_ev h) ?_))))
 by_cases t : Hd.T h
 ·have ci : crossI h = crsN h h.length := by rw [crossI, if_pos t]
  have end' : Ev (fun k => (impl_BackOf.f k h).bind fun u => ((impl_NestedOk.f k u).bind fun v => (some (v == nestB h)))) true :=
   Ev.bind (impl_BackOf_ev h) (Ev.bind (impl_NestedOk_ev _ (by omega)) (Ev.ret (by rw [Hd.nest_back_eq t]; simp)))
  refine Ev.pos (Hd.treeB_yes t) (Ev.bind (impl_CrossingsOf_ev h) ?_)
  by_cases hc : crossI h > 0
  ·refine Ev.pos hc (Ev.bind (impl_FlatOk_ev h) ?_)
   by_cases hf : Hd.flatB h = true
   ·refine Ev.pos hf (Ev.pos ?_ end')
    exact Hd.nest_nocr t ((Hd.row_iff t.2).1 (Hd.flatB_true.1 hf).2).1
   ·exact Ev.neg hf end'
  ·have N := (Hd.crsN_zero t).1 (by omega)
   refine Ev.neg hc (Ev.pos (Hd.nest_nocr t N) (Ev.bind (impl_FlatOk_ev h) ?_))
   by_cases hf : Hd.flatB h = true
   ·exact Ev.pos hf end'
   ·exact Ev.neg hf end'
 ·have hn : ¬ nestB h = true := fun hc => t (nestB_true.1 hc).1
  exact Ev.neg (by rw [Hd.treeB_no t]; simp) (Ev.neg hn (Ev.bind laws_alive_ev (Ev.now _)))

end Go.Proofs.Ytafkabhnldahdaa.Pure
