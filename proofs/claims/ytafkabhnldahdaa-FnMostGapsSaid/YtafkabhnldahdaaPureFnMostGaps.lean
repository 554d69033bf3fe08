/- For every drawn row the program's MostGaps answers as the reference's does; it is 0 just for flat trees, and at most 1 for trees without crossings. -/
import Derived.Test.YtafkabhnldahdaaBFnMostGaps
namespace Go.Proofs.Ytafkabhnldahdaa.Pure
open Go.Proofs.Ytafkabhnldahdaa.QFnMostGaps
open Go.RowKit Go.Proofs.YtafkabhnldahdaaW.PrintWords Go.Proofs.YtafkabhnldahdaaW.PrintLast Go.Proofs.YtafkabhnldahdaaW.PrintMore
set_option linter.unusedVariables false
set_option linter.unusedSimpArgs false
-- uses HdB
theorem FnMostGaps : laws_FnMostGaps.Pure := by
 intro l _ _ hw
 refine Ev.rounds (g := fun k => laws_FnMostGaps.f k l) ?_
 unfold laws_FnMostGaps.f
 by_cases hbig : (l.length : Int) > 1048576
 ·exact Ev.pos hbig (Ev.now _)
 refine Ev.neg hbig ?_
 obtain ⟨h, e, hl⟩ := spec_DrawMostGaps_ev hw
 refine Ev.bind e (Ev.bind (impl_MostGaps_ev (by omega)) (Ev.bind (spec_MostGaps_ev h) (Ev.pos rfl ?_)))
 by_cases t : Hd.T h
 ·have p := Hd.mostI_pos t
  have z := Hd.mostI_flat t
  refine Ev.neg (by omega) (Ev.bind (impl_FlatOk_ev h) (Ev.pos ?_ (Ev.bind (impl_CrossingsOf_ev h) ?_)))
  ·cases hf : Hd.flatB h with
   | true => simpa using z.2 hf
   | false =>
    have : ¬ Hd.mostI h = 0 := fun k => by rw [z.1 k] at hf; cases hf
    simpa using this
  ·have ci : crossI h = crsN h h.length := by rw [crossI, if_pos t]
   by_cases hc : crossI h > 0
   ·exact Ev.pos hc (Ev.now _)
   ·exact Ev.neg hc (Ev.ret (by simpa using Hd.most_nocr t ((Hd.crsN_zero t).1 (by omega))))
 ·have e1 : Hd.mostI h = -1 := Hd.mostI_no t _
  exact Ev.pos (by omega) (Ev.pos e1 (Ev.bind (impl_TreeOk_ev h) (Ev.neg (by rw [Hd.treeB_no t]; simp) (Ev.bind laws_alive_ev (Ev.now _)))))

end Go.Proofs.Ytafkabhnldahdaa.Pure
