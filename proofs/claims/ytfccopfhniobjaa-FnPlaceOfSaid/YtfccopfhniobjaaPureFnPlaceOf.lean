/- For every drawn row the program's PlaceOf answers as the reference's does; it is -1 just for rows that are no flat trees or have more than 6 words, and else the number at which FlatAt gives the tree, less than CountFlat. -/
import Derived.Test.YtfccopfhniobjaaBFnPlaceOf
namespace Go.Proofs.Ytfccopfhniobjaa.Pure
open Go.Proofs.Ytfccopfhniobjaa.QFnPlaceOf
open Go.RowKit Go.Proofs.YtfccopfhniobjaaW.PrintWords Go.Proofs.YtfccopfhniobjaaW.PrintLast Go.Proofs.YtfccopfhniobjaaW.PrintMore
set_option linter.unusedVariables false
set_option linter.unusedSimpArgs false
-- base Hd9
-- uses HdI
theorem FnPlaceOf : laws_FnPlaceOf.Pure := by
 intro l _ _ hw
 refine Ev.rounds (g := fun k => laws_FnPlaceOf.f k l) ?_
 unfold laws_FnPlaceOf.f
 by_cases hbig : (l.length : Int) > 1048576
 ·exact Ev.pos hbig (Ev.now _)
 refine Ev.neg hbig ?_
 obtain ⟨h, e, hl⟩ := spec_DrawPlaceOf_ev hw
 have I := impl_PlaceOf_ev h
 have S := spec_PlaceOf_ev h
 refine Ev.bind e (Ev.bind I (Ev.bind S (Ev.pos rfl ?_)))
 by_cases f : Hd.flatB h = true ∧ h.length ≤ 6
 ·have t := (Hd.flatB_true.1 f.1).1
  have hp := t.2.pos
  obtain ⟨hn, r, rfl, hr, hF⟩ := Hd.flat_place f.1 f.2
  have tl := Hd.toI_len hn
  have h6 : hn.length ≤ 6 := by rw [← tl]; exact f.2
  have h1 : 1 ≤ hn.length := by omega
  have ep : placeI (Hd.toI hn) = (r : Int) := by unfold placeI; rw [if_pos f, tl, idx_F h6 hF]
  have hrl : r < (Hd.tF hn.length).length := by
   by_cases c : r < (Hd.tF hn.length).length
   ·exact c
   ·rw [List.getElem?_eq_none (by omega)] at hF; cases hF
  have ec := cF_eq' h1 h6
  have el := tF_len h1 h6
  have ef : flatAtI (hn.length : Int) (r : Int) = (Hd.toI hn, true) := by
   unfold flatAtI
   rw [if_pos ⟨by omega, by omega⟩, Int.toNat_natCast, Int.toNat_natCast, List.getD_eq_getElem?_getD, hF]; rfl
  have F := impl_FlatAt_ev (hn.length : Int) (r : Int)
  rw [ef] at F
  have sm := laws_sameInts_ev (a := Hd.toI hn) (b := Hd.toI hn) (by omega)
  rw [ep, tl]
  exact Ev.neg (by omega) (Ev.bind F (Ev.bind (impl_CountFlat_ev _) (Ev.pos (by omega) (Ev.pos rfl (Ev.bind sm (Ev.ret (by simp)))))))
 ·have ep : placeI h = -1 := if_neg f
  rw [ep]
  refine Ev.pos (by omega) (Ev.pos rfl (Ev.bind (impl_FlatOk_ev h) ?_))
  by_cases g : Hd.flatB h = true
  ·have g6 : ¬ h.length ≤ 6 := fun c => f ⟨g, c⟩
   exact Ev.pos g (Ev.pos (by omega) (Ev.bind laws_alive_ev (Ev.now _)))
  ·exact Ev.neg g (Ev.bind laws_alive_ev (Ev.now _))

end Go.Proofs.Ytfccopfhniobjaa.Pure
