/- For every drawn row and word the program's RowsOf answers as the reference's does; there is one row more than gaps, between two rows is at least one word, and all together have as many words as the yield. -/
import Derived.Test.YtdckgafgidfplaaBFnRowsOf
namespace Go.Proofs.Ytdckgafgidfplaa.Pure
open Go.Proofs.Ytdckgafgidfplaa.QFnRowsOf
open Go.RowKit Go.Proofs.YtdckgafgidfplaaW.PrintWords Go.Proofs.YtdckgafgidfplaaW.PrintLast Go.Proofs.YtdckgafgidfplaaW.PrintMore
set_option linter.unusedVariables false
set_option linter.unusedSimpArgs false
-- uses HdB
theorem FnRowsOf_l0 {h : List Int} {w : Int} : ∀ i : Int, i ≤ (Hd.rowsL h w).length → 0 ≤ i → Ev (fun k => laws_FnRowsOf.l0 k h w (Hd.rowsL h w) (Hd.rowsL h w) (Hd.sumR (Hd.rowsL h w) i.toNat) i) true := by
 have ok := Hd.rowsL_ok h w
 have l1 := Hd.rowsL_len h w
 have l2 := Hd.yldL_len h w
 have two := Hd.rowsR_two (Hd.yldL h w)
 have gb := Hd.gapsI_bd h w
 have ge : Hd.gapsI h w = ((Hd.rowsL h w).length : Int) - 1 := rfl
 refine Hd.down ?_
 intro i hi ih h0
 obtain ⟨j, rfl⟩ := Int.eq_ofNat_of_zero_le h0
 refine laws_FnRowsOf.l0.ev ?_
 rw [Int.toNat_natCast]
 by_cases hlt : (j : Int) < (Hd.rowsL h w).length
 ·have next := ih hlt (by omega)
  rw [show ((j : Int) + 1).toNat = j + 1 from by omega, Hd.sumR] at next
  have sb := Hd.okR_bd ok (by omega) j (by omega)
  have row := Hd.okR_row ok (k := j) (by omega)
  have lj := two _ (Hd.getD_mem (l := Hd.rowsL h w) [] (show j < (Hd.rowsL h w).length by omega))
  generalize hs : Hd.sumR (Hd.rowsL h w) j = s at *
  rw [wid (x := (j : Int) + 1) (by omega) (by omega), rd_L_nat]
  simp only [show ∀ x : List Int, rd x 1 = x.getD 1 0 from fun _ => rfl, show ∀ x : List Int, rd x 0 = x.getD 0 0 from fun _ => rfl]
  rw [wid (x := s + ((Hd.rowsL h w).getD j []).getD 1 0) (by omega) (by omega), wid (x := s + ((Hd.rowsL h w).getD j []).getD 1 0 - ((Hd.rowsL h w).getD j []).getD 0 0) (by omega) (by omega), wid (x := s + ((Hd.rowsL h w).getD j []).getD 1 0 - ((Hd.rowsL h w).getD j []).getD 0 0 + 1) (by omega) (by omega)]
  refine Ev.pos hlt (Ev.pos h0 (Ev.pos hlt (Ev.bind (laws_sameInts_ev (by omega)) (Ev.pos (by simp) ?_))))
  by_cases hz : j = 0
  ·exact Ev.neg (by omega) (Ev.pos (by omega) (Ev.pos (by omega) next))
  ·have rowp := Hd.okR_row ok (k := j - 1) (by omega)
   have lp := two _ (Hd.getD_mem (l := Hd.rowsL h w) [] (show j - 1 < (Hd.rowsL h w).length by omega))
   have rj : ((Hd.rowsL h w).getD (j - 1) []).getD 1 0 + 2 ≤ ((Hd.rowsL h w).getD j []).getD 0 0 := by omega
   rw [wid (x := (j : Int) - 1) (by omega) (by omega), show (j : Int) - 1 = ((j - 1 : Nat) : Int) from by omega, rd_L_nat, wid (x := ((Hd.rowsL h w).getD (j - 1) []).getD 1 0 + 2) (by omega) (by omega)]
   exact Ev.pos (by omega) (Ev.pos (by omega) (Ev.pos (by omega) (Ev.pos (by omega) (Ev.pos (by omega) (Ev.neg (by omega) (Ev.pos (by omega) next))))))
 ·refine Ev.neg hlt (Ev.bind (impl_GapsOf_ev h w) ?_)
  have sm := Hd.okR_sum ok
  rw [wid (x := Hd.gapsI h w + 1) (by omega) (by omega)]
  refine Ev.pos (by omega) (Ev.bind (impl_YieldOf_ev h w) (Ev.pos ?_ (Ev.bind laws_alive_ev (Ev.now _))))
  rw [show j = (Hd.rowsL h w).length from by omega]; exact sm
theorem FnRowsOf : laws_FnRowsOf.Pure := by
 intro l _ _ hw
 refine Ev.rounds (g := fun k => laws_FnRowsOf.f k l) ?_
 unfold laws_FnRowsOf.f
 by_cases hbig : (l.length : Int) > 1048576
 ·exact Ev.pos hbig (Ev.now _)
 refine Ev.neg hbig ?_
 obtain ⟨h, w, e, hl, w0, w1⟩ := spec_DrawRowsOf_ev hw
 exact Ev.bind e (Ev.bind (impl_RowsOf_ev h w) (Ev.bind (spec_RowsOf_ev h w) (Ev.pos rfl (FnRowsOf_l0 0 (by omega) (by omega)))))

end Go.Proofs.Ytdckgafgidfplaa.Pure
