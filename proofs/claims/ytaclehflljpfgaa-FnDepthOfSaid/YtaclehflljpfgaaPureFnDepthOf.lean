/- For every drawn row the program's DepthOf answers as the reference's does; of a tree each word but the root is one deeper than its head, the root has the depth 0, and all depths are less than the number of words. -/
import Derived.Test.YtaclehflljpfgaaBFnDepthOf
namespace Go.Proofs.Ytaclehflljpfgaa.Pure
open Go.Proofs.Ytaclehflljpfgaa.PFnDepthOf
open Go.RowKit Go.Proofs.YtaclehflljpfgaaW.PrintWords Go.Proofs.YtaclehflljpfgaaW.PrintLast Go.Proofs.YtaclehflljpfgaaW.PrintMore
set_option linter.unusedVariables false
theorem FnDepthOf_l0 {h : List Int} (t : Hd.T h) : ∀ i : Int, i ≤ (h.length : Int) → 0 ≤ i → Ev (fun k => laws_FnDepthOf.l0 k h (Hd.depL h) i) true := by
 have h8 := t.1
 have hd : Hd.depL h = Hd.tab (fun a => (Hd.dep h.length (Hd.hd h) a : Int)) h.length := by rw [Hd.depL, if_pos t]
 have hdl : ((Hd.depL h).length : Int) = h.length := by rw [hd, Hd.tab_length]
 have rdd : ∀ a : Int, 1 ≤ a → a ≤ h.length → rd (Hd.depL h) (a - 1) = (Hd.dep h.length (Hd.hd h) a : Int) := fun a h1 h2 => by
  rw [hd]
  unfold rd
  rw [Hd.tab_get _ _ (show (a - 1).toNat < h.length by omega), show (((a - 1).toNat : Nat) : Int) + 1 = a from by omega]
 refine Hd.down ?_
 intro i hi ih h0
 refine laws_FnDepthOf.l0.ev ?_
 rw [hdl]
 by_cases hlt : i < h.length
 ·have r1 := rdd (i + 1) (by omega) (by omega)
  rw [show i + 1 - 1 = i from by omega] at r1
  have lt := t.2.dep_lt (a := i + 1) (by omega)
  have lo := t.2.lo (i + 1)
  have hi2 := t.2.hi (i + 1)
  have next := ih hlt (by omega)
  rw [rd_hd1 (l := h) h0, r1, wid (x := i + 1) (by omega) (by omega), wid (x := Hd.hd h (i + 1) - 1) (by omega) (by omega)]
  refine Ev.pos hlt (Ev.pos h0 (Ev.pos hlt (Ev.neg (by omega) ?_)))
  by_cases hz : Hd.hd h (i + 1) = 0
  ·have := t.2.dep_root hz
   exact Ev.neg (by omega) (Ev.pos hz (Ev.pos (by omega) next))
  ·have hw := t.2.word hz
   have lt2 := t.2.dep_lt hw
   have := t.2.dep_head hz
   rw [rdd _ hw.1 hw.2, wid (x := (Hd.dep h.length (Hd.hd h) (Hd.hd h (i + 1)) : Int) + 1) (by omega) (by omega)]
   exact Ev.pos (by omega) (Ev.pos (by omega) (Ev.pos (by omega) (Ev.pos (by omega) (Ev.neg hz next))))
 ·exact Ev.neg hlt (Ev.ret (by simp))
theorem FnDepthOf : laws_FnDepthOf.Pure := by
 intro l _ _ hw
 refine Ev.rounds (g := fun k => laws_FnDepthOf.f k l) ?_
 unfold laws_FnDepthOf.f
 by_cases hbig : (l.length : Int) > 1048576
 ·exact Ev.pos hbig (Ev.now _)
 refine Ev.neg hbig ?_
 obtain ⟨h, e, hl⟩ := spec_DrawDepthOf_ev hw
 have dl := Hd.depL_len h
 refine Ev.bind e (Ev.bind (impl_DepthOf_ev h) (Ev.bind (spec_DepthOf_ev h) (Ev.bind (laws_sameInts_ev (by omega)) (Ev.pos (by simp) ?_))))
 by_cases t : Hd.T h
 ·have hp := t.2.pos
  refine Ev.neg ?_ (FnDepthOf_l0 t 0 (by omega) (by omega))
  rw [Hd.depL, if_pos t, Hd.tab_length]; omega
 ·refine Ev.pos ?_ (Ev.bind (impl_TreeOk_ev h) (Ev.neg (by rw [Hd.treeB_no t]; simp) (Ev.bind laws_alive_ev (Ev.now _))))
  rw [Hd.depL, if_neg t]; rfl

end Go.Proofs.Ytaclehflljpfgaa.Pure
