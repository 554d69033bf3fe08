/- For every drawn row the program's BackOf answers as the reference's does; a tree read back again is the tree, it is flat just if the tree is, and its depths are read back. -/
import Derived.Test.YtkicbdbplfdfgaaBFnBackOf
namespace Go.Proofs.Ytkicbdbplfdfgaa.Pure
open Go.Proofs.Ytkicbdbplfdfgaa.PFnBackOf
open Go.RowKit Go.Proofs.YtkicbdbplfdfgaaW.PrintWords Go.Proofs.YtkicbdbplfdfgaaW.PrintLast Go.Proofs.YtkicbdbplfdfgaaW.PrintMore
set_option linter.unusedVariables false
set_option linter.unusedSimpArgs false
theorem FnBackOf_l0 {h : List Int} (t : Hd.T h) : ∀ i : Int, i ≤ (h.length : Int) → 0 ≤ i → Ev (fun k => laws_FnBackOf.l0 k h (Hd.backL h) (Hd.depL h) (Hd.depL (Hd.backL h)) i) true := by
 have h8 := t.1
 have t2 := Hd.back_T t
 have bl := Hd.back_len t
 have hd : Hd.depL h = Hd.tab (fun a => (Hd.dep h.length (Hd.hd h) a : Int)) h.length := by rw [Hd.depL, if_pos t]
 have hd2 : Hd.depL (Hd.backL h) = Hd.tab (fun a => (Hd.dep (Hd.backL h).length (Hd.hd (Hd.backL h)) a : Int)) h.length := by rw [Hd.depL, if_pos t2, bl]
 refine Hd.down ?_
 intro i hi ih h0
 refine laws_FnBackOf.l0.ev ?_
 rw [show ((Hd.depL h).length : Int) = h.length from by rw [hd, Hd.tab_length], show ((Hd.depL (Hd.backL h)).length : Int) = h.length from by rw [hd2, Hd.tab_length]]
 by_cases hlt : i < h.length
 ·rw [wid (x := (h.length : Int) - 1) (by omega) (by omega), wid (x := (h.length : Int) - 1 - i) (by omega) (by omega), wid (x := i + 1) (by omega) (by omega)]
  refine Ev.pos hlt (Ev.pos h0 (Ev.pos hlt (Ev.pos (by omega) (Ev.pos (by omega) (Ev.pos ?_ (ih hlt (by omega)))))))
  rw [hd, hd2]
  unfold rd
  rw [Hd.tab_get _ _ (show i.toNat < h.length by omega), Hd.tab_get _ _ (show ((h.length : Int) - 1 - i).toNat < h.length by omega)]
  have := (Hd.back_ren t).depth t ((((h.length : Int) - 1 - i).toNat : Int) + 1) (by omega) (by omega)
  rw [Hd.rv_word (by omega), show (h.length : Int) + 1 - ((((h.length : Int) - 1 - i).toNat : Int) + 1) = ((i.toNat : Nat) : Int) + 1 from by omega] at this
  rw [this]
 ·refine Ev.neg hlt (Ev.bind (impl_TreeOk_ev _) (Ev.pos (Hd.treeB_yes t2) (Ev.bind (impl_BackOf_ev _) ?_)))
  rw [Hd.back_back t]
  refine Ev.bind (laws_sameInts_ev (by omega)) (Ev.pos (by simp) (Ev.bind (impl_FlatOk_ev _) (Ev.bind (impl_FlatOk_ev _) (Ev.ret ?_))))
  rw [Hd.back_flat t]; simp
theorem FnBackOf : laws_FnBackOf.Pure := by
 intro l _ _ hw
 refine Ev.rounds (g := fun k => laws_FnBackOf.f k l) ?_
 unfold laws_FnBackOf.f
 by_cases hbig : (l.length : Int) > 1048576
 ·exact Ev.pos hbig (Ev.now _)
 refine Ev.neg hbig ?_
 obtain ⟨h, e, hl⟩ := spec_DrawBackOf_ev hw
 have dl := Hd.backL_len h
 refine Ev.bind e (Ev.bind (impl_BackOf_ev h) (Ev.bind (spec_BackOf_ev h (by omega)) (Ev.bind (laws_sameInts_ev (by omega)) (Ev.pos (by simp) ?_))))
 by_cases t : Hd.T h
 ·have hp := t.2.pos
  have t2 := Hd.back_T t
  have bl := Hd.back_len t
  have d1 : (Hd.depL h).length = h.length := by rw [Hd.depL, if_pos t, Hd.tab_length]
  have d2 : (Hd.depL (Hd.backL h)).length = h.length := by rw [Hd.depL, if_pos t2, Hd.tab_length, bl]
  refine Ev.neg (by omega) (Ev.bind (impl_DepthOf_ev h) (Ev.bind (impl_DepthOf_ev _) (Ev.pos (by rw [d1]) (laws_FnBackOf.j0.ev (Ev.neg (by rw [d2]; simp) (FnBackOf_l0 t 0 (by omega) (by omega)))))))
 ·refine Ev.pos ?_ (Ev.bind (impl_TreeOk_ev h) (Ev.neg (by rw [Hd.treeB_no t]; simp) (Ev.bind laws_alive_ev (Ev.now _))))
  rw [Hd.backL, if_neg t]; rfl

end Go.Proofs.Ytkicbdbplfdfgaa.Pure
