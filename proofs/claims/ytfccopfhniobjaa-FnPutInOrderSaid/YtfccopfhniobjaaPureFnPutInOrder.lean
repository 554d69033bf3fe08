/- For every drawn tree and order the program's PutInOrder answers as the reference's does; what it gives is a tree, the depth at each new place is that of the word, and put back in order it is the tree. -/
import Derived.Test.YtfccopfhniobjaaBFnPutInOrder
namespace Go.Proofs.Ytfccopfhniobjaa.Pure
open Go.Proofs.Ytfccopfhniobjaa.QFnPutInOrder
open Go.RowKit Go.Proofs.YtfccopfhniobjaaW.PrintWords Go.Proofs.YtfccopfhniobjaaW.PrintLast Go.Proofs.YtfccopfhniobjaaW.PrintMore
set_option linter.unusedVariables false
set_option linter.unusedSimpArgs false
-- uses HdG
theorem laws_FnPutInOrder_l0 {h o : List Int} (t : Hd.T h) (O : Hd.Perm h.length o) : ∀ i : Int, i ≤ h.length → 0 ≤ i → ∀ B : List Int, B.length = h.length → (∀ a : Int, 1 ≤ a → a ≤ i → Hd.hd B (Hd.hd o a) = a) →
  Ev (fun k => laws_FnPutInOrder.l0 k h o (Hd.putL h o) (Hd.depL h) (Hd.depL (Hd.putL h o)) B i) true := by
 have h8 := t.1
 have ol := O.len
 have R := Hd.put_ren t O
 have xl := R.len
 have tx := R.tree t
 have hd : Hd.depL h = Hd.tab (fun a => (Hd.dep h.length (Hd.hd h) a : Int)) h.length := by rw [Hd.depL, if_pos t]
 have hd2 : Hd.depL (Hd.putL h o) = Hd.tab (fun a => (Hd.dep (Hd.putL h o).length (Hd.hd (Hd.putL h o)) a : Int)) h.length := by rw [Hd.depL, if_pos tx, xl]
 refine Hd.down ?_
 intro i hi ih h0 B hB hb
 refine laws_FnPutInOrder.l0.ev ?_
 rw [show ((Hd.depL h).length : Int) = h.length from by rw [hd, Hd.tab_length], show ((Hd.depL (Hd.putL h o)).length : Int) = h.length from by rw [hd2, Hd.tab_length]]
 by_cases hlt : i < h.length
 ·have r := O.rng (i + 1) (by omega) (by omega)
  have next := ih hlt (by omega) (B.set (Hd.hd o (i + 1) - 1).toNat (i + 1)) (by rw [List.length_set]; exact hB) (fun a h1 h2 => by
   rw [Hd.hd_put r.1 (by omega)]
   by_cases e : a = i + 1
   ·rw [e, if_pos rfl]
   ·rw [if_neg fun e2 => e (O.inj a (i + 1) h1 (by omega) (by omega) (by omega) e2)]
    exact hb a h1 (by omega))
  rw [rd_hd1 (l := o) h0, wid (x := Hd.hd o (i + 1) - 1) (by omega) (by omega), wid (x := i + 1) (by omega) (by omega)]
  refine Ev.pos (by omega) (Ev.pos h0 (Ev.pos (by omega) (Ev.pos (by omega) (Ev.pos (by omega) (Ev.pos ?_ (Ev.pos (by omega) next))))))
  rw [hd, hd2]
  unfold rd
  rw [Hd.tab_get _ _ (show i.toNat < h.length by omega), Hd.tab_get _ _ (show (Hd.hd o (i + 1) - 1).toNat < h.length by omega), show (((Hd.hd o (i + 1) - 1).toNat : Nat) : Int) + 1 = Hd.hd o (i + 1) from by omega, show ((i.toNat : Nat) : Int) + 1 = i + 1 from by omega]
  have := R.depth t (Hd.hd o (i + 1)) r.1 r.2
  rw [Hd.plc_at O (by omega) (by omega)] at this
  rw [this]
 ·obtain ⟨_, _, PB, pb⟩ := Hd.put_back t O hB (fun a h1 h2 => hb a h1 (by omega))
  have I := impl_PutInOrder_ev (Hd.putL h o) B
  rw [pb, Hd.putB_true.2 ⟨tx, by rw [xl]; exact PB⟩] at I
  exact Ev.neg (by omega) (Ev.bind I (Ev.bind (impl_TreeOk_ev _) (Ev.pos (Hd.treeB_yes tx) (Ev.pos rfl (Ev.bind (laws_sameInts_ev (by simp only; omega)) (Ev.ret (by simp)))))))
theorem FnPutInOrder : laws_FnPutInOrder.Pure := by
 intro l _ _ hw
 refine Ev.rounds (g := fun k => laws_FnPutInOrder.f k l) ?_
 unfold laws_FnPutInOrder.f
 by_cases hbig : (l.length : Int) > 1048576
 ·exact Ev.pos hbig (Ev.now _)
 refine Ev.neg hbig ?_
 obtain ⟨h, o, e, hl, ol⟩ := spec_DrawPutInOrder_ev hw
 have xl := Hd.putL_len h o
 refine Ev.bind e (Ev.bind (impl_PutInOrder_ev h o) (Ev.bind (spec_PutInOrder_ev (by simp only; omega)) (Ev.bind (laws_sameInts_ev (by simp only; omega)) (Ev.pos (by simp) (laws_FnPutInOrder.j0.ev (Ev.neg (by simp) ?_))))))
 by_cases p : Hd.putB h o = true
 ·obtain ⟨t, O⟩ := Hd.putB_true.1 p
  have R := Hd.put_ren t O
  have xl2 := R.len
  have tx := R.tree t
  have h8 := t.1
  have O2 := O.len
  have d1 : (Hd.depL h).length = h.length := by rw [Hd.depL, if_pos t, Hd.tab_length]
  have d2 : (Hd.depL (Hd.putL h o)).length = h.length := by rw [Hd.depL, if_pos tx, Hd.tab_length, xl2]
  refine Ev.pos p (Ev.bind (impl_DepthOf_ev h) (Ev.bind (impl_DepthOf_ev _) (Ev.pos (by rw [d1]) (laws_FnPutInOrder.j1.ev (Ev.neg (by rw [d2]; simp) (Ev.pos (by simp only; omega) (Ev.pos (by simp only; omega) ?_)))))))
  refine laws_FnPutInOrder_l0 t O 0 (by omega) (by omega) _ ?_ (fun a h1 h2 => by omega)
  simp only [List.length_replicate]; omega
 ·refine Ev.neg p (Ev.pos ?_ (Ev.bind laws_alive_ev (Ev.now _)))
  have : Hd.putL h o = [] := by rw [Hd.putL, if_neg fun z => p (Hd.putB_true.2 z)]
  simp only [this]; rfl

end Go.Proofs.Ytfccopfhniobjaa.Pure
