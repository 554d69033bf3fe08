/- For every drawn number of words and place the program's FlatAt answers as the reference's does; what it gives is a flat tree of so many words, PlaceOf gives its place, and the root of the next tree does not lie ahead of its root. -/
import Derived.Test.YtfccopfhniobjaaBFnFlatAt
namespace Go.Proofs.Ytfccopfhniobjaa.Pure
open Go.Proofs.Ytfccopfhniobjaa.QFnFlatAt
open Go.RowKit Go.Proofs.YtfccopfhniobjaaW.PrintWords Go.Proofs.YtfccopfhniobjaaW.PrintLast Go.Proofs.YtfccopfhniobjaaW.PrintMore
set_option linter.unusedVariables false
set_option linter.unusedSimpArgs false
-- base Hd9
-- uses HdJ
theorem FnFlatAt : laws_FnFlatAt.Pure := by
 intro l _ _ hw
 refine Ev.rounds (g := fun k => laws_FnFlatAt.f k l) ?_
 unfold laws_FnFlatAt.f
 by_cases hbig : (l.length : Int) > 1048576
 ·exact Ev.pos hbig (Ev.now _)
 refine Ev.neg hbig ?_
 obtain ⟨a, b, e, a1, a7, b1, b2⟩ := spec_DrawFlatAt_ev hw
 have F1 := impl_FlatAt_ev a b
 have F2 := spec_FlatAt_ev a b
 have F3 := impl_FlatAt_ev a (b + 1)
 by_cases c : 0 ≤ b ∧ b < flatN a
 ·have h6 : a ≤ 6 := by
   by_cases h : a ≤ 6
   ·exact h
   ·rw [flatN_out (by omega)] at c; omega
  obtain ⟨n, rfl⟩ : ∃ n : Nat, a = n := ⟨a.toNat, by omega⟩
  obtain ⟨m, rfl⟩ : ∃ m : Nat, b = m := ⟨b.toNat, by omega⟩
  have ec := cF_eq' (a := n) (by omega) (by omega)
  have el := tF_len (n := n) (by omega) (by omega)
  have ml : m < (Hd.tF n).length := by omega
  have tree : ∀ q : Nat, q < (Hd.tF n).length → ∃ h, (Hd.tF n)[q]? = some h ∧ (Hd.tF n).getD q [] = h ∧ h.length = n ∧ Hd.flatC h = true := fun q hq => by
   have hm := List.getElem_mem hq
   exact ⟨(Hd.tF n)[q], List.getElem?_eq_getElem hq, by rw [List.getD_eq_getElem?_getD, List.getElem?_eq_getElem hq]; rfl, ((Hd.t_sizes n (by omega)).2.2.1 _ hm).1, (Hd.flat_all n (by omega) (by omega)).1 _ hm⟩
  obtain ⟨h, hq, hg, hn, hc⟩ := tree m ml
  have fl := Hd.flatC_flat (h := h) (by omega) (by omega) hc
  have tl := Hd.toI_len h
  have e1 : flatAtI (n : Int) (m : Int) = (Hd.toI h, true) := by
   unfold flatAtI; rw [if_pos c, Int.toNat_natCast, Int.toNat_natCast, hg]
  have P := impl_PlaceOf_ev (Hd.toI h)
  have ep : placeI (Hd.toI h) = (m : Int) := by
   unfold placeI
   rw [if_pos ⟨fl, by omega⟩, tl, hn]
   exact idx_F (by omega) hq
  rw [ep] at P
  have sm := laws_sameInts_ev (a := Hd.toI h) (b := Hd.toI h) (by omega)
  have FO := impl_FlatOk_ev (Hd.toI h)
  rw [fl] at FO
  rw [e1] at F1 F2
  refine Ev.bind e (Ev.bind F1 (Ev.bind F2 (Ev.bind sm (Ev.pos (by simp) (laws_FnFlatAt.j0.ev (Ev.neg (by simp) (Ev.pos rfl ?_)))))))
  rw [wid (x := (m : Int) + 1) (by omega) (by omega)]
  refine Ev.bind F3 (Ev.bind FO (Ev.pos rfl (Ev.pos (show ((Hd.toI h).length : Int) = (n : Int) by omega) (Ev.bind P (Ev.pos rfl ?_)))))
  by_cases c2 : (m : Int) + 1 < flatN (n : Int)
  ·obtain ⟨h2, hq2, hg2, hn2, hc2⟩ := tree (m + 1) (by omega)
   have e2 : flatAtI (n : Int) ((m : Int) + 1) = (Hd.toI h2, true) := by
    unfold flatAtI; rw [if_pos ⟨by omega, c2⟩, Int.toNat_natCast, show ((m : Int) + 1).toNat = m + 1 by omega, hg2]
   rw [e2]
   refine Ev.pos rfl (Ev.bind (impl_RootOf_ev _) (Ev.bind (impl_RootOf_ev _) (Ev.ret ?_)))
   have up := Hd.upL_at (Hd.flat_all n (by omega) (by omega)).2 (i := m) (x := Hd.rootN h) (y := Hd.rootN h2) (by rw [List.getElem?_map, hq]; rfl) (by rw [List.getElem?_map, hq2]; rfl)
   have r1 := Hd.flatC_root (h := h) (by omega) (by omega) hc
   have r2 := Hd.flatC_root (h := h2) (by omega) (by omega) hc2
   exact decide_eq_true (show Hd.rootI (Hd.toI h2) ≥ Hd.rootI (Hd.toI h) by omega)
  ·have e2 : flatAtI (n : Int) ((m : Int) + 1) = ([], false) := by
    unfold flatAtI; rw [if_neg (fun x => c2 x.2)]
   rw [e2]
   exact Ev.neg (by simp) (Ev.now _)
 ·have e1 : flatAtI a b = ([], false) := by unfold flatAtI; rw [if_neg c]
  rw [e1] at F1 F2
  have sm := laws_sameInts_ev (a := []) (b := []) (by simp)
  exact Ev.bind e (Ev.bind F1 (Ev.bind F2 (Ev.bind sm (Ev.pos (by simp) (laws_FnFlatAt.j0.ev (Ev.neg (by simp) (Ev.neg (by simp) (Ev.pos rfl (Ev.bind laws_alive_ev (Ev.now _))))))))))

end Go.Proofs.Ytfccopfhniobjaa.Pure
