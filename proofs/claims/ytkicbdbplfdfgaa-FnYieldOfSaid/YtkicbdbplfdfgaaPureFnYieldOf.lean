/- For every drawn tree and word the program's YieldOf answers as the reference's does; the word is in its yield; each other yield has all its words, or is within it, or has none of them; and of the root it is all words. -/
import Derived.Test.YtkicbdbplfdfgaaBFnYieldOf
namespace Go.Proofs.Ytkicbdbplfdfgaa.Pure
open Go.Proofs.Ytkicbdbplfdfgaa.QFnYieldOf
open Go.RowKit Go.Proofs.YtkicbdbplfdfgaaW.PrintWords Go.Proofs.YtkicbdbplfdfgaaW.PrintLast Go.Proofs.YtkicbdbplfdfgaaW.PrintMore
set_option linter.unusedVariables false
set_option linter.unusedSimpArgs false
theorem yield_common {h : List Int} (t : Hd.T h) {w k : Int} (hw : 1 ≤ w ∧ w ≤ (h.length : Int)) (hk : 1 ≤ k ∧ k ≤ (h.length : Int)) :
  Hd.cnt (fun x => Hd.undB h x k && Hd.undB h x w) h.length = 0 ∨ Hd.cnt (fun x => Hd.undB h x k && Hd.undB h x w) h.length = Hd.cnt (fun x => Hd.undB h x w) h.length ∨ Hd.cnt (fun x => Hd.undB h x k && Hd.undB h x w) h.length = Hd.cnt (fun x => Hd.undB h x k) h.length := by
 by_cases hx : ∃ x : Int, Hd.Und (Hd.hd h) x k ∧ Hd.Und (Hd.hd h) x w
 ·obtain ⟨x, u, v⟩ := hx
  rcases t.2.laminar u v with l | l
  ·right; right
   refine Hd.cnt_congr fun a _ _ => bool_eq ?_
   rw [Bool.and_eq_true, Hd.undB_true, Hd.undB_true]
   exact ⟨fun h => h.1, fun h => ⟨h, l a h⟩⟩
  ·right; left
   refine Hd.cnt_congr fun a _ _ => bool_eq ?_
   rw [Bool.and_eq_true, Hd.undB_true, Hd.undB_true]
   exact ⟨fun h => h.2, fun h => ⟨l a h, h⟩⟩
 ·left
  refine Hd.cnt_none fun a _ _ => ?_
  cases hb : (Hd.undB h a k && Hd.undB h a w) with
  | false => rfl
  | true =>
   rw [Bool.and_eq_true, Hd.undB_true, Hd.undB_true] at hb
   exact absurd ⟨a, hb.1, hb.2⟩ hx
theorem FnYieldOf_l1 {h : List Int} (t : Hd.T h) {w k : Int} (hw : 1 ≤ w ∧ w ≤ (h.length : Int)) (hk : 1 ≤ k ∧ k ≤ (h.length : Int)) {r : Bool}
  (next : Ev (fun j => laws_FnYieldOf.l0 j h w (Hd.yld h w) (k + 1)) r) : ∀ i : Int, i ≤ (Hd.yld h k).length → 0 ≤ i →
  Ev (fun j => laws_FnYieldOf.l1 j h w (Hd.yld h w) k (Hd.yld h k) ((((Hd.yld h k).take i.toNat).filter (fun x => decide (x ∈ Hd.yld h w))).length : Int) i) r := by
 have h8 := t.1
 have l1 : (Hd.yld h k).length ≤ h.length := Hd.sel_le _ _
 have l2 : (Hd.yld h w).length ≤ h.length := Hd.sel_le _ _
 refine Hd.down ?_
 intro i hi ih h0
 refine laws_FnYieldOf.l1.ev ?_
 have c1 := List.length_filter_le (fun x => decide (x ∈ Hd.yld h w)) ((Hd.yld h k).take i.toNat)
 have c2 : ((Hd.yld h k).take i.toNat).length ≤ 8 := by rw [List.length_take]; omega
 by_cases hlt : i < (Hd.yld h k).length
 ·have nx := ih hlt (by omega)
  have g : (Hd.yld h k)[i.toNat]'(by omega) = rd (Hd.yld h k) i := by simp [rd, List.getD_eq_getElem?_getD, List.getElem?_eq_getElem (show i.toNat < (Hd.yld h k).length by omega)]
  rw [show (i + 1).toNat = i.toNat + 1 from by omega, List.take_succ_eq_append_getElem (by omega), g, List.filter_append, List.length_append] at nx
  generalize (((Hd.yld h k).take i.toNat).filter (fun x => decide (x ∈ Hd.yld h w))).length = c at *
  rw [wid (x := i + 1) (by omega) (by omega), wid (x := (c : Int) + 1) (by omega) (by omega)]
  refine Ev.pos hlt (Ev.pos h0 (Ev.bind (laws_hasInt_ev (by omega) _) ?_))
  by_cases hm : rd (Hd.yld h k) i ∈ Hd.yld h w
  ·rw [show (List.filter (fun x => decide (x ∈ Hd.yld h w)) [rd (Hd.yld h k) i]).length = 1 from by simp [List.filter_cons, hm]] at nx
   exact Ev.pos (by simpa using hm) nx
  ·rw [show (List.filter (fun x => decide (x ∈ Hd.yld h w)) [rd (Hd.yld h k) i]).length = 0 from by simp [List.filter_cons, hm], Nat.add_zero] at nx
   exact Ev.neg (by simpa using hm) nx
 ·refine Ev.neg hlt ?_
  rw [List.take_of_length_le (by omega), wid (x := k + 1) (by omega) (by omega)]
  have e : ((Hd.yld h k).filter (fun x => decide (x ∈ Hd.yld h w))).length = Hd.cnt (fun x => Hd.undB h x k && Hd.undB h x w) h.length := by
   unfold Hd.yld
   rw [Hd.sel_filter]
   refine Hd.cnt_congr fun a h1 h2 => ?_
   congr 1
   refine bool_eq ?_
   rw [decide_eq_true_eq, Hd.mem_sel]
   exact ⟨fun x => x.2.2, fun x => ⟨h1, h2, x⟩⟩
  have lw : (Hd.yld h w).length = Hd.cnt (fun x => Hd.undB h x w) h.length := Hd.sel_length _ _
  have lk : (Hd.yld h k).length = Hd.cnt (fun x => Hd.undB h x k) h.length := Hd.sel_length _ _
  have yc := yield_common t hw hk
  rw [e, lw, lk]
  by_cases z0 : (Hd.cnt (fun x => Hd.undB h x k && Hd.undB h x w) h.length : Int) = 0
  ·exact Ev.pos z0 next
  ·refine Ev.neg z0 ?_
   by_cases z1 : (Hd.cnt (fun x => Hd.undB h x k && Hd.undB h x w) h.length : Int) = Hd.cnt (fun x => Hd.undB h x w) h.length
   ·exact Ev.pos z1 next
   ·exact Ev.neg z1 (Ev.pos (by omega) next)
theorem FnYieldOf_l0 {h : List Int} (t : Hd.T h) {w : Int} (hw : 1 ≤ w ∧ w ≤ (h.length : Int)) : ∀ k : Int, k ≤ (h.length : Int) + 1 → 1 ≤ k → Ev (fun j => laws_FnYieldOf.l0 j h w (Hd.yld h w) k) true := by
 have h8 := t.1
 have l2 : (Hd.yld h w).length ≤ h.length := Hd.sel_le _ _
 refine Hd.down ?_
 intro k hk ih h1
 refine laws_FnYieldOf.l0.ev ?_
 by_cases hle : k ≤ (h.length : Int)
 ·have ye : Hd.yldL h k = Hd.yld h k := by rw [Hd.yldL, if_pos ⟨t, h1, hle⟩]
  have e := impl_YieldOf_ev h k
  rw [ye] at e
  refine Ev.pos hle (Ev.bind e ?_)
  have := FnYieldOf_l1 t hw ⟨h1, hle⟩ (ih (by omega) (by omega)) 0 (by omega) (by omega)
  simpa using this
 ·obtain ⟨hr, hz, uq⟩ := Hd.rootI_spec t
  refine Ev.neg hle (Ev.bind (laws_ascend_ev (by omega) (sel_asc _ _)) (Ev.pos rfl (Ev.bind (laws_hasInt_ev (by omega) _) (Ev.pos ?_ (Ev.bind (impl_RootOf_ev h) (Ev.ret ?_))))))
  ·rw [decide_eq_true_eq]
   exact Hd.mem_sel.2 ⟨hw.1, hw.2, Hd.undB_true.2 (Hd.Und.refl _ _)⟩
  ·rw [beq_iff_eq]
   refine bool_eq ?_
   rw [beq_iff_eq, beq_iff_eq]
   have lw : (Hd.yld h w).length = Hd.cnt (fun x => Hd.undB h x w) h.length := Hd.sel_length _ _
   constructor
   ·intro e
    have := Hd.cnt_full (p := fun x => Hd.undB h x w) (m := h.length) (by omega) (Hd.rootI h) hr.1 hr.2
    exact t.2.root_und hz (by omega) (Hd.undB_true.1 this)
   ·intro e
    rw [lw, Hd.cnt_all fun a k1 k2 => ?_]
    rw [Hd.undB_true, ← e]
    exact t.2.und_root hr hz a k1 k2
theorem FnYieldOf : laws_FnYieldOf.Pure := by
 intro l _ _ hw
 refine Ev.rounds (g := fun k => laws_FnYieldOf.f k l) ?_
 unfold laws_FnYieldOf.f
 by_cases hbig : (l.length : Int) > 1048576
 ·exact Ev.pos hbig (Ev.now _)
 refine Ev.neg hbig ?_
 obtain ⟨h, w, e, hl, hb⟩ := spec_DrawYieldOf_ev hw
 have yl := Hd.yldL_len h w
 refine Ev.bind e (Ev.bind (impl_YieldOf_ev h w) (Ev.bind (spec_YieldOf_ev h w) (Ev.bind (laws_sameInts_ev (by omega)) (Ev.pos (by simp) ?_))))
 by_cases hy : Hd.T h ∧ 1 ≤ w ∧ w ≤ (h.length : Int)
 ·have ye : Hd.yldL h w = Hd.yld h w := by rw [Hd.yldL, if_pos hy]
  have ne : ¬ ((Hd.yld h w).length : Int) = 0 := by
   have lw : (Hd.yld h w).length = Hd.cnt (fun x => Hd.undB h x w) h.length := Hd.sel_length _ _
   have := Hd.cnt_pos (p := fun x => Hd.undB h x w) hy.2.1 hy.2.2 (Hd.undB_true.2 (Hd.Und.refl _ _))
   omega
  rw [ye]
  exact Ev.neg ne (FnYieldOf_l0 hy.1 hy.2 1 (by omega) (by omega))
 ·have ye : Hd.yldL h w = [] := by rw [Hd.yldL, if_neg hy]
  rw [ye]
  exact Ev.pos rfl (Ev.bind laws_alive_ev (Ev.now _))

end Go.Proofs.Ytkicbdbplfdfgaa.Pure
