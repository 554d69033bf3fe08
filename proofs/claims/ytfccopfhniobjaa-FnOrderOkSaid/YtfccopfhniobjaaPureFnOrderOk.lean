/- For every drawn order and number the program's OrderOk answers as the reference's does; if it holds, each number up to so many is there; and it holds of the order from the last one to the first one exactly if it does. -/
import Derived.Test.YtfccopfhniobjaaBFnOrderOk
namespace Go.Proofs.Ytfccopfhniobjaa.Pure
open Go.Proofs.Ytfccopfhniobjaa.QFnOrderOk
open Go.RowKit Go.Proofs.YtfccopfhniobjaaW.PrintWords Go.Proofs.YtfccopfhniobjaaW.PrintLast Go.Proofs.YtfccopfhniobjaaW.PrintMore
set_option linter.unusedVariables false
set_option linter.unusedSimpArgs false
-- uses HdG
theorem one_ord : Hd.ordB [1] 1 = true := by
 rw [Hd.ordB_true]
 refine ⟨by omega, rfl, fun a h1 h2 => ?_, fun a b h1 h2 h3 h4 _ => ?_⟩
 ·have : a = 1 := by have : a ≤ 1 := h2; omega
  subst this; decide
 ·have : a ≤ 1 := h2
  have : b ≤ 1 := h4
  omega
theorem no_ord : Hd.ordB [] 0 = false := by
 cases hc : Hd.ordB [] 0 with
 | false => rfl
 | true => have := (Hd.ordB_true.1 hc).1; omega
theorem laws_FnOrderOk_l1 {o : List Int} {m : Int} (hl : o.length ≤ 8) (hm : m ≤ 9) : ∀ x : Int, x ≤ 10 → 1 ≤ x → Ev (fun k => laws_FnOrderOk.l1 k o m (Hd.ordB o m) o.reverse x) true := by
 have fin : ∀ x : Int, Ev (fun k => laws_FnOrderOk.j2 k o m (Hd.ordB o m) o.reverse x false) true := fun x => by
  refine laws_FnOrderOk.j2.ev (Ev.neg (by simp) (Ev.bindv (impl_OrderOk_eq _ _) ?_))
  rw [Hd.ordB_reverse]
  refine Ev.pos (by simp) (Ev.bindv (impl_OrderOk_eq _ _) ?_)
  rw [one_ord]
  refine Ev.pos rfl (Ev.bindv (impl_OrderOk_eq _ _) ?_)
  rw [no_ord]
  exact Ev.neg (by simp) (Ev.bind laws_alive_ev (Ev.now _))
 refine Hd.down ?_
 intro x hx ih h1
 refine laws_FnOrderOk.l1.ev ?_
 by_cases c : x ≤ m
 ·refine Ev.pos c ?_
  by_cases ok : Hd.ordB o m = true
  ·have P := (Hd.ordB_true.1 ok)
   obtain ⟨a, ha, e⟩ := P.2.sur x h1 (by omega)
   have hp := P.2.len
   have hin : x ∈ o := by rw [← e]; exact Hd.mem_hd ha.1 (by omega)
   have next := ih (by omega) (by omega)
   rw [ok] at next ⊢
   refine laws_FnOrderOk.j2.ev (Ev.pos rfl (Ev.bind (laws_hasInt_ev (by omega) x) (Ev.pos (by simpa using hin) ?_)))
   rw [wid (x := x + 1) (by omega) (by omega)]
   exact next
  ·have ok' : Hd.ordB o m = false := by simpa using ok
   have f := fin x
   rw [ok'] at f ⊢; exact f
 ·exact Ev.neg c (fin x)
theorem laws_FnOrderOk_l0 {o : List Int} {m : Int} (hl : o.length ≤ 8) (hm : m ≤ 9) : ∀ j : Nat, j ≤ o.length → Ev (fun k => laws_FnOrderOk.l0 k o m (Hd.ordB o m) (o.drop j).reverse ((j : Int) - 1)) true
 | 0, hj => by
  refine laws_FnOrderOk.l0.ev (Ev.neg (by omega) ?_)
  rw [List.drop_zero]
  exact laws_FnOrderOk_l1 hl hm 1 (by omega) (by omega)
 | j + 1, hj => by
  have next := laws_FnOrderOk_l0 hl hm j (by omega)
  refine laws_FnOrderOk.l0.ev ?_
  rw [show ((j + 1 : Nat) : Int) - 1 = (j : Int) from by omega, wid (x := (j : Int) - 1) (by omega) (by omega), rd_at (show j < o.length by omega)]
  refine Ev.pos (by omega) (Ev.pos (by omega) (Ev.pos (by omega) (Ev.pos (by rw [List.length_reverse, List.length_drop]; omega) ?_)))
  rw [← List.reverse_cons, List.getElem_cons_drop]
  exact next
theorem FnOrderOk : laws_FnOrderOk.Pure := by
 intro l _ _ hw
 refine Ev.rounds (g := fun k => laws_FnOrderOk.f k l) ?_
 unfold laws_FnOrderOk.f
 by_cases hbig : (l.length : Int) > 1048576
 ·exact Ev.pos hbig (Ev.now _)
 refine Ev.neg hbig ?_
 obtain ⟨o, m, e, hl, hm⟩ := spec_DrawOrderOk_ev hw
 refine Ev.bind e (Ev.bindv (impl_OrderOk_eq _ _) (Ev.bind (spec_OrderOk_ev (by simp only; omega) _) (Ev.neg (by simp) ?_)))
 simp only
 rw [wid (x := (o.length : Int) - 1) (by omega) (by omega)]
 have := laws_FnOrderOk_l0 hl hm o.length (Nat.le_refl _)
 rw [List.drop_length] at this
 exact this

end Go.Proofs.Ytfccopfhniobjaa.Pure
