/- For every drawn number of words the program's CountTrees answers as the reference's does; for at most 4 words it is the number of rows of heads that are trees, counted one by one; for 5 to 8 words it is more than for one word less; for others it is -1. -/
import Derived.Test.YtogmdcdipnmbkaaBFnCountTrees
namespace Go.Proofs.Ytogmdcdipnmbkaa.Pure
open Go.Proofs.Ytogmdcdipnmbkaa.PFnCountTrees
open Go.RowKit Go.Proofs.YtogmdcdipnmbkaaW.PrintWords Go.Proofs.YtogmdcdipnmbkaaW.PrintLast Go.Proofs.YtogmdcdipnmbkaaW.PrintMore
set_option linter.unusedVariables false
theorem FnCountTrees_l2 {n : Nat} (h1 : 1 ≤ n) (h4 : n ≤ 4) {N all c : Int} (hc0 : 0 ≤ c) (hc : c < 1000) {many : Nat} (hm : many ≤ 1000) {r : Bool}
  (next : Ev (fun k => laws_FnCountTrees.l1 k n N ((many + if Hd.treeC (Hd.digs ((n : Int) + 1) n c) then 1 else 0 : Nat) : Int) all (c + 1)) r) : ∀ j : Int, j ≤ n → 0 ≤ j → ∀ (acc : List Int) (left : Int), 0 ≤ left → left ≤ 1000 → acc.length ≤ 10 →
   acc ++ Hd.digs ((n : Int) + 1) (n - j.toNat) left = Hd.digs ((n : Int) + 1) n c → acc.length = j.toNat → Ev (fun k => laws_FnCountTrees.l2 k n N (many : Int) all c acc left j) r := by
 refine Hd.down ?_
 intro j hj ih h0 acc left l0 l1 la e el
 refine laws_FnCountTrees.l2.ev ?_
 rw [wid (x := (n : Int) + 1) (by omega) (by omega), wid (x := j + 1) (by omega) (by omega), wid (x := c + 1) (by omega) (by omega), wid (x := (many : Int) + 1) (by omega) (by omega)]
 by_cases hlt : j < n
 ·have e1 : Int.tmod left ((n : Int) + 1) = left % ((n : Int) + 1) := Int.tmod_eq_emod_of_nonneg l0
  have e2 : Int.tdiv left ((n : Int) + 1) = left / ((n : Int) + 1) := Int.tdiv_eq_ediv_of_nonneg l0
  have q0 : 0 ≤ left / ((n : Int) + 1) := Int.ediv_nonneg l0 (by omega)
  have q1 : left / ((n : Int) + 1) ≤ left := Int.ediv_le_self _ l0
  rw [e1, e2, wid (x := left / ((n : Int) + 1)) (by omega) (by omega)]
  refine Ev.pos hlt (Ev.neg (by omega) (Ev.pos (by omega) (ih hlt (by omega) _ _ q0 (by omega) (by rw [List.length_append, List.length_singleton]; omega) ?_ (by rw [List.length_append, List.length_singleton]; omega))))
  rw [← e, show n - j.toNat = (n - (j + 1).toNat) + 1 from by omega, Hd.digs]
  simp
 ·rw [show n - j.toNat = 0 from by omega, Hd.digs, List.append_nil] at e
  subst e
  refine Ev.neg hlt (Ev.bind (impl_TreeOk_ev _) ?_)
  rw [Hd.treeC_eq]
  by_cases ht : Hd.treeC (Hd.digs ((n : Int) + 1) n c) = true
  ·rw [if_pos ht] at next
   exact Ev.pos ht next
  ·rw [if_neg ht] at next
   exact Ev.neg ht next
theorem FnCountTrees_l1 {n : Nat} (h1 : 1 ≤ n) (h4 : n ≤ 4) {all : Nat} (hall : all ≤ 1000) (ha : all = (n + 1) ^ n) : ∀ c : Int, c ≤ all → 0 ≤ c → Ev (fun k => laws_FnCountTrees.l1 k n ((n ^ (n - 1) : Nat) : Int) (Hd.treesTo n c.toNat : Int) all c) true := by
 refine Hd.down ?_
 intro c hc ih h0
 refine laws_FnCountTrees.l1.ev ?_
 have tl := Hd.treesTo_le n c.toNat
 by_cases hlt : c < all
 ·have next := ih hlt (by omega)
  rw [show (c + 1).toNat = c.toNat + 1 from by omega, Hd.treesTo, show ((c.toNat : Nat) : Int) = c from by omega] at next
  exact Ev.pos hlt (FnCountTrees_l2 h1 h4 h0 (by omega) (by omega) next 0 (by omega) (by omega) [] c h0 (by omega) (by simp) rfl rfl)
 ·refine Ev.neg hlt (Ev.ret ?_)
  rw [show c.toNat = all from by omega, ha, Hd.trees_all n h4 h1]
  simp
theorem FnCountTrees_l0 {n : Nat} (h1 : 1 ≤ n) (h4 : n ≤ 4) {N : Int} {r : Bool} (next : Ev (fun k => laws_FnCountTrees.l1 k n N 0 (((n + 1) ^ n : Nat) : Int) 0) r) : ∀ j : Int, j ≤ n → 0 ≤ j → Ev (fun k => laws_FnCountTrees.l0 k n N 0 (((n + 1) ^ j.toNat : Nat) : Int) j) r := by
 refine Hd.down ?_
 intro j hj ih h0
 refine laws_FnCountTrees.l0.ev ?_
 by_cases hlt : j < n
 ·have nx := ih hlt (by omega)
  have hp := pow_le (x := n + 1) (j := j.toNat + 1) (by omega) (by omega)
  rw [show (j + 1).toNat = j.toNat + 1 from by omega] at nx
  have e : (((n + 1) ^ j.toNat : Nat) : Int) * ((n : Int) + 1) = (((n + 1) ^ (j.toNat + 1) : Nat) : Int) := by rw [Nat.pow_succ]; simp
  rw [wid (x := (n : Int) + 1) (by omega) (by omega), e, wid (x := (((n + 1) ^ (j.toNat + 1) : Nat) : Int)) (by omega) (by omega), wid (x := j + 1) (by omega) (by omega)]
  exact Ev.pos hlt nx
 ·refine Ev.neg hlt ?_
  rw [show j.toNat = n from by omega]
  exact next
theorem FnCountTrees : laws_FnCountTrees.Pure := by
 intro l _ _ hw
 refine Ev.rounds (g := fun k => laws_FnCountTrees.f k l) ?_
 unfold laws_FnCountTrees.f
 by_cases hbig : (l.length : Int) > 1048576
 ·exact Ev.pos hbig (Ev.now _)
 refine Ev.neg hbig ?_
 obtain ⟨a, e, a0, a1⟩ := spec_DrawCountTrees_ev hw
 refine Ev.bind e (Ev.bind (impl_CountTrees_ev a) (Ev.bind (spec_CountTrees_ev a) (Ev.pos rfl ?_)))
 by_cases hin : 1 ≤ a ∧ a ≤ 8
 ·obtain ⟨n, rfl⟩ := Int.eq_ofNat_of_zero_le (show 0 ≤ a by omega)
  have tn : treesN (n : Int) = ((n ^ (n - 1) : Nat) : Int) := by rw [treesN, if_pos hin]; rfl
  refine Ev.neg (by rw [tn]; omega) ?_
  by_cases h4 : (n : Int) > 4
  ·refine Ev.pos h4 (Ev.bind (impl_CountTrees_ev _) (Ev.ret ?_))
   rw [wid (x := (n : Int) - 1) (by omega) (by omega)]
   have all : ∀ m : Nat, m ≤ 8 → 4 < m → treesN (m : Int) > treesN ((m : Int) - 1) := by decide
   exact decide_eq_true (all n (by omega) (by omega))
  ·refine Ev.neg h4 ?_
   have k1 : 1 ≤ n := by omega
   have k4 : n ≤ 4 := by omega
   have pw : ∀ m : Nat, m ≤ 4 → (m + 1) ^ m ≤ 1000 := by decide
   rw [tn]
   have l1 := FnCountTrees_l1 k1 k4 (pw n k4) rfl 0 (by omega) (by omega)
   have := FnCountTrees_l0 k1 k4 l1 0 (by omega) (by omega)
   simp only [Int.toNat_zero, Nat.pow_zero, Int.natCast_one] at this
   exact this
 ·have tn : treesN a = -1 := by rw [treesN, if_neg hin]
  rw [tn]
  refine Ev.pos (by omega) (Ev.pos rfl ?_)
  by_cases h1 : a < 1
  ·exact Ev.pos h1 (Ev.bind laws_alive_ev (Ev.now _))
  ·exact Ev.neg h1 (Ev.pos (by omega) (Ev.bind laws_alive_ev (Ev.now _)))

end Go.Proofs.Ytogmdcdipnmbkaa.Pure
