/- For every drawn number of words the program's CountFlat answers as the reference's does; times the number of words it is the number of ways to choose one less than the words from three times the words less 2, and it is at most CountTrees. -/
import Derived.Test.YtikajogmjfldaaaBFnCountFlat
namespace Go.Proofs.Ytikajogmjfldaaa.Pure
open Go.Proofs.Ytikajogmjfldaaa.QFnCountFlat
open Go.RowKit Go.Proofs.YtikajogmjfldaaaW.PrintWords Go.Proofs.YtikajogmjfldaaaW.PrintLast Go.Proofs.YtikajogmjfldaaaW.PrintMore
set_option linter.unusedVariables false
set_option maxRecDepth 100000 in
theorem FnCountFlat_in {a : Int} (h0 : 1 ≤ a) (h1 : a ≤ 6) : Ev (fun k => laws_FnCountFlat.l0 k a (flatN a) 1 1) true := by
 have h : a = 1 ∨ a = 2 ∨ a = 3 ∨ a = 4 ∨ a = 5 ∨ a = 6 := by omega
 rcases h with rfl | rfl | rfl | rfl | rfl | rfl
 ·exact Ev.lit 90 fun m => by kernel_rfl
 ·exact Ev.lit 90 fun m => by kernel_rfl
 ·exact Ev.lit 90 fun m => by kernel_rfl
 ·exact Ev.lit 90 fun m => by kernel_rfl
 ·exact Ev.lit 90 fun m => by kernel_rfl
 ·exact Ev.lit 90 fun m => by kernel_rfl
theorem FnCountFlat : laws_FnCountFlat.Pure := by
 intro l _ _ hw
 refine Ev.rounds (g := fun k => laws_FnCountFlat.f k l) ?_
 unfold laws_FnCountFlat.f
 by_cases hbig : (l.length : Int) > 1048576
 ·exact Ev.pos hbig (Ev.now _)
 refine Ev.neg hbig ?_
 obtain ⟨a, e, a0, a1⟩ := spec_DrawCountFlat_ev hw
 refine Ev.bind e (Ev.bind (impl_CountFlat_ev a) (Ev.bind (spec_CountFlat_ev a) (Ev.pos rfl ?_)))
 by_cases h : 1 ≤ a ∧ a ≤ 6
 ·have hp : 0 ≤ flatN a := by
   have hc : a = 1 ∨ a = 2 ∨ a = 3 ∨ a = 4 ∨ a = 5 ∨ a = 6 := by omega
   rcases hc with rfl | rfl | rfl | rfl | rfl | rfl <;> decide
  exact Ev.neg (by omega) (FnCountFlat_in h.1 h.2)
 ·rw [flatN_out h]
  refine Ev.pos (by omega) (Ev.pos rfl ?_)
  by_cases h0 : a < 1
  ·exact Ev.pos h0 (Ev.bind laws_alive_ev (Ev.now _))
  ·exact Ev.neg h0 (Ev.pos (by omega) (Ev.bind laws_alive_ev (Ev.now _)))

end Go.Proofs.Ytikajogmjfldaaa.Pure
