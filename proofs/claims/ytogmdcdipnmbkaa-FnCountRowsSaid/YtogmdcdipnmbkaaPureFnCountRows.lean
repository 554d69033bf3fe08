/- For every drawn number of words the program's CountRows answers as the reference's does; for at most 5 words the products of the numbers of rows to the left of a root and to its right, all added, are the number of flat trees with one word more. -/
import Derived.Test.YtogmdcdipnmbkaaBFnCountRows
namespace Go.Proofs.Ytogmdcdipnmbkaa.Pure
open Go.Proofs.Ytogmdcdipnmbkaa.QFnCountRows
open Go.RowKit Go.Proofs.YtogmdcdipnmbkaaW.PrintWords Go.Proofs.YtogmdcdipnmbkaaW.PrintLast Go.Proofs.YtogmdcdipnmbkaaW.PrintMore
set_option linter.unusedVariables false
set_option maxRecDepth 100000 in
theorem FnCountRows_in {a : Int} (h0 : 0 ≤ a) (h1 : a ≤ 6) : Ev (fun k => laws_FnCountRows.l0 k a (rowsN a) 0 0) true := by
 have h : a = 0 ∨ a = 1 ∨ a = 2 ∨ a = 3 ∨ a = 4 ∨ a = 5 ∨ a = 6 := by omega
 rcases h with rfl | rfl | rfl | rfl | rfl | rfl | rfl
 ·exact Ev.lit 90 fun m => by kernel_rfl
 ·exact Ev.lit 90 fun m => by kernel_rfl
 ·exact Ev.lit 90 fun m => by kernel_rfl
 ·exact Ev.lit 90 fun m => by kernel_rfl
 ·exact Ev.lit 90 fun m => by kernel_rfl
 ·exact Ev.lit 90 fun m => by kernel_rfl
 ·exact Ev.lit 90 fun m => by kernel_rfl
theorem FnCountRows : laws_FnCountRows.Pure := by
 intro l _ _ hw
 refine Ev.rounds (g := fun k => laws_FnCountRows.f k l) ?_
 unfold laws_FnCountRows.f
 by_cases hbig : (l.length : Int) > 1048576
 ·exact Ev.pos hbig (Ev.now _)
 refine Ev.neg hbig ?_
 obtain ⟨a, e, a0, a1⟩ := spec_DrawCountRows_ev hw
 refine Ev.bind e (Ev.bind (impl_CountRows_ev a) (Ev.bind (spec_CountRows_ev a) (Ev.pos rfl ?_)))
 by_cases h : 0 ≤ a ∧ a ≤ 6
 ·have hp : 0 ≤ rowsN a := by
   have hc : a = 0 ∨ a = 1 ∨ a = 2 ∨ a = 3 ∨ a = 4 ∨ a = 5 ∨ a = 6 := by omega
   rcases hc with rfl | rfl | rfl | rfl | rfl | rfl | rfl <;> decide
  exact Ev.neg (by omega) (FnCountRows_in h.1 h.2)
 ·rw [rowsN_out h]
  refine Ev.pos (by omega) (Ev.pos rfl ?_)
  by_cases h0 : a < 0
  ·exact Ev.pos h0 (Ev.bind laws_alive_ev (Ev.now _))
  ·exact Ev.neg h0 (Ev.pos (by omega) (Ev.bind laws_alive_ev (Ev.now _)))

end Go.Proofs.Ytogmdcdipnmbkaa.Pure
