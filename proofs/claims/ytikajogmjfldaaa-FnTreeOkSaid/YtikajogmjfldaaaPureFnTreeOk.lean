/- The program's TreeOk answers as the reference's does for every drawn row; one word with the head 0 is a tree; and a tree with a further word that depends on any of its words is one. -/
import Derived.Test.YtikajogmjfldaaaBFnTreeOk
namespace Go.Proofs.Ytikajogmjfldaaa.Pure
open Go.Proofs.Ytikajogmjfldaaa.PFnTreeOk
open Go.RowKit Go.Proofs.YtikajogmjfldaaaW.PrintWords Go.Proofs.YtikajogmjfldaaaW.PrintLast Go.Proofs.YtikajogmjfldaaaW.PrintMore
set_option linter.unusedVariables false
theorem tree_21 : Hd.treeB [2, 1] = false := Hd.treeB_no fun t => by
  have := t.2.back 1 (by simp) (by simp)
  exact absurd this (by decide)
theorem FnTreeOk_last {h : List Int} {ok : Bool} {i : Int} : Ev (fun k => laws_FnTreeOk.j1 k h ok i false) true :=
  laws_FnTreeOk.j1.ev (Ev.neg (by simp) (Ev.bind (impl_TreeOk_ev [0]) (Ev.pos alive_one (Ev.bind (impl_TreeOk_ev [2, 1]) (Ev.neg (by rw [tree_21]; simp) (Ev.bind laws_alive_ev (Ev.now _)))))))
theorem FnTreeOk_l0 {h : List Int} (hl : h.length ≤ 9) : ∀ i : Int, i ≤ (h.length : Int) + 1 → 1 ≤ i → Ev (fun k => laws_FnTreeOk.l0 k h (Hd.treeB h) i) true := by
  refine Hd.down ?_
  intro i hi ih h1
  refine laws_FnTreeOk.l0.ev ?_
  by_cases hle : i ≤ (h.length : Int)
  · refine Ev.pos hle ?_
    by_cases ht : Hd.treeB h = true
    · refine Ev.pos ht ?_
      by_cases h8 : (h.length : Int) < 8
      · rw [decide_eq_true h8]
        have t := Hd.app_T (Hd.treeB_true.1 ht) (by omega) h1 hle
        refine laws_FnTreeOk.j1.ev (Ev.pos rfl (Ev.bindv rfl (Ev.pos (by simp; omega) (Ev.bindv rfl (Ev.pos (by simp; omega) (Ev.bind (impl_TreeOk_ev _) (Ev.pos ?_ ?_)))))))
        · simpa using Hd.treeB_yes t
        · rw [wid (x := i + 1) (by omega) (by omega)]
          exact ih (by omega) (by omega)
      · rw [decide_eq_false h8]
        exact FnTreeOk_last
    · exact Ev.neg ht FnTreeOk_last
  · exact Ev.neg hle FnTreeOk_last
theorem FnTreeOk : laws_FnTreeOk.Pure := by
  intro l _ _ hw
  refine Ev.rounds (g := fun k => laws_FnTreeOk.f k l) ?_
  unfold laws_FnTreeOk.f
  by_cases hbig : (l.length : Int) > 1048576
  · exact Ev.pos hbig (Ev.now _)
  refine Ev.neg hbig ?_
  obtain ⟨h, e, hl⟩ := spec_DrawTreeOk_ev hw
  exact Ev.bind e (Ev.bind (impl_TreeOk_ev h) (Ev.bind (spec_TreeOk_ev h) (Ev.neg (by simp) (FnTreeOk_l0 hl 1 (by omega) (by omega)))))

end Go.Proofs.Ytikajogmjfldaaa.Pure
