/- For every drawn tree and word the program's CoveredOk answers as the reference's does; the first and the last word lie under no arc, and under an arc from a word to the one before its left neighbour, or farther, that neighbour lies. -/
import Derived.Test.YtkicbdbplfdfgaaBFnCoveredOk
namespace Go.Proofs.Ytkicbdbplfdfgaa.Pure
open Go.Proofs.Ytkicbdbplfdfgaa.PFnCoveredOk
open Go.RowKit Go.Proofs.YtkicbdbplfdfgaaW.PrintWords Go.Proofs.YtkicbdbplfdfgaaW.PrintLast Go.Proofs.YtkicbdbplfdfgaaW.PrintMore
set_option linter.unusedVariables false
set_option linter.unusedSimpArgs false
theorem FnCoveredOk_l0 {h : List Int} (t : Hd.T h) : ∀ i : Int, i ≤ (h.length : Int) + 1 → 2 ≤ i → Ev (fun k => laws_FnCoveredOk.l0 k h i) true := by
 have h8 := t.1
 have hp := t.2.pos
 have e1 : ¬ Hd.covB h 1 = true := fun hc => by
  obtain ⟨_, _, k, hk, hb⟩ := Hd.covB_true.1 hc
  have := t.2.word hk
  have := t.2.word_of hk
  unfold Hd.Btw at hb; omega
 have e2 : ¬ Hd.covB h h.length = true := fun hc => by
  obtain ⟨_, _, k, hk, hb⟩ := Hd.covB_true.1 hc
  have := t.2.word hk
  have := t.2.word_of hk
  unfold Hd.Btw at hb; omega
 have end' : Ev (fun k => (impl_CoveredOk.f k h 1).bind fun t314 => (if t314 = true then (some false) else ((impl_CoveredOk.f k h (h.length : Int)).bind fun t315 => (if t315 = true then (some false) else ((laws_alive.f k).bind fun t316 => (some t316)))))) true :=
  Ev.bind (impl_CoveredOk_ev h 1) (Ev.neg e1 (Ev.bind (impl_CoveredOk_ev h _) (Ev.neg e2 (Ev.bind laws_alive_ev (Ev.now _)))))
 have key : ∀ (d : Nat) (i : Int), 2 ≤ i → (h.length : Int) + 1 - i ≤ d → Ev (fun k => laws_FnCoveredOk.l0 k h i) true := by
  intro d
  induction d with
  | zero => intro i h1 h2; exact laws_FnCoveredOk.l0.ev (Ev.neg (by omega) end')
  | succ d ih =>
   intro i h1 h2
   refine laws_FnCoveredOk.l0.ev ?_
   by_cases hle : i ≤ (h.length : Int)
   ·have next := ih (i + 1) (by omega) (by omega)
    rw [wid (x := i - 1) (by omega) (by omega), wid (x := i + 1) (by omega) (by omega), rd_hd (by omega)]
    refine Ev.pos hle (Ev.pos (by omega) (Ev.pos (by omega) ?_))
    by_cases c1 : Hd.hd h i > 0
    ·refine Ev.pos c1 ?_
     by_cases c2 : Hd.hd h i < i - 1
     ·exact Ev.pos c2 (Ev.bind (impl_CoveredOk_ev h (i - 1)) (Ev.pos (Hd.covB_true.2 ⟨t, by omega, i, by omega, by unfold Hd.Btw; omega⟩) next))
     ·exact Ev.neg c2 next
    ·exact Ev.neg c1 next
   ·exact Ev.neg hle end'
 intro i h1 h2
 exact key ((h.length : Int) + 1 - i).toNat i h2 (by omega)
theorem FnCoveredOk_from {h : List Int} (t : Hd.T h) : Ev (fun k => laws_FnCoveredOk.l0 k h 2) true := by
 have hp := t.2.pos
 exact FnCoveredOk_l0 t 2 (by omega) (by omega)
theorem FnCoveredOk : laws_FnCoveredOk.Pure := by
 intro l _ _ hw
 refine Ev.rounds (g := fun k => laws_FnCoveredOk.f k l) ?_
 unfold laws_FnCoveredOk.f
 by_cases hbig : (l.length : Int) > 1048576
 ·exact Ev.pos hbig (Ev.now _)
 refine Ev.neg hbig ?_
 obtain ⟨h, w, e, hl, hb⟩ := spec_DrawCoveredOk_ev hw
 refine Ev.bind e (Ev.bind (impl_CoveredOk_ev h w) (Ev.bind (spec_CoveredOk_ev h w (by omega)) (Ev.neg (by simp) (Ev.bind (spec_TreeOk_ev h) ?_))))
 by_cases t : Hd.T h
 ·exact Ev.pos (Hd.treeB_yes t) (FnCoveredOk_from t)
 ·have hn : ¬ Hd.covB h w = true := fun hc => t (Hd.covB_true.1 hc).1
  exact Ev.neg (by rw [Hd.treeB_no t]; simp) (Ev.neg hn (Ev.bind laws_alive_ev (Ev.now _)))

end Go.Proofs.Ytkicbdbplfdfgaa.Pure
