/- For every drawn row the program's FlatOk answers as the reference's does; a tree is flat just if no two arcs cross and the root is not covered, and just if all words between a word and its head are under that head. -/
import Derived.Test.YtkicbdbplfdfgaaBFnFlatOk
namespace Go.Proofs.Ytkicbdbplfdfgaa.Pure
open Go.Proofs.Ytkicbdbplfdfgaa.PFnFlatOk
open Go.RowKit Go.Proofs.YtkicbdbplfdfgaaW.PrintWords Go.Proofs.YtkicbdbplfdfgaaW.PrintLast Go.Proofs.YtkicbdbplfdfgaaW.PrintMore
set_option linter.unusedVariables false
open Classical in
noncomputable def betB (h : List Int) : Bool := decide (Hd.Bet (Hd.hd h))
theorem betB_true {h : List Int} : betB h = true ↔ Hd.Bet (Hd.hd h) := by simp [betB]
theorem flat_bet {h : List Int} (t : Hd.T h) : Hd.flatB h = betB h := bool_eq (by
 rw [Hd.flatB_true, betB_true, Hd.row_iff_bet t.2]
 exact ⟨fun x => x.2, fun x => ⟨t, x⟩⟩)
/-- All words between word k and its head are under the head, for the first so many words. -/
def BetTo (h : List Int) (m : Int) : Prop := ∀ k : Int, 1 ≤ k → k ≤ m → Hd.hd h k ≠ 0 → ∀ j, Hd.Btw j k (Hd.hd h k) → Hd.Und (Hd.hd h) j (Hd.hd h k)
theorem FnFlatOk_l1 {h : List Int} (t : Hd.T h) {i : Int} (h1 : 1 ≤ i) (h2 : i ≤ h.length) {r : Bool} (hz : Hd.hd h i > 0)
  (next : ∀ u : Bool, (u = true ↔ BetTo h i) → Ev (fun k => laws_FnFlatOk.l0 k h (Hd.flatB h) u (i + 1)) r) : ∀ j : Int, j ≤ mx i (Hd.hd h i) → mn i (Hd.hd h i) < j → ∀ u : Bool,
   (u = true ↔ BetTo h (i - 1) ∧ ∀ x, mn i (Hd.hd h i) < x → x < j → Hd.Und (Hd.hd h) x (Hd.hd h i)) → Ev (fun k => laws_FnFlatOk.l1 k h (Hd.flatB h) u i (Hd.hd h i) j) r := by
 have h8 := t.1
 have m := mn_mx i (Hd.hd h i)
 have hw := t.2.word (a := i) (by omega)
 refine Hd.down ?_
 intro j hj ih hlo u hu
 refine laws_FnFlatOk.l1.ev (Ev.pos hz ?_)
 rw [wid (x := i + 1) (by omega) (by omega), wid (x := j + 1) (by omega) (by omega)]
 by_cases hlt : j < mx i (Hd.hd h i)
 ·refine Ev.pos hlt ?_
  by_cases huu : u = true
  ·refine Ev.pos huu (Ev.bind (impl_UnderOk_ev h j (Hd.hd h i)) (ih hlt (by omega) _ ?_))
   have hu2 := hu.1 huu
   rw [uokB_true]
   constructor
   ·intro hy
    refine ⟨hu2.1, fun x k1 k2 => ?_⟩
    by_cases e : x = j
    ·rw [e]; exact hy.2.2.2
    ·exact hu2.2 x k1 (by omega)
   ·intro hy
    exact ⟨t, by omega, hw, hy.2 j hlo (by omega)⟩
  ·refine Ev.neg huu (ih hlt (by omega) false ?_)
   constructor
   ·intro e; cases e
   ·intro hy
    exact absurd (hu.2 ⟨hy.1, fun x k1 k2 => hy.2 x k1 (by omega)⟩) huu
 ·refine Ev.neg hlt (next u (hu.trans ?_))
  constructor
  ·rintro ⟨b, c⟩ k k1 k2 k3 x hx
   by_cases e : k = i
   ·subst e
    unfold Hd.Btw at hx
    exact c x (by omega) (by omega)
   ·exact b k k1 (by omega) k3 x hx
  ·intro b
   refine ⟨fun k k1 k2 k3 x hx => b k k1 (by omega) k3 x hx, fun x k1 k2 => b i h1 (by omega) (by omega) x ?_⟩
   unfold Hd.Btw; omega
theorem FnFlatOk_l0 {h : List Int} (t : Hd.T h) : ∀ i : Int, i ≤ (h.length : Int) + 1 → 1 ≤ i → ∀ u : Bool, (u = true ↔ BetTo h (i - 1)) → Ev (fun k => laws_FnFlatOk.l0 k h (Hd.flatB h) u i) true := by
 have h8 := t.1
 refine Hd.down ?_
 intro i hi ih h1 u hu
 refine laws_FnFlatOk.l0.ev ?_
 by_cases hle : i ≤ (h.length : Int)
 ·have hlo := t.2.lo i
  have hhi := t.2.hi i
  have m := mn_mx i (Hd.hd h i)
  rw [wid (x := i - 1) (by omega) (by omega), rd_hd h1, wid (x := mn i (Hd.hd h i) + 1) (by omega) (by omega)]
  refine Ev.pos hle (Ev.pos (by omega) (Ev.pos (by omega) ?_))
  by_cases hz : Hd.hd h i > 0
  ·have own := t.2.not_own ⟨h1, hle⟩
   refine FnFlatOk_l1 t h1 hle hz (fun u hu => ih (by omega) (by omega) u (by rw [show i + 1 - 1 = i from by omega]; exact hu)) (mn i (Hd.hd h i) + 1) (by omega) (by omega) u (hu.trans ?_)
   exact ⟨fun b => ⟨b, fun x k1 k2 => by omega⟩, fun b => b.1⟩
  ·refine laws_FnFlatOk.l1.ev (Ev.neg hz ?_)
   rw [wid (x := i + 1) (by omega) (by omega)]
   refine ih (by omega) (by omega) u (hu.trans ?_)
   rw [show i + 1 - 1 = i from by omega]
   constructor
   ·intro b k k1 k2 k3
    by_cases e : k = i
    ·subst e; exact absurd (show Hd.hd h k = 0 by omega) k3
    ·exact b k k1 (by omega) k3
   ·exact fun b k k1 k2 => b k k1 (by omega)
 ·have ub : u = Hd.flatB h := by
   rw [flat_bet t]
   refine bool_eq (hu.trans ?_)
   rw [betB_true]
   constructor
   ·intro b k k3
    have := t.2.word_of k3
    exact b k this.1 (by omega) k3
   ·exact fun b k _ _ => b k
  subst ub
  have cz := Hd.crsN_zero t
  have ci : crossI h = crsN h h.length := by rw [crossI, if_pos t]
  have rs := Hd.rootI_spec t
  have fl : Hd.flatB h = true ↔ Hd.NoCr (Hd.hd h) ∧ Hd.NoCov h.length (Hd.hd h) := by
   rw [Hd.flatB_true, Hd.row_iff t.2]
   exact ⟨fun x => x.2, fun x => ⟨t, x⟩⟩
  have cv : Hd.covB h (Hd.rootI h) = false ↔ Hd.NoCov h.length (Hd.hd h) := by
   constructor
   ·intro hc r r1 r2 r0 k hk hb
    rw [rs.2.2 r r1 r2 r0] at hb
    rw [Hd.covB_true.2 ⟨t, rs.1, k, hk, hb⟩] at hc
    cases hc
   ·intro N
    cases hc : Hd.covB h (Hd.rootI h) with
    | false => rfl
    | true =>
     obtain ⟨_, _, k, hk, hb⟩ := Hd.covB_true.1 hc
     exact (N _ rs.1.1 rs.1.2 rs.2.1 k hk hb).elim
  refine Ev.neg hle (Ev.bind (impl_CrossingsOf_ev h) ?_)
  rw [ci]
  by_cases hc : crsN h h.length = 0
  ·refine Ev.pos (by omega) (Ev.bind (impl_RootOf_ev h) (Ev.bind (impl_CoveredOk_ev h _) (Ev.pos ?_ (Ev.ret (by simp)))))
   rw [beq_iff_eq]
   refine bool_eq ?_
   rw [fl, Bool.not_eq_true', cv]
   exact ⟨fun x => x.2, fun x => ⟨cz.1 hc, x⟩⟩
  ·refine Ev.neg (by omega) (Ev.pos ?_ (Ev.ret (by simp)))
   rw [beq_iff_eq]
   cases hf : Hd.flatB h with
   | false => rfl
   | true => exact absurd (cz.2 (fl.1 hf).1) hc
theorem FnFlatOk : laws_FnFlatOk.Pure := by
 intro l _ _ hw
 refine Ev.rounds (g := fun k => laws_FnFlatOk.f k l) ?_
 unfold laws_FnFlatOk.f
 by_cases hbig : (l.length : Int) > 1048576
 ·exact Ev.pos hbig (Ev.now _)
 refine Ev.neg hbig ?_
 obtain ⟨h, e, hl⟩ := spec_DrawFlatOk_ev hw
 refine Ev.bind e (Ev.bind (impl_FlatOk_ev h) (Ev.bind (spec_FlatOk_ev h) (Ev.neg (by simp) (Ev.bind (spec_TreeOk_ev h) ?_))))
 by_cases t : Hd.T h
 ·refine Ev.pos (Hd.treeB_yes t) (FnFlatOk_l0 t 1 (by omega) (by omega) true ⟨fun _ k k1 k2 => by omega, fun _ => rfl⟩)
 ·have hn : ¬ Hd.flatB h = true := fun hc => t (Hd.flatB_true.1 hc).1
  exact Ev.neg (by rw [Hd.treeB_no t]; simp) (Ev.neg hn (Ev.bind laws_alive_ev (Ev.now _)))

end Go.Proofs.Ytkicbdbplfdfgaa.Pure
