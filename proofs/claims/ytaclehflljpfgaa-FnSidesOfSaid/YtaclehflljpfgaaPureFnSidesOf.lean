/- For every drawn tree and word the program's SidesOf answers as the reference's does; both numbers together are how many words depend on the word; over all words they are together one less than the words. -/
import Derived.Test.YtaclehflljpfgaaBFnSidesOf
namespace Go.Proofs.Ytaclehflljpfgaa.Pure
open Go.Proofs.Ytaclehflljpfgaa.PFnSidesOf
open Go.RowKit Go.Proofs.YtaclehflljpfgaaW.PrintWords Go.Proofs.YtaclehflljpfgaaW.PrintLast Go.Proofs.YtaclehflljpfgaaW.PrintMore
set_option linter.unusedVariables false
theorem sides_both {h : List Int} (t : Hd.T h) {w : Int} (hw : 1 ≤ w ∧ w ≤ (h.length : Int)) : Hd.cnt (fun a => decide (Hd.hd h a = w ∧ a < w)) h.length + Hd.cnt (fun a => decide (Hd.hd h a = w ∧ a > w)) h.length = Hd.cnt (fun a => decide (Hd.hd h a = w)) h.length := by
  rw [← Hd.cnt_add (fun a _ _ => by simp; omega)]
  refine Hd.cnt_congr fun a h1 h2 => bool_eq ?_
  have := t.2.not_own ⟨h1, h2⟩
  simp
  constructor
  · rintro (h | h) <;> exact h.1
  · intro e
    by_cases hl : a < w
    · exact .inl ⟨e, hl⟩
    · exact .inr ⟨e, by omega⟩
theorem sides_sum {h : List Int} (t : Hd.T h) (i : Nat) : Hd.cnt (fun a => decide (1 ≤ Hd.hd h a ∧ Hd.hd h a ≤ (i : Int) + 1)) h.length = Hd.cnt (fun a => decide (1 ≤ Hd.hd h a ∧ Hd.hd h a ≤ i)) h.length + Hd.cnt (fun a => decide (Hd.hd h a = (i : Int) + 1)) h.length := by
  rw [← Hd.cnt_add (fun a _ _ => by simp; omega)]
  refine Hd.cnt_congr fun a _ _ => bool_eq ?_
  have := t.2.lo a
  simp
  omega
theorem FnSidesOf_l0 {h : List Int} (t : Hd.T h) {w : Int} (hw : 1 ≤ w ∧ w ≤ (h.length : Int)) : ∀ i : Int, i ≤ (h.length : Int) + 1 → 1 ≤ i →
    Ev (fun k => laws_FnSidesOf.l0 k h w (Hd.cnt (fun a => decide (Hd.hd h a = w ∧ a < w)) h.length : Int) (Hd.cnt (fun a => decide (Hd.hd h a = w ∧ a > w)) h.length : Int) (Hd.cnt (fun a => decide (1 ≤ Hd.hd h a ∧ Hd.hd h a ≤ i - 1)) h.length : Int) i) true := by
  have h8 := t.1
  refine Hd.down ?_
  intro i hi ih h1
  have c0 := Hd.cnt_le (fun a => decide (1 ≤ Hd.hd h a ∧ Hd.hd h a ≤ i - 1)) h.length
  have c1 := Hd.cnt_le (fun a => decide (Hd.hd h a = w ∧ a < w)) h.length
  have c2 := Hd.cnt_le (fun a => decide (Hd.hd h a = w ∧ a > w)) h.length
  refine laws_FnSidesOf.l0.ev ?_
  by_cases hle : i ≤ (h.length : Int)
  · have next := ih (by omega) (by omega)
    have c3 := Hd.cnt_le (fun a => decide (Hd.hd h a = i ∧ a < i)) h.length
    have c4 := Hd.cnt_le (fun a => decide (Hd.hd h a = i ∧ a > i)) h.length
    have b := sides_both t ⟨h1, hle⟩
    obtain ⟨j, rfl⟩ : ∃ j : Nat, i = (j : Int) + 1 := ⟨(i - 1).toNat, by omega⟩
    have s := sides_sum t j
    rw [show (j : Int) + 1 + 1 - 1 = (j : Int) + 1 from by omega, s] at next
    rw [show (j : Int) + 1 - 1 = (j : Int) from by omega] at c0 ⊢
    have es : sidesL h ((j : Int) + 1) = ((Hd.cnt (fun a => decide (Hd.hd h a = (j : Int) + 1 ∧ a < (j : Int) + 1)) h.length : Int), (Hd.cnt (fun a => decide (Hd.hd h a = (j : Int) + 1 ∧ a > (j : Int) + 1)) h.length : Int), true) := by
      rw [sidesL, if_pos ⟨t, ⟨h1, hle⟩⟩]
    have e := impl_SidesOf_ev h ((j : Int) + 1)
    rw [es] at e
    refine Ev.pos hle (Ev.bind e ?_)
    simp only
    generalize Hd.cnt (fun a => decide (Hd.hd h a = (j : Int) + 1 ∧ a < (j : Int) + 1)) h.length = u at *
    generalize Hd.cnt (fun a => decide (Hd.hd h a = (j : Int) + 1 ∧ a > (j : Int) + 1)) h.length = v at *
    generalize Hd.cnt (fun a => decide (1 ≤ Hd.hd h a ∧ Hd.hd h a ≤ (j : Int))) h.length = x at *
    generalize Hd.cnt (fun a => decide (Hd.hd h a = (j : Int) + 1)) h.length = y at *
    rw [wid (x := (x : Int) + u) (by omega) (by omega), wid (x := (x : Int) + u + v) (by omega) (by omega), wid (x := (j : Int) + 1 + 1) (by omega) (by omega)]
    rw [show ((x + y : Nat) : Int) = (x : Int) + u + v from by omega] at next
    exact next
  · have b := sides_both t hw
    have all : Hd.cnt (fun a => decide (1 ≤ Hd.hd h a ∧ Hd.hd h a ≤ i - 1)) h.length = Hd.cnt (fun a => decide (Hd.hd h a ≠ 0)) h.length := Hd.cnt_congr fun a _ _ => bool_eq (by
      have := t.2.lo a
      have := t.2.hi a
      simp; omega)
    have ch := Hd.cnt_heads t.2
    have kl : (Hd.kidL h w).length = Hd.cnt (fun a => decide (Hd.hd h a = w)) h.length := by rw [Hd.kidL, if_pos t, Hd.sel_length]
    refine Ev.neg hle (Ev.bind (impl_DependsOf_ev h w) (Ev.pos ?_ (Ev.ret ?_)))
    · rw [kl, wid (by omega) (by omega)]; omega
    · rw [all, wid (x := (h.length : Int) - 1) (by omega) (by omega)]
      simp only [beq_iff_eq]; omega
theorem FnSidesOf : laws_FnSidesOf.Pure := by
  intro l _ _ hw
  refine Ev.rounds (g := fun k => laws_FnSidesOf.f k l) ?_
  unfold laws_FnSidesOf.f
  by_cases hbig : (l.length : Int) > 1048576
  · exact Ev.pos hbig (Ev.now _)
  refine Ev.neg hbig ?_
  obtain ⟨h, w, e, hl, hb⟩ := spec_DrawSidesOf_ev hw
  refine Ev.bind e (Ev.bind (impl_SidesOf_ev h w) (Ev.bind (spec_SidesOf_ev h w) (Ev.pos rfl (Ev.pos rfl (laws_FnSidesOf.j0.ev (Ev.neg (by simp) ?_))))))
  by_cases hy : Hd.T h ∧ (1 ≤ w ∧ w ≤ (h.length : Int))
  · have es : sidesL h w = ((Hd.cnt (fun a => decide (Hd.hd h a = w ∧ a < w)) h.length : Int), (Hd.cnt (fun a => decide (Hd.hd h a = w ∧ a > w)) h.length : Int), true) := by
      rw [sidesL, if_pos hy]
    have z : Hd.cnt (fun a => decide (1 ≤ Hd.hd h a ∧ Hd.hd h a ≤ (1 : Int) - 1)) h.length = 0 := Hd.cnt_none fun a _ _ => by simp; omega
    have := FnSidesOf_l0 hy.1 hy.2 1 (by omega) (by omega)
    rw [z] at this
    rw [es]
    exact Ev.pos rfl this
  · have es : sidesL h w = (-1, -1, false) := by rw [sidesL, if_neg hy]
    rw [es]
    exact Ev.neg (by simp) (Ev.pos rfl (Ev.pos rfl (Ev.bind laws_alive_ev (Ev.now _))))

end Go.Proofs.Ytaclehflljpfgaa.Pure
