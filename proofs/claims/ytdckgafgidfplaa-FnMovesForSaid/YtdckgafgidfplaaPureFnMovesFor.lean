/- For every drawn row the program's MovesFor answers as the reference's does; there are moves just for flat trees; they tell the tree again, as many are S as there are words, and as many L as words that are to the left of their heads. -/
import Derived.Test.YtdckgafgidfplaaBFnMovesFor
namespace Go.Proofs.Ytdckgafgidfplaa.Pure
open Go.Proofs.Ytdckgafgidfplaa.QFnMovesFor
open Go.RowKit Go.Proofs.YtdckgafgidfplaaW.PrintWords Go.Proofs.YtdckgafgidfplaaW.PrintLast Go.Proofs.YtdckgafgidfplaaW.PrintMore
set_option linter.unusedVariables false
set_option linter.unusedSimpArgs false
-- base Hd8
-- flat
-- uses HdE
theorem bytesM_bytes {ms : List Int} (h : ∀ m, m ∈ ms → m = 76 ∨ m = 82 ∨ m = 83) : bytesOf (Hd.bytesM ms) = ms := Hd.bytesM_list ms (fun m hm => by rcases h m hm with rfl | rfl | rfl <;> omega)
theorem many_append (c : Int) : ∀ a b : List Int, Hd.many c (a ++ b) = Hd.many c a + Hd.many c b
 | [], b => by simp [Hd.many]
 | x :: a, b => by rw [List.cons_append, Hd.many, Hd.many, many_append c a b]; omega
theorem many_take (c : Int) {ms : List Int} {j : Nat} (h : j < ms.length) : Hd.many c (ms.take (j + 1)) = Hd.many c (ms.take j) + if rd ms (j : Int) = c then 1 else 0 := by
 rw [List.take_succ_eq_append_getElem h, many_append, rd_at h]; simp [Hd.many]
theorem many_le (c : Int) : ∀ ms : List Int, Hd.many c ms ≤ ms.length
 | [] => Nat.le_refl _
 | x :: ms => by have := many_le c ms; rw [Hd.many, List.length_cons]; split <;> omega
theorem cnt_at {h : List Int} {j : Nat} : Hd.cnt (fun x => decide (Hd.hd h x > x)) (j + 1) = Hd.cnt (fun x => decide (Hd.hd h x > x)) j + if rd h (j : Int) > (j : Int) + 1 then 1 else 0 := by
 rw [rd_hd1 (by omega)]
 simp only [Hd.cnt]
 by_cases c : Hd.hd h ((j : Int) + 1) > (j : Int) + 1
 rotate_left
 ·simp [c]
 simp [c]
theorem laws_FnMovesFor_l1 {h : List Int} {b : ByteArray} (h8 : h.length ≤ 8) (h1 : 1 ≤ h.length) (hlen : (b.size : Int) = 2 * h.length - 1) (R : impl_RunStack.f (h.length : Int) b = some (h, true)) : ∀ i : Int, i ≤ h.length → 0 ≤ i →
  Ev (fun k => laws_FnMovesFor.l1 k h b (h.length : Int) (Hd.cnt (fun x => decide (Hd.hd h x > x)) h.length : Int) (Hd.cnt (fun x => decide (Hd.hd h x > x)) i.toNat : Int) i) true := by
 have sm := laws_sameInts_ev (a := h) (b := h) (by omega)
 refine Hd.down ?_
 intro i hi ih h0
 obtain ⟨j, rfl⟩ := Int.eq_ofNat_of_zero_le h0
 refine laws_FnMovesFor.l1.ev ?_
 rw [Int.toNat_natCast]
 have cl := Hd.cnt_le (fun x => decide (Hd.hd h x > x)) j
 by_cases hlt : (j : Int) < h.length
 rotate_left
 ·refine Ev.neg hlt (Ev.bindv R (Ev.pos rfl (Ev.bind sm (Ev.pos (by simp) (Ev.pos rfl (Ev.pos ?_ (Ev.ret ?_)))))))
  ·rw [show j = h.length by omega]
  ·rw [wid (x := 2 * (h.length : Int)) (by omega) (by omega), wid (by omega) (by omega), hlen]; simp
 have next := ih hlt (by omega)
 rw [show ((j : Int) + 1).toNat = j + 1 from by omega, cnt_at] at next
 rw [wid (x := (j : Int) + 1) (by omega) (by omega), wid (x := (Hd.cnt (fun x => decide (Hd.hd h x > x)) j : Int) + 1) (by omega) (by omega)]
 refine Ev.pos hlt (Ev.pos h0 ?_)
 by_cases c : rd h (j : Int) > (j : Int) + 1
 rotate_left
 ·rw [if_neg c] at next; exact Ev.neg c (by simpa using next)
 rw [if_pos c] at next; exact Ev.pos c (by simpa using next)
theorem laws_FnMovesFor_l0 {h ms : List Int} {b : ByteArray} (hb : bytesOf b = ms) (hs : b.size ≤ 100) (fin : Ev (fun k => laws_FnMovesFor.l1 k h b (Hd.many 83 ms : Int) (Hd.many 76 ms : Int) 0 0) true) : ∀ i : Int, i ≤ b.size → 0 ≤ i →
  Ev (fun k => laws_FnMovesFor.l0 k h b (Hd.many 83 (ms.take i.toNat) : Int) (Hd.many 76 (ms.take i.toNat) : Int) i) true := by
 have hl : ms.length = b.size := by rw [← hb, bytesOf_length]
 refine Hd.down ?_
 intro i hi ih h0
 obtain ⟨j, rfl⟩ := Int.eq_ofNat_of_zero_le h0
 refine laws_FnMovesFor.l0.ev ?_
 rw [Int.toNat_natCast]
 have m1 := many_le 83 (ms.take j)
 have m2 := many_le 76 (ms.take j)
 rw [List.length_take] at m1 m2
 by_cases hlt : (j : Int) < b.size
 rotate_left
 ·refine Ev.neg hlt ?_
  rw [show ms.take j = ms from List.take_of_length_le (by omega)]; exact fin
 have next := ih hlt (by omega)
 have hbt : bt b (j : Int) = rd ms (j : Int) := by rw [← hb, rd_bytesOf]
 rw [show ((j : Int) + 1).toNat = j + 1 from by omega, many_take 83 (by omega), many_take 76 (by omega)] at next
 rw [wid (x := (j : Int) + 1) (by omega) (by omega), wid (x := (Hd.many 83 (ms.take j) : Int) + 1) (by omega) (by omega), wid (x := (Hd.many 76 (ms.take j) : Int) + 1) (by omega) (by omega), hbt]
 refine Ev.pos hlt (Ev.pos h0 ?_)
 by_cases c : rd ms (j : Int) = 83
 ·rw [if_pos c, if_neg (by omega)] at next
  exact Ev.pos c (Ev.neg (by omega) (by simpa using next))
 rw [if_neg c] at next
 refine Ev.neg c ?_
 by_cases c2 : rd ms (j : Int) = 76
 rotate_left
 ·rw [if_neg c2] at next; exact Ev.neg c2 (by simpa using next)
 rw [if_pos c2] at next; exact Ev.pos c2 (by simpa using next)
theorem FnMovesFor : laws_FnMovesFor.Pure := by
 intro l _ _ hw
 refine Ev.rounds (g := fun k => laws_FnMovesFor.f k l) ?_
 unfold laws_FnMovesFor.f
 by_cases hbig : (l.length : Int) > 1048576
 ·exact Ev.pos hbig (Ev.now _)
 refine Ev.neg hbig ?_
 obtain ⟨h, e, hl⟩ := spec_DrawMovesFor_ev hw
 have I := impl_MovesFor_ev h
 have S := spec_MovesFor_ev h
 unfold movP at S
 refine Ev.bind e (Ev.bind I (Ev.bind S (Ev.pos rfl (laws_FnMovesFor.j0.ev (Ev.neg (by simp) ?_)))))
 by_cases f : Hd.flatB h = true
 rotate_left
 ·rw [if_neg f]
  exact Ev.neg (by simp) (Ev.pos (by simp) (Ev.bind (impl_FlatOk_ev h) (Ev.neg f (Ev.bind laws_alive_ev (Ev.now _)))))
 rw [if_pos f]
 have t := (Hd.flatB_true.1 f).1
 have hp := t.2.pos
 have h8 := t.1
 obtain ⟨ms, T, hml, hout, s', hs', e'⟩ := Hd.flat_told f
 have hz : (Mach.movesF h).size = 2 * h.length - 1 := Hd.outM_size _ _
 have hb : bytesOf (Mach.movesF h) = ms := by unfold Mach.movesF; rw [hout]; exact bytesM_bytes T.moves
 have R2 : impl_RunStack.f (h.length : Int) (Mach.movesF h) = some (h, true) := by
  rw [impl_RunStack_eq _ (by omega)]; unfold Mach.runF; rw [hb, hs']; show some (s'.hs, true) = _; rw [e']
 have k1 := T.shifts
 have k2 := Hd.Told.lefts (Hd.MInv.start h.length (Hd.hd h)) T
 rw [Hd.cnt_none (p := fun x => decide ((fun _ => 0 : Int → Int) x > x)) (fun a ha _ => by simp; omega)] at k2
 have L1 := laws_FnMovesFor_l1 h8 hp (by omega) R2 0 (by omega) (by omega)
 have L0 := laws_FnMovesFor_l0 (h := h) hb (by omega) (by rw [show (Hd.many 83 ms : Int) = (h.length : Int) by omega, show Hd.many 76 ms = Hd.cnt (fun x => decide (Hd.hd h x > x)) h.length by omega]; simpa [Hd.cnt] using L1) 0 (by omega) (by omega)
 exact Ev.pos rfl (by simpa [Hd.many] using L0)

end Go.Proofs.Ytdckgafgidfplaa.Pure
