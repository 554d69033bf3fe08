/- For every drawn number of words and moves the program's RunStack answers as the reference's does; what it gives is a flat tree, there are twice as many moves as words, less one, and the moves by the rule for it tell it again. -/
import Derived.Test.YtdckgafgidfplaaBFnRunStack
namespace Go.Proofs.Ytdckgafgidfplaa.Pure
open Go.Proofs.Ytdckgafgidfplaa.QFnRunStack
open Go.RowKit Go.Proofs.YtdckgafgidfplaaW.PrintWords Go.Proofs.YtdckgafgidfplaaW.PrintLast Go.Proofs.YtdckgafgidfplaaW.PrintMore
set_option linter.unusedVariables false
set_option linter.unusedSimpArgs false
-- uses HdE
theorem bytesM_bytes {ms : List Int} (h : ∀ m, m ∈ ms → m = 76 ∨ m = 82 ∨ m = 83) : bytesOf (Hd.bytesM ms) = ms := Hd.bytesM_list ms (fun m hm => by rcases h m hm with rfl | rfl | rfl <;> omega)
theorem FnRunStack : laws_FnRunStack.Pure := by
 intro l _ _ hw
 refine Ev.rounds (g := fun k => laws_FnRunStack.f k l) ?_
 unfold laws_FnRunStack.f
 by_cases hbig : (l.length : Int) > 1048576
 ·exact Ev.pos hbig (Ev.now _)
 refine Ev.neg hbig ?_
 obtain ⟨n, m, e, hm⟩ := spec_DrawRunStack_ev hw
 have hl := runF_len n m
 have I := impl_RunStack_eq n (a1 := m) (by omega)
 have S := spec_RunStack_ev n (a1 := m) (by omega)
 have sm := laws_sameInts_ev (a := (Mach.runF n m).1) (b := (Mach.runF n m).1) (by omega)
 refine Ev.bind e (Ev.bindv I (Ev.bind S (Ev.bind sm (Ev.pos (by simp) (laws_FnRunStack.j0.ev (Ev.neg (by simp) ?_))))))
 unfold Mach.runF
 cases h : Hd.ranS n (bytesOf m) with
 | none => exact Ev.neg (by simp) (Ev.pos (by simp) (Ev.bind laws_alive_ev (Ev.now _)))
 | some s =>
  obtain ⟨fl, lm, ln⟩ := Hd.ran_flat h
  rw [bytesOf_length] at lm
  obtain ⟨ms, T, hml, hout, s', hs', e'⟩ := Hd.flat_told fl
  have t := (Hd.flatB_true.1 fl).1.1
  have M := impl_MovesFor_ev s.hs
  rw [if_pos fl] at M
  have hz : (Mach.movesF s.hs).size = 2 * s.hs.length - 1 := Hd.outM_size _ _
  have hb : bytesOf (Mach.movesF s.hs) = ms := by unfold Mach.movesF; rw [hout]; exact bytesM_bytes T.moves
  have R2 : impl_RunStack.f n (Mach.movesF s.hs) = some (s.hs, true) := by
   rw [impl_RunStack_eq n (by omega)]; unfold Mach.runF; rw [hb, ← ln, hs']; show some (s'.hs, true) = _; rw [e']
  have sm2 := laws_sameInts_ev (a := s.hs) (b := s.hs) (by omega)
  refine Ev.pos rfl (Ev.bind M (Ev.bindv R2 (Ev.bind (impl_FlatOk_ev s.hs) (Ev.pos fl (Ev.pos ?_ (Ev.pos rfl (Ev.pos rfl (Ev.bind sm2 (Ev.ret (by simp))))))))))
  rw [wid (x := 2 * n) (by omega) (by omega), wid (by omega) (by omega)]; omega

end Go.Proofs.Ytdckgafgidfplaa.Pure
