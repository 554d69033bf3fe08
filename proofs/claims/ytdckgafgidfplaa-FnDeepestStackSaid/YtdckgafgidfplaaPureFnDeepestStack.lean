/- For every drawn number of words and moves the program's DeepestStack answers as the reference's does; it is at least 1 and at most the number of words, at least 2 for two words or more, and the number of words just if all S come first. -/
import Derived.Test.YtdckgafgidfplaaBFnDeepestStack
namespace Go.Proofs.Ytdckgafgidfplaa.Pure
open Go.Proofs.Ytdckgafgidfplaa.QFnDeepestStack
open Go.RowKit Go.Proofs.YtdckgafgidfplaaW.PrintWords Go.Proofs.YtdckgafgidfplaaW.PrintLast Go.Proofs.YtdckgafgidfplaaW.PrintMore
set_option linter.unusedVariables false
set_option linter.unusedSimpArgs false
-- uses HdC
theorem deep_split {a1 : ByteArray} {i : Int} (h0 : 0 ≤ i) (hi : i ≤ (a1.size : Int)) (hall : ∀ j : Int, 0 ≤ j → j < i → bt a1 j = 83) : bytesOf a1 = List.replicate i.toNat 83 ++ (bytesOf a1).drop i.toNat := by
 have e : (bytesOf a1).take i.toNat = List.replicate i.toNat 83 := by
  apply List.ext_getElem
  ·rw [List.length_take, bytesOf_length, List.length_replicate]; omega
  ·intro n h1 h2
   rw [List.length_replicate] at h2
   have h3 : n < (bytesOf a1).length := by rw [bytesOf_length]; omega
   rw [List.getElem_take, List.getElem_replicate]
   have e1 : (bytesOf a1)[n] = rd (bytesOf a1) (n : Int) := by rw [rd, List.getD_eq_getElem?_getD, Int.toNat_natCast, List.getElem?_eq_getElem h3]; rfl
   rw [e1, rd_bytesOf]
   exact hall n (by omega) (by omega)
 rw [← e]; exact (List.take_append_drop _ _).symm
theorem laws_FnDeepestStack_l0 {n : Int} {a1 : ByteArray} {s : Hd.St} (hs : a1.size ≤ 1001) (h : Hd.ranS n (bytesOf a1) = some s) : ∀ i : Int, i ≤ (a1.size : Int) → 0 ≤ i → (∀ j : Int, 0 ≤ j → j < i → bt a1 j = 83) → Ev (fun k => laws_FnDeepestStack.l0 k n a1 s.dp i) true := by
 obtain ⟨n1, n8, hr, hnx, hw, o, d⟩ := Hd.ranS_some h
 have hd1 := o.dp1; have hd2 := d.w; have hd3 := d.two
 refine Hd.down ?_
 intro i hi ih h0 hall
 refine laws_FnDeepestStack.l0.ev ?_
 have hend : (∀ m r, (bytesOf a1).drop i.toNat = m :: r → m ≠ 83) → Ev (fun _ => if s.dp ≥ 1 then (if s.dp ≤ n then (if n < 2 then (some ((s.dp == n) == (i == n))) else (if s.dp ≥ 2 then (some ((s.dp == n) == (i == n))) else (some false))) else (some false)) else (some false)) true := by
  intro hne
  have hf : s.dp = (n.toNat : Nat) ↔ ((i.toNat : Nat) : Int) = (n.toNat : Nat) := by
   refine Hd.deep_first (rest := (bytesOf a1).drop i.toNat) ?_ hne (by omega) hd1
   rw [← deep_split h0 hi hall]; exact hr
  have hv : ((s.dp == n) == (i == n)) = true := by
   have : (s.dp == n) = (i == n) := by rw [Bool.eq_iff_iff]; simp only [beq_iff_eq]; omega
   simp [this]
  refine Ev.pos (by omega) (Ev.pos (by omega) ?_)
  by_cases h2 : n < 2
  ·exact Ev.pos h2 (Ev.ret hv)
  ·exact Ev.neg h2 (Ev.pos (by omega) (Ev.ret hv))
 by_cases hlt : i < (a1.size : Int)
 ·refine Ev.pos hlt (Ev.pos h0 ?_)
  by_cases c : bt a1 i = 83
  ·refine Ev.pos c ?_
   rw [wid (x := i + 1) (by omega) (by omega)]
   refine ih hlt (by omega) ?_
   intro j j0 j1
   by_cases e : j = i
   ·rw [e]; exact c
   ·exact hall j j0 (by omega)
  ·refine Ev.neg c (hend ?_)
   intro m r e
   rw [bts_drop a1 i h0 hlt] at e
   injection e with e _
   rw [← e]; exact c
 ·refine Ev.neg hlt (hend ?_)
  intro m r e
  rw [List.drop_eq_nil_of_le (by rw [bytesOf_length]; omega)] at e
  cases e
theorem FnDeepestStack : laws_FnDeepestStack.Pure := by
 intro l _ _ hw
 refine Ev.rounds (g := fun k => laws_FnDeepestStack.f k l) ?_
 unfold laws_FnDeepestStack.f
 by_cases hbig : (l.length : Int) > 1048576
 ·exact Ev.pos hbig (Ev.now _)
 refine Ev.neg hbig ?_
 obtain ⟨n, m, e, hm⟩ := spec_DrawDeepestStack_ev hw
 refine Ev.bind e (Ev.bindv (impl_DeepestStack_eq n (a1 := m) (by omega)) (Ev.bind (spec_DeepestStack_ev n (a1 := m) (by omega)) (Ev.pos rfl ?_)))
 unfold Mach.deepF
 cases h : Hd.ranS n (bytesOf m) with
 | none => exact Ev.pos (by simp) (Ev.pos rfl (Ev.bind laws_alive_ev (Ev.now _)))
 | some s =>
  obtain ⟨n1, n8, hr, hnx, hw, o, d⟩ := Hd.ranS_some h
  have hd2 := d.w
  refine Ev.neg (by simp only; omega) ?_
  exact laws_FnDeepestStack_l0 hm h 0 (by omega) (by omega) (fun j a b => by omega)

end Go.Proofs.Ytdckgafgidfplaa.Pure
