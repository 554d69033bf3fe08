/- For every drawn row the program's EagerFor answers as the reference's does; there are moves just for flat trees; RunEager makes the tree again of them, there are as many L and R as words less one, as many S and R as words, and in all no more than twice the words less one. -/
import Derived.Test.YtdckgafgidfplaaBFnEagerFor
namespace Go.Proofs.Ytdckgafgidfplaa.Pure
open Go.Proofs.Ytdckgafgidfplaa.QFnEagerFor
open Go.RowKit Go.Proofs.YtdckgafgidfplaaW.PrintWords Go.Proofs.YtdckgafgidfplaaW.PrintLast Go.Proofs.YtdckgafgidfplaaW.PrintMore
set_option linter.unusedVariables false
set_option linter.unusedSimpArgs false
-- base Hd8
-- flat
-- uses HdF
theorem bytesE_bytes {ms : List Int} (h : ∀ m, m ∈ ms → m = 76 ∨ m = 82 ∨ m = 83 ∨ m = 68) : bytesOf (Hd.bytesM ms) = ms := Hd.bytesM_list ms (fun m hm => by rcases h m hm with rfl | rfl | rfl | rfl <;> omega)
theorem many_appendE (c : Int) : ∀ a b : List Int, Hd.many c (a ++ b) = Hd.many c a + Hd.many c b
 | [], b => by simp [Hd.many]
 | x :: a, b => by rw [List.cons_append, Hd.many, Hd.many, many_appendE c a b]; omega
theorem many_takeE (c : Int) {ms : List Int} {j : Nat} (h : j < ms.length) : Hd.many c (ms.take (j + 1)) = Hd.many c (ms.take j) + if rd ms (j : Int) = c then 1 else 0 := by
 rw [List.take_succ_eq_append_getElem h, many_appendE, rd_at h]; simp [Hd.many]
theorem many_leE (c : Int) : ∀ ms : List Int, Hd.many c ms ≤ ms.length
 | [] => Nat.le_refl _
 | x :: ms => by have := many_leE c ms; rw [Hd.many, List.length_cons]; split <;> omega
def two (c d : Int) (ms : List Int) : Nat := Hd.many c ms + Hd.many d ms
theorem laws_FnEagerFor_l0 {h ms : List Int} {b : ByteArray} (hb : bytesOf b = ms) (hs : b.size ≤ 100) (h8 : h.length ≤ 8) (h1 : 1 ≤ h.length) (hlen : (b.size : Int) ≤ 2 * h.length - 1) (c1 : two 76 82 ms = h.length - 1) (c2 : two 83 82 ms = h.length) (R : impl_RunEager.f (h.length : Int) b = some (h, true)) : ∀ i : Int, i ≤ b.size → 0 ≤ i →
  Ev (fun k => laws_FnEagerFor.l0 k h b (two 76 82 (ms.take i.toNat) : Int) (two 83 82 (ms.take i.toNat) : Int) i) true := by
 have sm := laws_sameInts_ev (a := h) (b := h) (by omega)
 have hl : ms.length = b.size := by rw [← hb, bytesOf_length]
 refine Hd.down ?_
 intro i hi ih h0
 obtain ⟨j, rfl⟩ := Int.eq_ofNat_of_zero_le h0
 refine laws_FnEagerFor.l0.ev ?_
 rw [Int.toNat_natCast]
 have m1 := many_leE 83 (ms.take j)
 have m2 := many_leE 76 (ms.take j)
 have m3 := many_leE 82 (ms.take j)
 rw [List.length_take] at m1 m2 m3
 by_cases hlt : (j : Int) < b.size
 rotate_left
 ·refine Ev.neg hlt ?_
  rw [show ms.take j = ms from List.take_of_length_le (by omega), c1, c2]
  refine Ev.bindv R (Ev.pos rfl (Ev.bind sm (Ev.pos (by simp) (Ev.pos ?_ (Ev.pos rfl (Ev.ret ?_))))))
  ·rw [wid (x := (h.length : Int) - 1) (by omega) (by omega)]; omega
  ·rw [wid (x := 2 * (h.length : Int)) (by omega) (by omega), wid (by omega) (by omega)]; exact decide_eq_true hlen
 have next := ih hlt (by omega)
 have hbt : bt b (j : Int) = rd ms (j : Int) := by rw [← hb, rd_bytesOf]
 unfold two at next ⊢
 rw [show ((j : Int) + 1).toNat = j + 1 from by omega, many_takeE 83 (by omega), many_takeE 76 (by omega), many_takeE 82 (by omega)] at next
 rw [hbt]
 refine Ev.pos hlt (Ev.pos h0 ?_)
 have fin : ∀ x : Bool, (x = true ↔ rd ms (j : Int) = 76 ∨ rd ms (j : Int) = 82) → Ev (fun k => laws_FnEagerFor.j2 k h b ((Hd.many 76 (ms.take j) + Hd.many 82 (ms.take j) : Nat) : Int) ((Hd.many 83 (ms.take j) + Hd.many 82 (ms.take j) : Nat) : Int) (j : Int) x) true := by
  intro x hx
  refine laws_FnEagerFor.j2.ev ?_
  rw [hbt, wid (x := (j : Int) + 1) (by omega) (by omega), wid (x := ((Hd.many 83 (ms.take j) + Hd.many 82 (ms.take j) : Nat) : Int) + 1) (by omega) (by omega), wid (x := ((Hd.many 76 (ms.take j) + Hd.many 82 (ms.take j) : Nat) : Int) + 1) (by omega) (by omega)]
  generalize hz : rd ms (j : Int) = z at next hx
  have go : ∀ {a a' c c' : Int}, a = a' → c = c' → Ev (fun k => laws_FnEagerFor.l0 k h b a c ((j : Int) + 1)) true → Ev (fun k => laws_FnEagerFor.l0 k h b a' c' ((j : Int) + 1)) true := by rintro a _ c _ rfl rfl e; exact e
  by_cases z83 : z = 83
  ·subst z83
   have xf : x = false := by cases x with | true => exact absurd (hx.1 rfl) (by omega) | false => rfl
   subst xf
   refine Ev.neg (by simp) (Ev.pos h0 (Ev.pos hlt (Ev.pos rfl (go ?_ ?_ next)))) <;> simp <;> omega
  by_cases z82 : z = 82
  ·subst z82
   have xf : x = true := hx.2 (.inr rfl)
   subst xf
   refine Ev.pos rfl (Ev.pos h0 (Ev.pos hlt (Ev.neg (by omega) (Ev.pos rfl (go ?_ ?_ next))))) <;> simp <;> omega
  by_cases z76 : z = 76
  ·subst z76
   have xf : x = true := hx.2 (.inl rfl)
   subst xf
   refine Ev.pos rfl (Ev.pos h0 (Ev.pos hlt (Ev.neg (by omega) (Ev.neg (by omega) (go ?_ ?_ next))))) <;> simp <;> omega
  have xf : x = false := by cases x with | true => exact absurd (hx.1 rfl) (by omega) | false => rfl
  subst xf
  refine Ev.neg (by simp) (Ev.pos h0 (Ev.pos hlt (Ev.neg z83 (Ev.neg z82 (go ?_ ?_ next))))) <;> simp [z83, z82, z76]
 by_cases c : rd ms (j : Int) = 76
 rotate_left
 ·exact Ev.neg c (fin _ (by simp [c]))
 exact Ev.pos c (fin true (by simp [c]))
theorem FnEagerFor : laws_FnEagerFor.Pure := by
 intro l _ _ hw
 refine Ev.rounds (g := fun k => laws_FnEagerFor.f k l) ?_
 unfold laws_FnEagerFor.f
 by_cases hbig : (l.length : Int) > 1048576
 ·exact Ev.pos hbig (Ev.now _)
 refine Ev.neg hbig ?_
 obtain ⟨h, e, hl⟩ := spec_DrawEagerFor_ev hw
 have I := impl_EagerFor_ev h
 have S := spec_EagerFor_ev h
 unfold eagP at S
 refine Ev.bind e (Ev.bind I (Ev.bind S (Ev.pos rfl (laws_FnEagerFor.j0.ev (Ev.neg (by simp) ?_)))))
 by_cases f : Hd.flatB h = true
 rotate_left
 ·rw [if_neg f]
  exact Ev.neg (by simp) (Ev.pos (by simp) (Ev.bind (impl_FlatOk_ev h) (Ev.neg f (Ev.bind laws_alive_ev (Ev.now _)))))
 have t := (Hd.flatB_true.1 f).1
 have hp := t.2.pos
 have h8 := t.1
 obtain ⟨ms, hms, hml, c1, c2, hout, s', hs', e'⟩ := Hd.flat_etold f
 have eo : Mach.eagerF h = (Hd.bytesM ms, true) := hout _ (by omega)
 have hb : bytesOf (Hd.bytesM ms) = ms := bytesE_bytes hms
 have hz : (Hd.bytesM ms).size = ms.length := by rw [← bytesOf_length, hb]
 rw [if_pos f, eo]
 have R2 : impl_RunEager.f (h.length : Int) (Hd.bytesM ms) = some (h, true) := by
  rw [impl_RunEager_eq _ (by omega)]; unfold Mach.runEF; rw [hb, hs']; show some (s'.hs, true) = _; rw [e']
 have L0 := laws_FnEagerFor_l0 (h := h) hb (by omega) h8 hp (by omega) c1 c2 R2 0 (by omega) (by omega)
 exact Ev.pos rfl (by simpa [two, Hd.many] using L0)

end Go.Proofs.Ytdckgafgidfplaa.Pure
