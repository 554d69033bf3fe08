/- The machine with a stack, on lists, and what the rule tells: plain facts. -/
import Derived.Test.YtdckgafgidfplaaHdC
namespace Hd
/-- No word that depends on w is without its head. -/
def NoneLeft (h hs : List Int) (w : Int) : Prop := ∀ k : Nat, k < h.length → h.getD k 0 = w → hs.getD k 0 ≠ 0
theorem leftC_zero (h hs : List Int) (w : Int) : ∀ k : Nat, leftC h hs w k = 0 ↔ ∀ j : Nat, j < k → h.getD j 0 = w → hs.getD j 0 ≠ 0
 | 0 => ⟨fun _ j hj => absurd hj (by omega), fun _ => rfl⟩
 | k + 1 => by
  have b := leftC_bd h hs w k
  have ih := leftC_zero h hs w k
  simp only [leftC]
  constructor
  ·intro e j hj hw
   by_cases c : h.getD k 0 = w ∧ hs.getD k 0 = 0
   ·rw [if_pos c] at e; omega
   ·rw [if_neg c] at e
    by_cases hjk : j = k
    ·subst hjk; exact fun z => c ⟨hw, z⟩
    ·exact ih.1 (by omega) j (by omega) hw
  ·intro a
   rw [ih.2 (fun j hj => a j (by omega)), if_neg (fun z => a k (by omega) z.1 z.2)]; rfl
theorem leftN_zero {h : List Int} {s : St} {w : Int} : leftN h s w = 0 ↔ NoneLeft h s.hs w := leftC_zero h s.hs w h.length
theorem noneLeft_done {h hs : List Int} {w : Int} (_hl : hs.length = h.length) (hw : w ≠ 0) : NoneLeft h hs w ↔ Done (hd h) (hd hs) w := by
 constructor
 ·intro a x hx
  have hx1 : 1 ≤ x ∧ x ≤ (h.length : Int) := by
   apply Classical.byContradiction
   intro c
   rw [hd_out c] at hx; exact hw hx.symm
  have e := a (x - 1).toNat (by omega)
  rw [hd_get hx1.1] at e
  have := e hx
  rwa [hd_get hx1.1] at this
 ·intro a k hk hw'
  have e1 : h.getD k 0 = hd h ((k : Int) + 1) := by rw [← hd_get (by omega)]; congr 1; omega
  have e2 : hs.getD k 0 = hd hs ((k : Int) + 1) := by rw [← hd_get (by omega)]; congr 1; omega
  rw [e1] at hw'
  rw [e2]; exact a _ hw'
/-- A state is the stack st (the upper one first), i words and the heads H. -/
structure Fits (s : St) (st : List Int) (i : Int) (H : Int → Int) : Prop where
 ws : s.ws = st.reverse
 nx : s.nx = i
 hs : ∀ x, hd s.hs x = H x
theorem hd_set {l : List Int} {b u : Int} (h1 : 1 ≤ b) (h2 : b ≤ l.length) (x : Int) : hd (l.set (b - 1).toNat u) x = if x = b then u else hd l x := by
 unfold hd
 by_cases h : 1 ≤ x
 ·rw [if_pos h, if_pos h, List.getD_eq_getElem?_getD, List.getElem?_set]
  by_cases e : x = b
  ·subst e; rw [if_pos rfl, if_pos (by omega), if_pos rfl]; rfl
  ·rw [if_neg (by omega), if_neg e, List.getD_eq_getElem?_getD]
 ·rw [if_neg h, if_neg h, if_neg (by omega)]
theorem rev_low (a c : Int) (r : List Int) (s : St) (e : s.ws = (a :: c :: r).reverse) : lowW s = c ∧ topW s = a ∧ 2 ≤ s.ws.length ∧ s.ws.take (s.ws.length - 2) = r.reverse := by
 have e' : s.ws = r.reverse ++ [c, a] := by rw [e]; simp
 have hl : s.ws.length = r.length + 2 := by rw [e']; simp
 refine ⟨?_, ?_, by omega, ?_⟩
 ·rw [lowW, hl, e', List.getD_eq_getElem?_getD, List.getElem?_append_right (by simp)]; simp
 ·rw [topW, hl, e', List.getD_eq_getElem?_getD, List.getElem?_append_right (by simp)]; simp
 ·rw [hl, e', show r.length + 2 - 2 = r.reverse.length by simp, List.take_left']; rfl
theorem Fits.left {n : Nat} {s : St} {a c : Int} {r : List Int} {i : Int} {H : Int → Int} (f : Fits s (a :: c :: r) i H) (o : s.OK n) : Fits (leftS s) (a :: r) i (upd H c a) := by
 obtain ⟨l, t, h2, k⟩ := rev_low a c r s f.ws
 have ol := o.low h2
 refine ⟨?_, f.nx, ?_⟩
 ·show s.ws.take (s.ws.length - 2) ++ [topW s] = _; rw [k, t]; simp
 ·intro x
  show hd (s.hs.set (lowW s - 1).toNat (topW s)) x = _
  rw [hd_set ol.1 (by rw [o.len]; exact ol.2), l, t, f.hs]; rfl
theorem Fits.right {n : Nat} {s : St} {a c : Int} {r : List Int} {i : Int} {H : Int → Int} (f : Fits s (a :: c :: r) i H) (o : s.OK n) : Fits (rightS s) (c :: r) i (upd H a c) := by
 obtain ⟨l, t, h2, k⟩ := rev_low a c r s f.ws
 have ot := o.top (by omega)
 refine ⟨?_, f.nx, ?_⟩
 ·show s.ws.take (s.ws.length - 2) ++ [lowW s] = _; rw [k, l]; simp
 ·intro x
  show hd (s.hs.set (topW s - 1).toNat (lowW s)) x = _
  rw [hd_set ot.1 (by rw [o.len]; exact ot.2), l, t, f.hs]; rfl
theorem Fits.push {s s' : St} {st : List Int} {i : Int} {H : Int → Int} (f : Fits s st i H) (h : pushS s = some s') : Fits s' ((i + 1) :: st) (i + 1) H := by
 obtain ⟨_, rfl⟩ := pushS_eq h
 have e := f.nx
 exact ⟨by show s.ws ++ [s.nx + 1] = _; rw [f.ws, e]; simp, by show s.nx + 1 = _; rw [e], f.hs⟩
theorem done_fit {h : List Int} {s : St} {st : List Int} {i : Int} {H : Int → Int} {w : Int} (f : Fits s st i H) (hl : s.hs.length = h.length) (hw : w ≠ 0) : leftN h s w = 0 ↔ Done (hd h) H w := by
 rw [leftN_zero, noneLeft_done hl hw]
 exact ⟨fun a x hx => by rw [← f.hs]; exact a x hx, fun a x hx => by rw [f.hs]; exact a x hx⟩
/-- What the rule tells is done, and the rest goes on. -/
theorem told_step {h : List Int} {n : Nat} (hn : h.length = n) {s : St} {st : List Int} {i : Int} {H : Int → Int} {m : Int} {ms : List Int} (o : s.OK n) (f : Fits s st i H) (t : Told n (hd h) (m :: ms) st i H) :
  ruleM h s = m ∧ (i < n ∨ 2 ≤ st.length) ∧ ∃ s' st' i' H', moveS m s = some s' ∧ s'.OK n ∧ Fits s' st' i' H' ∧ Told n (hd h) ms st' i' H' := by
 have hl : s.hs.length = h.length := by rw [o.len, hn]
 rcases t with ⟨rfl, a, c, r, rfl, e, d, t⟩ | ⟨rfl, a, c, r, rfl, no, e, d, t⟩ | ⟨rfl, hi, no, t⟩
 ·obtain ⟨l, tp, h2, _⟩ := rev_low a c r s f.ws
  have ol := o.low h2
  refine ⟨?_, .inr (by simp), leftS s, _, _, _, ?_, o.left h2, f.left o, t⟩
  ·rw [ruleM, if_neg (by omega), l, tp, hd_get (by omega), if_pos ⟨e, (done_fit f hl (by omega)).2 d⟩]
  ·rw [moveS, if_neg (by omega), if_neg (by omega), if_pos rfl]
 ·obtain ⟨l, tp, h2, _⟩ := rev_low a c r s f.ws
  have ol := o.low h2
  have ot := o.top (by omega)
  refine ⟨?_, .inr (by simp), rightS s, _, _, _, ?_, o.right h2, f.right o, t⟩
  ·rw [ruleM, if_neg (by omega), l, tp, hd_get (by omega), hd_get (by omega), if_neg (fun z => no ⟨z.1, (done_fit f hl (by omega)).1 z.2⟩), if_pos ⟨e, (done_fit f hl (by omega)).2 d⟩]
  ·rw [moveS, if_neg (by omega), if_neg (by omega), if_neg (by omega), if_pos rfl]
 ·have hp : pushS s = some ⟨s.ws ++ [s.nx + 1], s.nx + 1, s.hs, if s.dp ≤ (s.ws.length : Int) + 1 then (s.ws.length : Int) + 1 else s.dp⟩ := if_neg (by rw [f.nx, o.len]; omega)
  refine ⟨?_, .inl hi, _, _, _, _, by rw [moveS, if_pos rfl]; exact hp, o.push hp, f.push hp, t⟩
  by_cases h2 : s.ws.length < 2
  ·rw [ruleM, if_pos h2]
  ·match st, f, no with
   | [], f, _ => rw [f.ws] at h2; simp at h2
   | [_], f, _ => rw [f.ws] at h2; simp at h2
   | a :: c :: r, f, no =>
    obtain ⟨l, tp, h2', _⟩ := rev_low a c r s f.ws
    have ol := o.low h2'
    have ot := o.top (by omega)
    obtain ⟨n1, n2⟩ := no a c r rfl
    rw [ruleM, if_neg h2, l, tp, hd_get (by omega), hd_get (by omega), if_neg (fun z => n1 ⟨z.1, (done_fit f hl (by omega)).1 z.2⟩), if_neg (fun z => n2 ⟨z.1, (done_fit f hl (by omega)).1 z.2⟩)]
theorem Fits.start (n : Nat) : Fits (St.start n) [] 0 (fun _ => 0) := ⟨rfl, rfl, fun x => by
 unfold hd St.start
 by_cases h : 1 ≤ x
 ·rw [if_pos h]; simp [List.getD_eq_getElem?_getD, List.getElem?_replicate]; split <;> rfl
 ·rw [if_neg h]⟩
theorem ba_nil (b : ByteArray) : b ++ (⟨#[]⟩ : ByteArray) = b := ByteArray.append_empty
theorem nil_ba (b : ByteArray) : (⟨#[]⟩ : ByteArray) ++ b = b := ByteArray.empty_append
/-- The bytes of moves. -/
def bytesM : List Int → ByteArray
 | [] => ⟨#[]⟩
 | m :: ms => ⟨#[m.toNat.toUInt8]⟩ ++ bytesM ms
theorem told_out {h : List Int} {n : Nat} (hn : h.length = n) : ∀ (ms : List Int) (k : Nat) (st : List Int) (i : Int) (H : Int → Int), (stM h k).OK n → Fits (stM h k) st i H → Told n (hd h) ms st i H →
  outM h (k + ms.length) = outM h k ++ bytesM ms ∧ runM ms (stM h k) = some (stM h (k + ms.length))
 | [], k, st, i, H, o, f, t => ⟨by simp only [bytesM, List.length_nil, Nat.add_zero]; rw [ba_nil], rfl⟩
 | m :: ms, k, st, i, H, o, f, t => by
  obtain ⟨e, _, s', st', i', H', hm, o', f', t'⟩ := told_step hn o f t
  have es : stM h (k + 1) = s' := by rw [stM, stepM, e, hm]
  have ih := told_out hn ms (k + 1) st' i' H' (by rw [es]; exact o') (by rw [es]; exact f') t'
  refine ⟨?_, ?_⟩
  ·rw [show k + (m :: ms).length = k + 1 + ms.length by simp; omega, ih.1, outM, e, bytesM, ByteArray.append_assoc]
  ·rw [show k + (m :: ms).length = k + 1 + ms.length by simp; omega]
   simp only [runM]
   rw [hm, Option.bind_some, ← es]; exact ih.2
theorem told_last {h : List Int} {n : Nat} : ∀ (ms : List Int) (s : St) (st : List Int) (i : Int) (H : Int → Int), h.length = n → s.OK n → Fits s st i H → Told n (hd h) ms st i H → ∃ s', runM ms s = some s' ∧ s'.nx = n ∧ s'.ws.length = 1 ∧ (∀ x, hd s'.hs x = hd h x) ∧ s'.hs.length = n
 | [], s, st, i, H, hn, o, f, t => by
  obtain ⟨rfl, ⟨r, rfl⟩, e⟩ := t
  exact ⟨s, rfl, f.nx, by rw [f.ws]; rfl, fun x => by rw [f.hs, e], o.len⟩
 | m :: ms, s, st, i, H, hn, o, f, t => by
  obtain ⟨_, _, s', st', i', H', hm, o', f', t'⟩ := told_step hn o f t
  obtain ⟨s2, a, b⟩ := told_last ms s' st' i' H' hn o' f' t'
  exact ⟨s2, by simp only [runM]; rw [hm]; exact a, b⟩
theorem hd_ext {a b : List Int} (hl : a.length = b.length) (h : ∀ x, hd a x = hd b x) : a = b := by
 apply List.ext_getElem hl
 intro k h1 h2
 have e := h ((k : Int) + 1)
 rw [← hd_get (by omega), ← hd_get (by omega), show ((k : Int) + 1 - 1).toNat = k by omega, List.getD_eq_getElem?_getD, List.getD_eq_getElem?_getD, List.getElem?_eq_getElem h1, List.getElem?_eq_getElem h2] at e
 exact e
/-- Each flat tree is told by the rule. -/
theorem flat_told {h : List Int} (f : flatB h = true) : ∃ ms, Told h.length (hd h) ms [] 0 (fun _ => 0) ∧ ms.length = 2 * h.length - 1 ∧ outM h (2 * h.length - 1) = bytesM ms ∧ ∃ s, ranS h.length ms = some s ∧ s.hs = h := by
 obtain ⟨t, r⟩ := flatB_true.1 f
 obtain ⟨ms, T, hl⟩ := told_start t.2 ((row_iff_bet t.2).1 r)
 refine ⟨ms, T, hl, ?_, ?_⟩
 ·have := (told_out rfl ms 0 [] 0 (fun _ => 0) (St.OK.start t.1) (Fits.start _) T).1
  rw [← hl, ← Nat.zero_add ms.length, this, outM, nil_ba]
 ·obtain ⟨s', a, b, c, d, e⟩ := told_last ms (St.start h.length) [] 0 (fun _ => 0) rfl (St.OK.start t.1) (Fits.start _) T
  have hp := t.2.pos
  have h8 := t.1
  refine ⟨s', ?_, hd_ext e d⟩
  rw [ranS, if_neg (by omega), Int.toNat_natCast, a, Option.bind_some, if_neg (by omega)]
end Hd
