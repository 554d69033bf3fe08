/- Plain facts on the eager machine: the rule tells each flat tree. -/
import Derived.Test.YtdckgafgidfplaaHd4
namespace Hd
/-! ### The eager machine -/
structure EInv (n : Nat) (h : Int → Int) (st : List Int) (i : Int) (H : Int → Int) : Prop where
 i0 : 0 ≤ i
 i1 : i ≤ n
 desc : Desc st
 rng : ∀ s, s ∈ st → 1 ≤ s ∧ s ≤ i
 told : ∀ x, H x ≠ 0 → H x = h x
 arcs : ∀ x, 1 ≤ x → x ≤ i → h x ≤ i → H x = h x
 popped : ∀ x, 1 ≤ x → x ≤ i → x ∉ st → H x ≠ 0 ∧ ∀ y, i < y → h y ≠ x
 onst : ∀ x, x ∈ st → H x ≠ 0 → h x ≤ i
 out : ∀ x : Int, ¬ (1 ≤ x ∧ x ≤ i) → H x = 0

/-- The moves ms are what the eager rule tells from here on. -/
def ETold (n : Nat) (h : Int → Int) : List Int → List Int → Int → (Int → Int) → Prop
 | [], _, i, H => i = n ∧ ∀ x, H x = h x
 | m :: ms, st, i, H => i < n ∧ (
  (m = 76 ∧ ∃ a r, st = a :: r ∧ h a = i + 1 ∧ H a = 0 ∧ ETold n h ms r i (upd H a (i + 1))) ∨
  (m = 82 ∧ ∃ a r, st = a :: r ∧ h a ≠ i + 1 ∧ h (i + 1) = a ∧ H (i + 1) = 0 ∧ ETold n h ms ((i + 1) :: a :: r) (i + 1) (upd H (i + 1) a)) ∨
  (m = 68 ∧ ∃ a r, st = a :: r ∧ h a ≠ i + 1 ∧ h (i + 1) ≠ a ∧ (∃ w, w ∈ r ∧ (h (i + 1) = w ∨ h w = i + 1)) ∧ H a ≠ 0 ∧ ETold n h ms r i H) ∨
  (m = 83 ∧ (∀ w, w ∈ st → h (i + 1) ≠ w ∧ h w ≠ i + 1) ∧ ETold n h ms ((i + 1) :: st) (i + 1) H))

namespace EInv
variable {n : Nat} {h : Int → Int} {st : List Int} {i : Int} {H : Int → Int}

theorem start (n : Nat) (h : Int → Int) : EInv n h [] 0 (fun _ => 0) where
 i0 := by omega
 i1 := by omega
 desc := trivial
 rng := fun s hs => by cases hs
 told := fun _ hx => absurd rfl hx
 arcs := fun x _ _ => by omega
 popped := fun x _ _ => by omega
 onst := fun x hx => by cases hx
 out := fun _ _ => rfl

theorem left (T : Tr n h) (B : Bet h) {a : Int} {r : List Int} (E : EInv n h (a :: r) i H) (_hi : i < n) (e : h a = i + 1) : H a = 0 ∧ EInv n h r i (upd H a (i + 1)) := by
 have ha := E.rng a (by simp)
 have h0 : H a = 0 := by
  apply Classical.byContradiction
  intro hn
  have := E.onst a (by simp) hn
  omega
 have hw : 1 ≤ a ∧ a ≤ (n : Int) := T.word_of (by have := E.i0; omega)
 have hi0 := E.i0
 refine ⟨h0, E.i0, E.i1, E.desc.2, fun s hs => E.rng s (by simp [hs]), ?_, ?_, ?_, ?_, ?_⟩
 ·intro x hx
  by_cases e2 : x = a
  ·subst e2; rw [upd_self, e]
  ·rw [upd_ne H e2] at hx ⊢; exact E.told x hx
 ·intro x h1 h2 h3
  have : x ≠ a := fun e2 => by subst e2; omega
  rw [upd_ne H this]; exact E.arcs x h1 h2 h3
 ·intro x h1 h2 h3
  by_cases e2 : x = a
  ·subst e2
   rw [upd_self]
   refine ⟨by omega, fun y hy e3 => ?_⟩
   have u : Und h x (i + 1) := by have := Und.head h x; rwa [e] at this
   by_cases e4 : y = i + 1
   ·subst e4
    have v : Und h (i + 1) x := by have := Und.head h (i + 1); rwa [e3] at this
    have := T.anti hw u v
    omega
   ·have v := B y (by omega) (i + 1) (by unfold Btw; omega)
    rw [e3] at v
    have := T.anti hw u v
    omega
  ·rw [upd_ne H e2]; exact E.popped x h1 h2 (by simp [e2, h3])
 ·intro x hx
  have : x ≠ a := by have := E.desc.1 x hx; omega
  rw [upd_ne H this]; exact E.onst x (by simp [hx])
 ·intro x hx
  rw [upd_ne H (by omega)]; exact E.out x hx

theorem right (T : Tr n h) (B : Bet h) {a : Int} {r : List Int} (E : EInv n h (a :: r) i H) (hi : i < n) (e1 : h a ≠ i + 1) (e : h (i + 1) = a) : EInv n h ((i + 1) :: a :: r) (i + 1) (upd H (i + 1) a) := by
 have ha := E.rng a (by simp)
 have hi0 := E.i0
 refine ⟨by omega, by omega, ⟨fun s hs => by have := E.rng s hs; omega, E.desc⟩, ?_, ?_, ?_, ?_, ?_, ?_⟩
 ·intro s hs
  rcases List.mem_cons.1 hs with rfl | hs
  ·omega
  ·have := E.rng s hs; omega
 ·intro x hx
  by_cases e2 : x = i + 1
  ·subst e2; rw [upd_self, e]
  ·rw [upd_ne H e2] at hx ⊢; exact E.told x hx
 ·intro x h1 h2 h3
  by_cases e2 : x = i + 1
  ·subst e2; rw [upd_self, e]
  ·rw [upd_ne H e2]
   by_cases h4 : h x ≤ i
   ·exact E.arcs x h1 (by omega) h4
   ·have h5 : h x = i + 1 := by omega
    by_cases hm : x ∈ a :: r
    ·exfalso
     rcases List.mem_cons.1 hm with e3 | hm
     ·subst e3; exact e1 h5
     ·have hxa := E.desc.1 x hm
      have u := B x (by omega) a (by unfold Btw; omega)
      rw [h5] at u
      have v : Und h (i + 1) a := by have := Und.head h (i + 1); rwa [e] at this
      have := T.anti ⟨ha.1, by omega⟩ u v
      omega
    ·exact E.told x (E.popped x h1 (by omega) hm).1
 ·intro x h1 h2 h3
  have e2 : x ≠ i + 1 := fun e2 => h3 (by simp [e2])
  rw [upd_ne H e2]
  have := E.popped x h1 (by omega) (fun hm => h3 (by simp at hm ⊢; right; exact hm))
  exact ⟨this.1, fun y hy => this.2 y (by omega)⟩
 ·intro x hx
  by_cases e2 : x = i + 1
  ·subst e2; intro _; omega
  ·rw [upd_ne H e2]
   intro hn
   have := E.onst x (by simp [e2] at hx; simpa using hx) hn
   omega
 ·intro x hx
  rw [upd_ne H (by omega)]; exact E.out x (by omega)

theorem drop (T : Tr n h) (B : Bet h) {a : Int} {r : List Int} (E : EInv n h (a :: r) i H) (hi : i < n) (e1 : h a ≠ i + 1) (e2 : h (i + 1) ≠ a) (hw : ∃ w, w ∈ r ∧ (h (i + 1) = w ∨ h w = i + 1)) : H a ≠ 0 ∧ EInv n h r i H := by
 have ha := E.rng a (by simp)
 have hi0 := E.i0
 obtain ⟨w, hw, hor⟩ := hw
 have hwa := E.desc.1 w hw
 have hw1 := E.rng w (by simp [hw])
 obtain ⟨k, hk, hkw⟩ : ∃ k, h k ≠ 0 ∧ ((k = i + 1 ∧ h k = w) ∨ (k = w ∧ h k = i + 1)) := by
  rcases hor with h1 | h1
  ·exact ⟨i + 1, by omega, .inl ⟨rfl, h1⟩⟩
  ·exact ⟨w, by omega, .inr ⟨rfl, h1⟩⟩
 have hb : Btw a k (h k) := by unfold Btw; omega
 have N := bet_nocr T B
 have hz : h a ≠ 0 := fun h0 => bet_nocov T B a ha.1 (by omega) h0 k hk hb
 have nc := N k a hk hz
 have hle : h a ≤ i := by unfold Crs Outs at nc; unfold Btw at *; omega
 have hHa := E.arcs a ha.1 ha.2 hle
 have hn0 : H a ≠ 0 := by omega
 refine ⟨hn0, E.i0, E.i1, E.desc.2, fun s hs => E.rng s (by simp [hs]), E.told, E.arcs, ?_, fun x hx => E.onst x (by simp [hx]), E.out⟩
 intro x h1 h2 h3
 by_cases e3 : x = a
 ·subst e3
  refine ⟨hn0, fun y hy e4 => ?_⟩
  by_cases e5 : y = i + 1
  ·subst e5; exact e2 e4
  ·have nc := N k y hk (by omega)
   unfold Crs Outs at nc
   unfold Btw at *
   omega
 ·exact E.popped x h1 h2 (by simp [e3, h3])

theorem shift (T : Tr n h) (E : EInv n h st i H) (hi : i < n) (hw : ∀ w, w ∈ st → h (i + 1) ≠ w ∧ h w ≠ i + 1) : EInv n h ((i + 1) :: st) (i + 1) H := by
 have hi0 := E.i0
 refine ⟨by omega, by omega, ⟨fun s hs => by have := E.rng s hs; omega, E.desc⟩, ?_, E.told, ?_, ?_, ?_, ?_⟩
 ·intro s hs
  rcases List.mem_cons.1 hs with rfl | hs
  ·omega
  ·have := E.rng s hs; omega
 ·intro x h1 h2 h3
  by_cases e2 : x = i + 1
  ·subst e2
   rw [E.out (i + 1) (by omega)]
   apply Classical.byContradiction
   intro hn
   have hlo := T.lo (i + 1)
   have hne := T.not_own (a := i + 1) (by omega)
   by_cases hm : h (i + 1) ∈ st
   ·exact (hw _ hm).1 rfl
   ·exact (E.popped (h (i + 1)) (by omega) (by omega) hm).2 (i + 1) (by omega) rfl
  ·by_cases h4 : h x ≤ i
   ·exact E.arcs x h1 (by omega) h4
   ·by_cases hm : x ∈ st
    ·exact absurd (show h x = i + 1 by omega) (hw x hm).2
    ·exact E.told x (E.popped x h1 (by omega) hm).1
 ·intro x h1 h2 h3
  have e2 : x ≠ i + 1 := fun e2 => h3 (by simp [e2])
  have := E.popped x h1 (by omega) (fun hm => h3 (by simp [hm]))
  exact ⟨this.1, fun y hy => this.2 y (by omega)⟩
 ·intro x hx hn
  by_cases e2 : x = i + 1
  ·subst e2; exact absurd (E.out (i + 1) (by omega)) hn
  ·have := E.onst x (by simpa [e2] using hx) hn
   omega
 ·intro x hx; exact E.out x (by omega)

theorem all (T : Tr n h) (E : EInv n h st n H) : ∀ x, H x = h x := by
 intro x
 by_cases hw : 1 ≤ x ∧ x ≤ (n : Int)
 ·exact E.arcs x hw.1 hw.2 (T.hi x)
 ·rw [E.out x hw, T.out x hw]
end EInv

theorem etold_from {n : Nat} {h : Int → Int} (T : Tr n h) (B : Bet h) : ∀ (k : Nat) (st : List Int) (i : Int) (H : Int → Int), EInv n h st i H → 2 * (n - i) + st.length ≤ k → (i < n ∨ 1 ≤ st.length) →
  ∃ ms, ETold n h ms st i H ∧ ms.length + 1 ≤ k ∧ many 76 ms + many 82 ms + cnt (fun x => decide (H x ≠ 0)) n = cnt (fun x => decide (h x ≠ 0)) n ∧ (many 83 ms + many 82 ms : Int) = n - i := by
 intro k
 induction k with
 | zero => intro st i H E hk hs; have := E.i1; omega
 | succ k ih =>
  intro st i H E hk hs
  have h1 := E.i1
  have h0 := E.i0
  by_cases hin : i = n
  ·subst hin
   have hall := E.all T
   refine ⟨[], ⟨rfl, hall⟩, by simp only [List.length_nil]; omega, ?_, by simp [many]⟩
   simp only [many]
   rw [cnt_congr (p := fun x => decide (H x ≠ 0)) (q := fun x => decide (h x ≠ 0)) (fun a _ _ => by rw [hall a])]
   omega
  have hlt : i < n := by omega
  have shiftCase : (∀ w, w ∈ st → h (i + 1) ≠ w ∧ h w ≠ i + 1) → ∃ ms, ETold n h ms st i H ∧ ms.length + 1 ≤ k + 1 ∧ many 76 ms + many 82 ms + cnt (fun x => decide (H x ≠ 0)) n = cnt (fun x => decide (h x ≠ 0)) n ∧ (many 83 ms + many 82 ms : Int) = n - i := by
   intro hw
   obtain ⟨ms, t, hl, hc, hs⟩ := ih ((i + 1) :: st) (i + 1) H (E.shift T hlt hw) (by simp; omega) (by simp)
   refine ⟨83 :: ms, ⟨hlt, .inr (.inr (.inr ⟨rfl, hw, t⟩))⟩, by simp; omega, ?_, ?_⟩
   ·simp [many] at hc ⊢; omega
   ·simp [many]; omega
  match st, E, shiftCase, hk with
  | [], _, shiftCase, _ => exact shiftCase (fun w hw => by cases hw)
  | a :: r, E, shiftCase, hk =>
   have ha := E.rng a (by simp)
   by_cases e1 : h a = i + 1
   ·obtain ⟨hz, E2⟩ := E.left T B hlt e1
    obtain ⟨ms, t, hl, hc, hs⟩ := ih r i (upd H a (i + 1)) E2 (by simp at hk; omega) (.inl hlt)
    refine ⟨76 :: ms, ⟨hlt, .inl ⟨rfl, a, r, rfl, e1, hz, t⟩⟩, by simp; omega, ?_, by simp [many]; omega⟩
    rw [cnt_one (p := fun x => decide (H x ≠ 0)) (b := a) ha.1 (by omega) (by simp [hz]) (by rw [upd_self]; simp; omega) (fun x hx => by rw [upd_ne H hx])] at hc
    simp [many] at hc ⊢; omega
   ·by_cases e2 : h (i + 1) = a
    ·have hz := E.out (i + 1) (by omega)
     obtain ⟨ms, t, hl, hc, hs⟩ := ih ((i + 1) :: a :: r) (i + 1) (upd H (i + 1) a) (E.right T B hlt e1 e2) (by simp at hk ⊢; omega) (by simp)
     refine ⟨82 :: ms, ⟨hlt, .inr (.inl ⟨rfl, a, r, rfl, e1, e2, hz, t⟩)⟩, by simp; omega, ?_, by simp [many]; omega⟩
     rw [cnt_one (p := fun x => decide (H x ≠ 0)) (b := i + 1) (by omega) (by omega) (by simp [hz]) (by rw [upd_self]; simp; omega) (fun x hx => by rw [upd_ne H hx])] at hc
     simp [many] at hc ⊢; omega
    ·by_cases hw : ∃ w, w ∈ r ∧ (h (i + 1) = w ∨ h w = i + 1)
     ·obtain ⟨hz, E2⟩ := E.drop T B hlt e1 e2 hw
      obtain ⟨ms, t, hl, hc, hs⟩ := ih r i H E2 (by simp at hk; omega) (.inl hlt)
      refine ⟨68 :: ms, ⟨hlt, .inr (.inr (.inl ⟨rfl, a, r, rfl, e1, e2, hw, hz, t⟩))⟩, by simp; omega, ?_, by simp [many]; omega⟩
      simp [many] at hc ⊢; omega
     ·refine shiftCase fun w hm => ?_
      rcases List.mem_cons.1 hm with e3 | hm
      ·subst e3; exact ⟨e2, e1⟩
      ·exact ⟨fun e4 => hw ⟨w, hm, .inl e4⟩, fun e4 => hw ⟨w, hm, .inr e4⟩⟩

theorem etold_start {n : Nat} {h : Int → Int} (T : Tr n h) (B : Bet h) : ∃ ms, ETold n h ms [] 0 (fun _ => 0) ∧ ms.length ≤ 2 * n - 1 ∧ many 76 ms + many 82 ms = n - 1 ∧ many 83 ms + many 82 ms = n := by
 have hp := T.pos
 obtain ⟨ms, t, hl, hc, hs⟩ := etold_from T B (2 * n) [] 0 _ (EInv.start n h) (by simp) (by left; omega)
 have := cnt_heads T
 rw [cnt_none (p := fun x => decide ((fun _ => 0 : Int → Int) x ≠ 0)) (fun _ _ _ => by simp)] at hc
 exact ⟨ms, t, by omega, by omega, by omega⟩
end Hd
