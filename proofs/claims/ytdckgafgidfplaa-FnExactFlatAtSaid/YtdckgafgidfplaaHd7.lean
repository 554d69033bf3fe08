/- Plain facts on sets of at most eight bits that are rows, and on what is told of a tree. -/
import Derived.Test.YtdckgafgidfplaaHd6
namespace Hd

def rowM (s : Nat) : Bool := (List.range 8).all fun i => (List.range 8).all fun k => (List.range 8).all fun j => !(decide (i < j) && decide (j < k) && s.testBit i && s.testBit k) || s.testBit j
def runsM (s : Nat) : Nat := ((List.range 8).filter fun j => s.testBit j && !s.testBit (j + 1)).length
def mmN (q : Nat → Bool) (n : Int) : Nat → Int × Int × Int
 | 0 => (0, n, -1)
 | m + 1 =>
  if q m then ((mmN q n m).1 + 1, (if (m : Int) < (mmN q n m).2.1 then (m : Int) else (mmN q n m).2.1), (if (mmN q n m).2.2 < (m : Int) then (m : Int) else (mmN q n m).2.2))
  else mmN q n m

theorem rowM_even : ∀ s, s < 256 → s % 2 = 0 → rowM (s / 2) = rowM s := by decide +kernel
theorem rowM_odd : ∀ s, s < 256 → s % 2 = 1 → (s &&& (s + 1) == 0) = rowM s := by decide +kernel
theorem runsM_half : ∀ s, s < 256 → s ≠ 0 → runsM s = (if s % 4 = 1 then 1 else 0) + runsM (s / 2) := by decide +kernel
theorem runsM_row : ∀ s, s < 256 → s ≠ 0 → (runsM s = 1 ↔ rowM s = true) := by decide +kernel
theorem mmN_row : ∀ n : Nat, n < 9 → ∀ s : Nat, s < 2 ^ n → s ≠ 0 → ((mmN s.testBit n n).2.2 - (mmN s.testBit n n).2.1 + 1 == (mmN s.testBit n n).1) = rowM s := by decide +kernel
theorem mmN_congr {p q : Nat → Bool} {n : Int} : ∀ {m : Nat}, (∀ j, j < m → p j = q j) → mmN p n m = mmN q n m
 | 0, _ => rfl
 | m + 1, h => by
  unfold mmN
  rw [mmN_congr (m := m) (fun j hj => h j (by omega)), h m (by omega)]
theorem mmN_bd (q : Nat → Bool) (n : Nat) : ∀ m : Nat, (0 ≤ (mmN q n m).1 ∧ (mmN q n m).1 ≤ m) ∧ (0 ≤ (mmN q n m).2.1 ∧ (mmN q n m).2.1 ≤ n) ∧ (-1 ≤ (mmN q n m).2.2 ∧ (mmN q n m).2.2 < m + 1)
 | 0 => by simp [mmN]
 | m + 1 => by
  have := mmN_bd q n m
  unfold mmN
  split
  ·refine ⟨by simp only; omega, by simp only; split <;> omega, by simp only; split <;> omega⟩
  ·omega

theorem rowM_iff {p : Int → Bool} {n : Nat} (hn : n ≤ 8) : rowM (ysum p n) = true ↔ ∀ x y z : Int, 1 ≤ x → x ≤ y → y ≤ z → z ≤ n → p x = true → p z = true → p y = true := by
 unfold rowM
 simp only [List.all_eq_true, List.mem_range, Bool.or_eq_true, Bool.not_eq_true', Bool.and_eq_false_imp, Bool.and_eq_true, decide_eq_true_eq]
 constructor
 ·intro h x y z h1 h2 h3 h4 px pz
  by_cases e1 : y = x
  ·rw [e1]; exact px
  by_cases e2 : y = z
  ·rw [e2]; exact pz
  have bit : ∀ a : Int, 1 ≤ a → a ≤ n → (ysum p n).testBit (a - 1).toNat = p a := fun a k1 k2 => by
   rw [ysum_bit, decide_eq_true (show (a - 1).toNat < n by omega), Bool.true_and]
   congr 1; omega
  have := h (x - 1).toNat (by omega) (z - 1).toNat (by omega) (y - 1).toNat (by omega)
  rw [bit x h1 (by omega), bit z (by omega) h4, bit y (by omega) (by omega)] at this
  rcases this with k | k
  ·have := k ⟨⟨by omega, by omega⟩, px⟩
   rw [pz] at this; cases this
  ·exact k
 ·intro h i _ k _ j _
  by_cases hc : ((i < j ∧ j < k) ∧ (ysum p n).testBit i = true) ∧ (ysum p n).testBit k = true
  ·right
   obtain ⟨⟨⟨h1, h2⟩, h3⟩, h4⟩ := hc
   rw [ysum_bit, Bool.and_eq_true, decide_eq_true_eq] at *
   exact ⟨by omega, h ((i : Int) + 1) ((j : Int) + 1) ((k : Int) + 1) (by omega) (by omega) (by omega) (by omega) h3.2 h4.2⟩
  ·left
   intro h1
   cases hb : (ysum p n).testBit k with
   | false => rfl
   | true => exact absurd ⟨h1, hb⟩ hc

open Classical in
noncomputable def rootI (l : List Int) : Int := if h : T l then Classical.choose h.2.root else -1
theorem rootI_no {l : List Int} (h : ¬ T l) : rootI l = -1 := by simp [rootI, h]
theorem rootI_spec {l : List Int} (t : T l) : (1 ≤ rootI l ∧ rootI l ≤ l.length) ∧ hd l (rootI l) = 0 ∧ ∀ a : Int, 1 ≤ a → a ≤ l.length → hd l a = 0 → a = rootI l := by
 have := Classical.choose_spec t.2.root
 simp only [rootI, t, dif_pos]
 exact this

open Classical in
noncomputable def depL (l : List Int) : List Int := if T l then tab (fun a => (dep l.length (hd l) a : Int)) l.length else []
open Classical in
noncomputable def kidL (l : List Int) (w : Int) : List Int := if T l then sel (fun a => decide (hd l a = w)) l.length else []
open Classical in
noncomputable def yldL (l : List Int) (w : Int) : List Int := if T l ∧ 1 ≤ w ∧ w ≤ l.length then yld l w else []
open Classical in
noncomputable def flatB (l : List Int) : Bool := decide (T l ∧ Row l.length (hd l))
theorem flatB_true {l : List Int} : flatB l = true ↔ T l ∧ Row l.length (hd l) := by simp [flatB]
open Classical in
noncomputable def covB (l : List Int) (w : Int) : Bool := decide (T l ∧ (1 ≤ w ∧ w ≤ l.length) ∧ ∃ k, hd l k ≠ 0 ∧ Btw w k (hd l k))
theorem covB_true {l : List Int} {w : Int} : covB l w = true ↔ T l ∧ (1 ≤ w ∧ w ≤ l.length) ∧ ∃ k, hd l k ≠ 0 ∧ Btw w k (hd l k) := by simp [covB]
def backF (l : List Int) (a : Int) : Int := if hd l ((l.length : Int) + 1 - a) = 0 then 0 else (l.length : Int) + 1 - hd l ((l.length : Int) + 1 - a)
open Classical in
noncomputable def backL (l : List Int) : List Int := if T l then tab (backF l) l.length else []

/-- Going up from a till b is under it. -/
noncomputable def meetF (l : List Int) : Nat → Int → Int → Int
 | 0, a, _ => a
 | k + 1, a, b => if undB l b a = true then a else meetF l k (hd l a) b

theorem kidL_len (l : List Int) (w : Int) : (kidL l w).length ≤ 8 := by
 unfold kidL
 split
 ·rename_i t
  have := sel_le (fun a => decide (hd l a = w)) l.length
  have := t.1
  omega
 ·simp
theorem depL_len (l : List Int) : (depL l).length ≤ 8 := by
 unfold depL
 split
 ·rename_i t
  rw [tab_length]; exact t.1
 ·simp
theorem yldL_len (l : List Int) (w : Int) : (yldL l w).length ≤ 8 := by
 unfold yldL yld
 split
 ·rename_i t
  have := sel_le (fun x => undB l x w) l.length
  have := t.1.1
  omega
 ·simp
theorem backL_len (l : List Int) : (backL l).length ≤ 8 := by
 unfold backL
 split
 ·rename_i t
  rw [tab_length]; exact t.1
 ·simp

/-- All yields are rows just if the tree is flat. -/
theorem row_masks {l : List Int} (t : T l) : Row l.length (hd l) ↔ ∀ w : Int, 1 ≤ w → w ≤ l.length → rowM (ybits l w) = true := by
 constructor
 ·intro R w h1 h2
  unfold ybits
  rw [rowM_iff t.1]
  intro x y z _ k2 k3 _ px pz
  rw [undB_true] at *
  exact R w h1 h2 x y z px pz k2 k3
 ·intro h w h1 h2 x y z px pz k2 k3
  have r := h w h1 h2
  unfold ybits at r
  rw [rowM_iff t.1] at r
  have hx := t.2.und_word' px ⟨h1, h2⟩
  have hz := t.2.und_word' pz ⟨h1, h2⟩
  have := r x y z hx.1 k2 k3 hz.2 (undB_true.2 px) (undB_true.2 pz)
  exact undB_true.1 this
theorem ybits_pos {l : List Int} {w : Int} (h1 : 1 ≤ w) (h2 : w ≤ l.length) : ybits l w ≠ 0 := by
 intro e
 unfold ybits at e
 rw [ysum_zero] at e
 have := e w h1 h2
 rw [undB_false] at this
 exact this (Und.refl _ _)
end Hd
