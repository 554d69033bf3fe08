/- Plain facts on rows that are told word by word, and on sets of bits. -/
import Derived.Test.YtdckgafgidfplaaHd5
namespace Hd

/-- The words of the first m that have it, in ascending order. -/
def sel (p : Int → Bool) : Nat → List Int
 | 0 => []
 | m + 1 => sel p m ++ if p ((m : Int) + 1) then [(m : Int) + 1] else []
/-- What f tells of the first m words. -/
def tab {α : Type} (f : Int → α) : Nat → List α
 | 0 => []
 | m + 1 => tab f m ++ [f ((m : Int) + 1)]

theorem sel_length (p : Int → Bool) : ∀ m, (sel p m).length = cnt p m
 | 0 => rfl
 | m + 1 => by
  unfold sel cnt
  rw [List.length_append, sel_length p m]
  split <;> rfl
theorem sel_le (p : Int → Bool) (m : Nat) : (sel p m).length ≤ m := by rw [sel_length]; exact cnt_le p m
theorem mem_sel {p : Int → Bool} {x : Int} : ∀ {m : Nat}, x ∈ sel p m ↔ 1 ≤ x ∧ x ≤ m ∧ p x = true
 | 0 => by simp [sel]; omega
 | m + 1 => by
  unfold sel
  rw [List.mem_append, mem_sel (m := m)]
  by_cases hp : p ((m : Int) + 1) = true
  ·rw [if_pos hp]
   simp
   constructor
   ·rintro (⟨h1, h2, h3⟩ | rfl)
    ·exact ⟨h1, by omega, h3⟩
    ·exact ⟨by omega, by omega, hp⟩
   ·rintro ⟨h1, h2, h3⟩
    by_cases e : x = (m : Int) + 1
    ·exact .inr e
    ·exact .inl ⟨h1, by omega, h3⟩
  ·rw [if_neg hp, show x ∈ ([] : List Int) ↔ False from by simp, or_false]
   constructor
   ·rintro ⟨h1, h2, h3⟩; exact ⟨h1, by omega, h3⟩
   ·rintro ⟨h1, h2, h3⟩
    by_cases e : x = (m : Int) + 1
    ·subst e; exact absurd h3 hp
    ·exact ⟨h1, by omega, h3⟩
theorem sel_congr {p q : Int → Bool} : ∀ {m : Nat}, (∀ a : Int, 1 ≤ a → a ≤ m → p a = q a) → sel p m = sel q m
 | 0, _ => rfl
 | m + 1, h => by
  unfold sel
  rw [sel_congr (m := m) (fun a h1 h2 => h a h1 (by omega)), h _ (by omega) (by omega)]
theorem sel_more {p : Int → Bool} {m : Nat} : ∀ {k : Nat}, (∀ a : Int, (m : Int) < a → a ≤ (m : Int) + k → p a = false) → sel p (m + k) = sel p m
 | 0, _ => rfl
 | k + 1, h => by
  show sel p (m + k) ++ (if p (((m + k : Nat) : Int) + 1) = true then [((m + k : Nat) : Int) + 1] else []) = _
  rw [sel_more (k := k) (fun a h1 h2 => h a h1 (by omega)), h (((m + k : Nat) : Int) + 1) (by omega) (by omega)]
  simp

theorem tab_length {α : Type} (f : Int → α) : ∀ m, (tab f m).length = m
 | 0 => rfl
 | m + 1 => by
  unfold tab
  rw [List.length_append, tab_length f m]; rfl
theorem tab_get {α : Type} (f : Int → α) (z : α) : ∀ {m : Nat} {i : Nat}, i < m → (tab f m).getD i z = f ((i : Int) + 1)
 | 0, _, h => by omega
 | m + 1, i, h => by
  unfold tab
  rw [List.getD_eq_getElem?_getD]
  by_cases e : i < m
  ·rw [List.getElem?_append_left (by rw [tab_length]; exact e), ← List.getD_eq_getElem?_getD, tab_get f z e]
  ·have : i = m := by omega
   subst this
   rw [List.getElem?_append_right (by rw [tab_length]; omega), tab_length]
   simp
theorem tab_congr {α : Type} {f g : Int → α} : ∀ {m : Nat}, (∀ a : Int, 1 ≤ a → a ≤ m → f a = g a) → tab f m = tab g m
 | 0, _ => rfl
 | m + 1, h => by
  unfold tab
  rw [tab_congr (m := m) (fun a h1 h2 => h a h1 (by omega)), h _ (by omega) (by omega)]
theorem tab_set {α : Type} (f : Int → α) (z : α) (n i : Nat) (h : i < n) : (tab f i ++ List.replicate (n - i) z).set i (f ((i : Int) + 1)) = tab f (i + 1) ++ List.replicate (n - (i + 1)) z := by
 rw [List.set_append, if_neg (by rw [tab_length]; omega)]
 rw [show n - i = (n - (i + 1)) + 1 from by omega, List.replicate_succ, tab_length, Nat.sub_self, List.set_cons_zero]
 simp only [tab, List.append_assoc, List.singleton_append]
/-- A row is what it tells of its words. -/
theorem tab_self (l : List Int) : tab (hd l) l.length = l := by
 apply List.ext_getElem?
 intro i
 by_cases h : i < l.length
 ·have h1 : (tab (hd l) l.length)[i]? = some ((tab (hd l) l.length).getD i 0) := by
   rw [List.getD_eq_getElem?_getD, List.getElem?_eq_getElem (by rw [tab_length]; exact h)]; rfl
  rw [h1, tab_get _ _ h, ← hd_get (by omega), show ((i : Int) + 1 - 1).toNat = i from by omega, List.getD_eq_getElem?_getD, List.getElem?_eq_getElem h]; rfl
 ·rw [List.getElem?_eq_none (by rw [tab_length]; omega), List.getElem?_eq_none (by omega)]
theorem hd_tab {f : Int → Int} {n : Nat} {a : Int} (h1 : 1 ≤ a) (h2 : a ≤ n) : hd (tab f n) a = f a := by
 rw [← hd_get h1, tab_get f 0 (show (a - 1).toNat < n by omega)]
 congr 1; omega
theorem eq_of_hd {l m : List Int} (hl : l.length = m.length) (h : ∀ a : Int, 1 ≤ a → a ≤ l.length → hd l a = hd m a) : l = m := by
 rw [← tab_self l, ← tab_self m, ← hl]
 exact tab_congr h

/-! ### Sets of bits -/
def ysum (p : Int → Bool) : Nat → Nat
 | 0 => 0
 | m + 1 => ysum p m + if p ((m : Int) + 1) then 2 ^ m else 0
theorem ysum_lt (p : Int → Bool) : ∀ m, ysum p m < 2 ^ m
 | 0 => by simp [ysum]
 | m + 1 => by
  have := ysum_lt p m
  unfold ysum
  rw [Nat.pow_succ]
  split <;> omega
theorem ysum_bit (p : Int → Bool) : ∀ (m j : Nat), (ysum p m).testBit j = (decide (j < m) && p ((j : Int) + 1))
 | 0, j => by simp [ysum]
 | m + 1, j => by
  unfold ysum
  have hl := ysum_lt p m
  by_cases hp : p ((m : Int) + 1) = true
  ·rw [if_pos hp, Nat.add_comm]
   by_cases e : j = m
   ·subst e
    rw [Nat.testBit_two_pow_add_eq, Nat.testBit_lt_two_pow hl]
    simp [hp]
   ·by_cases e2 : j < m
    ·rw [Nat.testBit_two_pow_add_gt e2, ysum_bit p m j]
     simp [e2, show j < m + 1 by omega]
    ·have h2 : 2 ^ m + ysum p m < 2 ^ j := by
      have : 2 ^ (m + 1) ≤ 2 ^ j := Nat.pow_le_pow_right (by decide) (by omega)
      rw [Nat.pow_succ] at this
      omega
     rw [Nat.testBit_lt_two_pow h2]
     simp; intro; omega
  ·rw [if_neg hp, Nat.add_zero, ysum_bit p m j]
   by_cases e : j = m
   ·subst e; simp [hp]
   ·by_cases e2 : j < m
    ·simp [e2, show j < m + 1 by omega]
    ·simp [e2, show ¬ j < m + 1 by omega]
theorem ysum_eq {v m : Nat} {p : Int → Bool} (h : ∀ j, v.testBit j = (decide (j < m) && p ((j : Int) + 1))) : v = ysum p m :=
 Nat.eq_of_testBit_eq fun j => by rw [h, ysum_bit]
theorem ysum_or (p q : Int → Bool) (m : Nat) : ysum p m ||| ysum q m = ysum (fun x => p x || q x) m :=
 ysum_eq fun j => by rw [Nat.testBit_or, ysum_bit, ysum_bit, Bool.and_or_distrib_left]
theorem ysum_and (p q : Int → Bool) (m : Nat) : ysum p m &&& ysum q m = ysum (fun x => p x && q x) m :=
 ysum_eq fun j => by
  rw [Nat.testBit_and, ysum_bit, ysum_bit]
  cases decide (j < m) <;> simp
theorem ysum_congr {p q : Int → Bool} {m : Nat} (h : ∀ a : Int, 1 ≤ a → a ≤ m → p a = q a) : ysum p m = ysum q m :=
 ysum_eq fun j => by
  rw [ysum_bit]
  by_cases hj : j < m
  ·rw [h _ (by omega) (by omega)]
  ·simp [hj]
theorem ysum_one {w m : Nat} (h : w < m) : 2 ^ w = ysum (fun x => decide (x = (w : Int) + 1)) m :=
 ysum_eq fun j => by
  rw [Nat.testBit_two_pow]
  by_cases e : w = j
  ·subst e; simp [h]
  ·simp [e]; intro _; omega
theorem ysum_zero {p : Int → Bool} {m : Nat} : ysum p m = 0 ↔ ∀ a : Int, 1 ≤ a → a ≤ m → p a = false := by
 constructor
 ·intro h a h1 h2
  have := ysum_bit p m (a - 1).toNat
  rw [h, Nat.zero_testBit] at this
  rw [show (((a - 1).toNat : Nat) : Int) + 1 = a from by omega] at this
  have h3 : (a - 1).toNat < m := by omega
  rw [decide_eq_true h3, Bool.true_and] at this
  exact this.symm
 ·intro h
  refine (ysum_eq fun j => ?_).symm
  rw [Nat.zero_testBit]
  by_cases hj : j < m
  ·rw [h _ (by omega) (by omega)]; simp
  ·simp [hj]
theorem ysum_le {p : Int → Bool} {m : Nat} (h : m ≤ 8) : ysum p m < 256 := Nat.lt_of_lt_of_le (ysum_lt p m) (Nat.pow_le_pow_right (by decide) h)

/-- The yield of w. -/
noncomputable def yld (l : List Int) (w : Int) : List Int := sel (fun x => undB l x w) l.length
noncomputable def ybits (l : List Int) (w : Int) : Nat := ysum (fun x => undB l x w) l.length

/-- A word is in a yield just if it is the word itself, or in the yield of one that depends on it. -/
theorem und_child {n : Nat} {h : Int → Int} (t : Tr n h) {w : Int} (hw : 1 ≤ w ∧ w ≤ n) {x : Int} : Und h x w ↔ x = w ∨ ∃ c : Int, (1 ≤ c ∧ c ≤ n) ∧ h c = w ∧ Und h x c := by
 constructor
 ·rintro ⟨k, e⟩
  induction k generalizing x with
  | zero => exact .inl e
  | succ k ih =>
   rcases ih (x := h x) e with e2 | ⟨c, hc, e2, u⟩
   ·exact .inr ⟨x, t.word_of (by omega), e2, Und.refl _ _⟩
   ·exact .inr ⟨c, hc, e2, u.up⟩
 ·rintro (rfl | ⟨c, _, e, u⟩)
  ·exact Und.refl _ _
  ·exact u.trans (e ▸ Und.head h c)
end Hd
