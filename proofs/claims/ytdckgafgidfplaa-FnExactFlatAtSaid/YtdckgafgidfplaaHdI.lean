/- The flat trees of up to 6 words in their order, and their places: plain facts. -/
import Derived.Test.YtdckgafgidfplaaHd7
namespace Hd
def toI (l : List Nat) : List Int := l.map fun x : Nat => (x : Int)
theorem toI_len (l : List Nat) : (toI l).length = l.length := List.length_map _
theorem toI_getD (l : List Nat) (i : Nat) : (toI l).getD i 0 = ((l.getD i 0 : Nat) : Int) := by
 simp only [toI, List.getD_eq_getElem?_getD, List.getElem?_map]
 cases l[i]? <;> rfl
theorem toI_inj : ∀ {a b : List Nat}, toI a = toI b → a = b
 | [], [], _ => rfl
 | [], _ :: _, h => by simp [toI] at h
 | _ :: _, [], h => by simp [toI] at h
 | x :: a, y :: b, h => by
  simp only [toI, List.map_cons, List.cons.injEq] at h
  rw [toI_inj h.2, show x = y by omega]
/-- The head of a word, from 1 on. -/
def hN (h : List Nat) : Nat → Nat
 | 0 => 0
 | a + 1 => h.getD a 0
theorem hd_toI (h : List Nat) (a : Nat) : hd (toI h) (a : Int) = (hN h a : Int) := by
 cases a with
 | zero => rfl
 | succ a =>
  rw [hd, if_pos (by omega), show (((a + 1 : Nat) : Int) - 1).toNat = a by omega, toI_getD]; rfl
def itN (h : List Nat) : Nat → Nat → Nat
 | 0, a => a
 | k + 1, a => itN h k (hN h a)
theorem it_toI (h : List Nat) : ∀ (k a : Nat), it (hd (toI h)) k (a : Int) = (itN h k a : Int)
 | 0, a => rfl
 | k + 1, a => by rw [it, hd_toI, it_toI h k]; rfl
def undN (h : List Nat) : Nat → Nat → Nat → Bool
 | 0, _, _ => false
 | f + 1, a, b => Nat.beq a b || undN h f (hN h a) b
theorem undN_iff (h : List Nat) : ∀ (f a b : Nat), undN h f a b = true ↔ ∃ k, k < f ∧ itN h k a = b
 | 0, a, b => by simp [undN]
 | f + 1, a, b => by
  rw [undN, Bool.or_eq_true, undN_iff h f, Nat.beq_eq]
  constructor
  ·rintro (e | ⟨k, hk, e⟩)
   ·exact ⟨0, by omega, e⟩
   ·exact ⟨k + 1, by omega, e⟩
  ·rintro ⟨k, hk, e⟩
   cases k with
   | zero => exact .inl e
   | succ k => exact .inr ⟨k, by omega, e⟩
theorem und_N {h : List Nat} (t : T (toI h)) {a b f : Nat} (ha : 1 ≤ a ∧ a ≤ h.length) (hf : h.length ≤ f) (hb : 1 ≤ b) : Und (hd (toI h)) a b ↔ undN h f a b = true := by
 rw [undN_iff]
 constructor
 ·rintro ⟨k, e⟩
  refine ⟨k, ?_, by rw [it_toI] at e; omega⟩
  by_cases hk : k < f
  ·exact hk
  ·have h0 := t.2.back (a : Int) (by omega) (by rw [toI_len]; omega)
   rw [toI_len] at h0
   have := it_more t.2.zero h0 (k := k) (by omega)
   omega
 ·rintro ⟨k, _, e⟩
  exact ⟨k, by rw [it_toI, e]⟩
/-! ### The tables -/
def joinN (one other : List Nat) (skip word : Nat) : List Nat :=
 one.map (fun h => if h = 0 then word else h) ++ ((if skip = 0 then [] else [0]) ++ other.map (fun h => if h = 0 then word else h + (one.length + skip)))
def tF1 : List (List Nat) := [[0]]
def tF2 : List (List Nat) := [[0, 1], [2, 0]]
def tF3 : List (List Nat) := [[0, 1, 1], [0, 1, 2], [0, 3, 1], [2, 0, 2], [3, 3, 0], [3, 1, 0], [2, 3, 0]]
def tF4 : List (List Nat) := [[0, 1, 1, 1], [0, 1, 1, 3], [0, 1, 4, 1], [0, 1, 2, 1], [0, 3, 1, 1], [0, 1, 2, 2], [0, 1, 2, 3], [0, 1, 4, 2], [0, 3, 1, 3], [0, 4, 4, 1], [0, 4, 2, 1], [0, 3, 4, 1], [2, 0, 2, 2], [2, 0, 2, 3], [2, 0, 4, 2], [3, 3, 0, 3], [3, 1, 0, 3], [2, 3, 0, 3], [4, 4, 4, 0], [4, 4, 2, 0], [4, 3, 4, 0], [4, 1, 4, 0], [2, 4, 4, 0], [4, 1, 1, 0], [4, 1, 2, 0], [4, 3, 1, 0], [2, 4, 2, 0], [3, 3, 4, 0], [3, 1, 4, 0], [2, 3, 4, 0]]
def tF5 : List (List Nat) := [[0, 1, 1, 1, 1], [0, 1, 1, 1, 4], [0, 1, 1, 5, 1], [0, 1, 1, 3, 1], [0, 1, 4, 1, 1], [0, 1, 1, 3, 3], [0, 1, 1, 3, 4], [0, 1, 1, 5, 3], [0, 1, 4, 1, 4], [0, 1, 5, 5, 1], [0, 1, 5, 3, 1], [0, 1, 4, 5, 1], [0, 1, 2, 1, 1], [0, 1, 2, 1, 4], [0, 1, 2, 5, 1], [0, 3, 1, 1, 1], [0, 3, 1, 1, 4], [0, 3, 1, 5, 1], [0, 1, 2, 2, 1], [0, 1, 2, 3, 1], [0, 1, 4, 2, 1], [0, 3, 1, 3, 1], [0, 4, 4, 1, 1], [0, 4, 2, 1, 1], [0, 3, 4, 1, 1], [0, 1, 2, 2, 2], [0, 1, 2, 2, 4], [0, 1, 2, 5, 2], [0, 1, 2, 3, 2], [0, 1, 4, 2, 2], [0, 1, 2, 3, 3], [0, 1, 2, 3, 4], [0, 1, 2, 5, 3], [0, 1, 4, 2, 4], [0, 1, 5, 5, 2], [0, 1, 5, 3, 2], [0, 1, 4, 5, 2], [0, 3, 1, 3, 3], [0, 3, 1, 3, 4], [0, 3, 1, 5, 3], [0, 4, 4, 1, 4], [0, 4, 2, 1, 4], [0, 3, 4, 1, 4], [0, 5, 5, 5, 1], [0, 5, 5, 3, 1], [0, 5, 4, 5, 1], [0, 5, 2, 5, 1], [0, 3, 5, 5, 1], [0, 5, 2, 2, 1], [0, 5, 2, 3, 1], [0, 5, 4, 2, 1], [0, 3, 5, 3, 1], [0, 4, 4, 5, 1], [0, 4, 2, 5, 1], [0, 3, 4, 5, 1], [2, 0, 2, 2, 2], [2, 0, 2, 2, 4], [2, 0, 2, 5, 2], [2, 0, 2, 3, 2], [2, 0, 4, 2, 2], [2, 0, 2, 3, 3], [2, 0, 2, 3, 4], [2, 0, 2, 5, 3], [2, 0, 4, 2, 4], [2, 0, 5, 5, 2], [2, 0, 5, 3, 2], [2, 0, 4, 5, 2], [3, 3, 0, 3, 3], [3, 3, 0, 3, 4], [3, 3, 0, 5, 3], [3, 1, 0, 3, 3], [3, 1, 0, 3, 4], [3, 1, 0, 5, 3], [2, 3, 0, 3, 3], [2, 3, 0, 3, 4], [2, 3, 0, 5, 3], [4, 4, 4, 0, 4], [4, 4, 2, 0, 4], [4, 3, 4, 0, 4], [4, 1, 4, 0, 4], [2, 4, 4, 0, 4], [4, 1, 1, 0, 4], [4, 1, 2, 0, 4], [4, 3, 1, 0, 4], [2, 4, 2, 0, 4], [3, 3, 4, 0, 4], [3, 1, 4, 0, 4], [2, 3, 4, 0, 4], [5, 5, 5, 5, 0], [5, 5, 5, 3, 0], [5, 5, 4, 5, 0], [5, 5, 2, 5, 0], [5, 3, 5, 5, 0], [5, 5, 2, 2, 0], [5, 5, 2, 3, 0], [5, 5, 4, 2, 0], [5, 3, 5, 3, 0], [5, 4, 4, 5, 0], [5, 4, 2, 5, 0], [5, 3, 4, 5, 0], [5, 1, 5, 5, 0], [5, 1, 5, 3, 0], [5, 1, 4, 5, 0], [2, 5, 5, 5, 0], [2, 5, 5, 3, 0], [2, 5, 4, 5, 0], [5, 1, 1, 5, 0], [5, 1, 2, 5, 0], [5, 3, 1, 5, 0], [2, 5, 2, 5, 0], [3, 3, 5, 5, 0], [3, 1, 5, 5, 0], [2, 3, 5, 5, 0], [5, 1, 1, 1, 0], [5, 1, 1, 3, 0], [5, 1, 4, 1, 0], [5, 1, 2, 1, 0], [5, 3, 1, 1, 0], [5, 1, 2, 2, 0], [5, 1, 2, 3, 0], [5, 1, 4, 2, 0], [5, 3, 1, 3, 0], [5, 4, 4, 1, 0], [5, 4, 2, 1, 0], [5, 3, 4, 1, 0], [2, 5, 2, 2, 0], [2, 5, 2, 3, 0], [2, 5, 4, 2, 0], [3, 3, 5, 3, 0], [3, 1, 5, 3, 0], [2, 3, 5, 3, 0], [4, 4, 4, 5, 0], [4, 4, 2, 5, 0], [4, 3, 4, 5, 0], [4, 1, 4, 5, 0], [2, 4, 4, 5, 0], [4, 1, 1, 5, 0], [4, 1, 2, 5, 0], [4, 3, 1, 5, 0], [2, 4, 2, 5, 0], [3, 3, 4, 5, 0], [3, 1, 4, 5, 0], [2, 3, 4, 5, 0]]
def tF6 : List (List Nat) := [[0, 1, 1, 1, 1, 1], [0, 1, 1, 1, 1, 5], [0, 1, 1, 1, 6, 1], [0, 1, 1, 1, 4, 1], [0, 1, 1, 5, 1, 1], [0, 1, 1, 1, 4, 4], [0, 1, 1, 1, 4, 5], [0, 1, 1, 1, 6, 4], [0, 1, 1, 5, 1, 5], [0, 1, 1, 6, 6, 1], [0, 1, 1, 6, 4, 1], [0, 1, 1, 5, 6, 1], [0, 1, 1, 3, 1, 1], [0, 1, 1, 3, 1, 5], [0, 1, 1, 3, 6, 1], [0, 1, 4, 1, 1, 1], [0, 1, 4, 1, 1, 5], [0, 1, 4, 1, 6, 1], [0, 1, 1, 3, 3, 1], [0, 1, 1, 3, 4, 1], [0, 1, 1, 5, 3, 1], [0, 1, 4, 1, 4, 1], [0, 1, 5, 5, 1, 1], [0, 1, 5, 3, 1, 1], [0, 1, 4, 5, 1, 1], [0, 1, 1, 3, 3, 3], [0, 1, 1, 3, 3, 5], [0, 1, 1, 3, 6, 3], [0, 1, 1, 3, 4, 3], [0, 1, 1, 5, 3, 3], [0, 1, 1, 3, 4, 4], [0, 1, 1, 3, 4, 5], [0, 1, 1, 3, 6, 4], [0, 1, 1, 5, 3, 5], [0, 1, 1, 6, 6, 3], [0, 1, 1, 6, 4, 3], [0, 1, 1, 5, 6, 3], [0, 1, 4, 1, 4, 4], [0, 1, 4, 1, 4, 5], [0, 1, 4, 1, 6, 4], [0, 1, 5, 5, 1, 5], [0, 1, 5, 3, 1, 5], [0, 1, 4, 5, 1, 5], [0, 1, 6, 6, 6, 1], [0, 1, 6, 6, 4, 1], [0, 1, 6, 5, 6, 1], [0, 1, 6, 3, 6, 1], [0, 1, 4, 6, 6, 1], [0, 1, 6, 3, 3, 1], [0, 1, 6, 3, 4, 1], [0, 1, 6, 5, 3, 1], [0, 1, 4, 6, 4, 1], [0, 1, 5, 5, 6, 1], [0, 1, 5, 3, 6, 1], [0, 1, 4, 5, 6, 1], [0, 1, 2, 1, 1, 1], [0, 1, 2, 1, 1, 5], [0, 1, 2, 1, 6, 1], [0, 1, 2, 1, 4, 1], [0, 1, 2, 5, 1, 1], [0, 1, 2, 1, 4, 4], [0, 1, 2, 1, 4, 5], [0, 1, 2, 1, 6, 4], [0, 1, 2, 5, 1, 5], [0, 1, 2, 6, 6, 1], [0, 1, 2, 6, 4, 1], [0, 1, 2, 5, 6, 1], [0, 3, 1, 1, 1, 1], [0, 3, 1, 1, 1, 5], [0, 3, 1, 1, 6, 1], [0, 3, 1, 1, 4, 1], [0, 3, 1, 5, 1, 1], [0, 3, 1, 1, 4, 4], [0, 3, 1, 1, 4, 5], [0, 3, 1, 1, 6, 4], [0, 3, 1, 5, 1, 5], [0, 3, 1, 6, 6, 1], [0, 3, 1, 6, 4, 1], [0, 3, 1, 5, 6, 1], [0, 1, 2, 2, 1, 1], [0, 1, 2, 2, 1, 5], [0, 1, 2, 2, 6, 1], [0, 1, 2, 3, 1, 1], [0, 1, 2, 3, 1, 5], [0, 1, 2, 3, 6, 1], [0, 1, 4, 2, 1, 1], [0, 1, 4, 2, 1, 5], [0, 1, 4, 2, 6, 1], [0, 3, 1, 3, 1, 1], [0, 3, 1, 3, 1, 5], [0, 3, 1, 3, 6, 1], [0, 4, 4, 1, 1, 1], [0, 4, 4, 1, 1, 5], [0, 4, 4, 1, 6, 1], [0, 4, 2, 1, 1, 1], [0, 4, 2, 1, 1, 5], [0, 4, 2, 1, 6, 1], [0, 3, 4, 1, 1, 1], [0, 3, 4, 1, 1, 5], [0, 3, 4, 1, 6, 1], [0, 1, 2, 2, 2, 1], [0, 1, 2, 2, 4, 1], [0, 1, 2, 5, 2, 1], [0, 1, 2, 3, 2, 1], [0, 1, 4, 2, 2, 1], [0, 1, 2, 3, 3, 1], [0, 1, 2, 3, 4, 1], [0, 1, 2, 5, 3, 1], [0, 1, 4, 2, 4, 1], [0, 1, 5, 5, 2, 1], [0, 1, 5, 3, 2, 1], [0, 1, 4, 5, 2, 1], [0, 3, 1, 3, 3, 1], [0, 3, 1, 3, 4, 1], [0, 3, 1, 5, 3, 1], [0, 4, 4, 1, 4, 1], [0, 4, 2, 1, 4, 1], [0, 3, 4, 1, 4, 1], [0, 5, 5, 5, 1, 1], [0, 5, 5, 3, 1, 1], [0, 5, 4, 5, 1, 1], [0, 5, 2, 5, 1, 1], [0, 3, 5, 5, 1, 1], [0, 5, 2, 2, 1, 1], [0, 5, 2, 3, 1, 1], [0, 5, 4, 2, 1, 1], [0, 3, 5, 3, 1, 1], [0, 4, 4, 5, 1, 1], [0, 4, 2, 5, 1, 1], [0, 3, 4, 5, 1, 1], [0, 1, 2, 2, 2, 2], [0, 1, 2, 2, 2, 5], [0, 1, 2, 2, 6, 2], [0, 1, 2, 2, 4, 2], [0, 1, 2, 5, 2, 2], [0, 1, 2, 2, 4, 4], [0, 1, 2, 2, 4, 5], [0, 1, 2, 2, 6, 4], [0, 1, 2, 5, 2, 5], [0, 1, 2, 6, 6, 2], [0, 1, 2, 6, 4, 2], [0, 1, 2, 5, 6, 2], [0, 1, 2, 3, 2, 2], [0, 1, 2, 3, 2, 5], [0, 1, 2, 3, 6, 2], [0, 1, 4, 2, 2, 2], [0, 1, 4, 2, 2, 5], [0, 1, 4, 2, 6, 2], [0, 1, 2, 3, 3, 2], [0, 1, 2, 3, 4, 2], [0, 1, 2, 5, 3, 2], [0, 1, 4, 2, 4, 2], [0, 1, 5, 5, 2, 2], [0, 1, 5, 3, 2, 2], [0, 1, 4, 5, 2, 2], [0, 1, 2, 3, 3, 3], [0, 1, 2, 3, 3, 5], [0, 1, 2, 3, 6, 3], [0, 1, 2, 3, 4, 3], [0, 1, 2, 5, 3, 3], [0, 1, 2, 3, 4, 4], [0, 1, 2, 3, 4, 5], [0, 1, 2, 3, 6, 4], [0, 1, 2, 5, 3, 5], [0, 1, 2, 6, 6, 3], [0, 1, 2, 6, 4, 3], [0, 1, 2, 5, 6, 3], [0, 1, 4, 2, 4, 4], [0, 1, 4, 2, 4, 5], [0, 1, 4, 2, 6, 4], [0, 1, 5, 5, 2, 5], [0, 1, 5, 3, 2, 5], [0, 1, 4, 5, 2, 5], [0, 1, 6, 6, 6, 2], [0, 1, 6, 6, 4, 2], [0, 1, 6, 5, 6, 2], [0, 1, 6, 3, 6, 2], [0, 1, 4, 6, 6, 2], [0, 1, 6, 3, 3, 2], [0, 1, 6, 3, 4, 2], [0, 1, 6, 5, 3, 2], [0, 1, 4, 6, 4, 2], [0, 1, 5, 5, 6, 2], [0, 1, 5, 3, 6, 2], [0, 1, 4, 5, 6, 2], [0, 3, 1, 3, 3, 3], [0, 3, 1, 3, 3, 5], [0, 3, 1, 3, 6, 3], [0, 3, 1, 3, 4, 3], [0, 3, 1, 5, 3, 3], [0, 3, 1, 3, 4, 4], [0, 3, 1, 3, 4, 5], [0, 3, 1, 3, 6, 4], [0, 3, 1, 5, 3, 5], [0, 3, 1, 6, 6, 3], [0, 3, 1, 6, 4, 3], [0, 3, 1, 5, 6, 3], [0, 4, 4, 1, 4, 4], [0, 4, 4, 1, 4, 5], [0, 4, 4, 1, 6, 4], [0, 4, 2, 1, 4, 4], [0, 4, 2, 1, 4, 5], [0, 4, 2, 1, 6, 4], [0, 3, 4, 1, 4, 4], [0, 3, 4, 1, 4, 5], [0, 3, 4, 1, 6, 4], [0, 5, 5, 5, 1, 5], [0, 5, 5, 3, 1, 5], [0, 5, 4, 5, 1, 5], [0, 5, 2, 5, 1, 5], [0, 3, 5, 5, 1, 5], [0, 5, 2, 2, 1, 5], [0, 5, 2, 3, 1, 5], [0, 5, 4, 2, 1, 5], [0, 3, 5, 3, 1, 5], [0, 4, 4, 5, 1, 5], [0, 4, 2, 5, 1, 5], [0, 3, 4, 5, 1, 5], [0, 6, 6, 6, 6, 1], [0, 6, 6, 6, 4, 1], [0, 6, 6, 5, 6, 1], [0, 6, 6, 3, 6, 1], [0, 6, 4, 6, 6, 1], [0, 6, 6, 3, 3, 1], [0, 6, 6, 3, 4, 1], [0, 6, 6, 5, 3, 1], [0, 6, 4, 6, 4, 1], [0, 6, 5, 5, 6, 1], [0, 6, 5, 3, 6, 1], [0, 6, 4, 5, 6, 1], [0, 6, 2, 6, 6, 1], [0, 6, 2, 6, 4, 1], [0, 6, 2, 5, 6, 1], [0, 3, 6, 6, 6, 1], [0, 3, 6, 6, 4, 1], [0, 3, 6, 5, 6, 1], [0, 6, 2, 2, 6, 1], [0, 6, 2, 3, 6, 1], [0, 6, 4, 2, 6, 1], [0, 3, 6, 3, 6, 1], [0, 4, 4, 6, 6, 1], [0, 4, 2, 6, 6, 1], [0, 3, 4, 6, 6, 1], [0, 6, 2, 2, 2, 1], [0, 6, 2, 2, 4, 1], [0, 6, 2, 5, 2, 1], [0, 6, 2, 3, 2, 1], [0, 6, 4, 2, 2, 1], [0, 6, 2, 3, 3, 1], [0, 6, 2, 3, 4, 1], [0, 6, 2, 5, 3, 1], [0, 6, 4, 2, 4, 1], [0, 6, 5, 5, 2, 1], [0, 6, 5, 3, 2, 1], [0, 6, 4, 5, 2, 1], [0, 3, 6, 3, 3, 1], [0, 3, 6, 3, 4, 1], [0, 3, 6, 5, 3, 1], [0, 4, 4, 6, 4, 1], [0, 4, 2, 6, 4, 1], [0, 3, 4, 6, 4, 1], [0, 5, 5, 5, 6, 1], [0, 5, 5, 3, 6, 1], [0, 5, 4, 5, 6, 1], [0, 5, 2, 5, 6, 1], [0, 3, 5, 5, 6, 1], [0, 5, 2, 2, 6, 1], [0, 5, 2, 3, 6, 1], [0, 5, 4, 2, 6, 1], [0, 3, 5, 3, 6, 1], [0, 4, 4, 5, 6, 1], [0, 4, 2, 5, 6, 1], [0, 3, 4, 5, 6, 1], [2, 0, 2, 2, 2, 2], [2, 0, 2, 2, 2, 5], [2, 0, 2, 2, 6, 2], [2, 0, 2, 2, 4, 2], [2, 0, 2, 5, 2, 2], [2, 0, 2, 2, 4, 4], [2, 0, 2, 2, 4, 5], [2, 0, 2, 2, 6, 4], [2, 0, 2, 5, 2, 5], [2, 0, 2, 6, 6, 2], [2, 0, 2, 6, 4, 2], [2, 0, 2, 5, 6, 2], [2, 0, 2, 3, 2, 2], [2, 0, 2, 3, 2, 5], [2, 0, 2, 3, 6, 2], [2, 0, 4, 2, 2, 2], [2, 0, 4, 2, 2, 5], [2, 0, 4, 2, 6, 2], [2, 0, 2, 3, 3, 2], [2, 0, 2, 3, 4, 2], [2, 0, 2, 5, 3, 2], [2, 0, 4, 2, 4, 2], [2, 0, 5, 5, 2, 2], [2, 0, 5, 3, 2, 2], [2, 0, 4, 5, 2, 2], [2, 0, 2, 3, 3, 3], [2, 0, 2, 3, 3, 5], [2, 0, 2, 3, 6, 3], [2, 0, 2, 3, 4, 3], [2, 0, 2, 5, 3, 3], [2, 0, 2, 3, 4, 4], [2, 0, 2, 3, 4, 5], [2, 0, 2, 3, 6, 4], [2, 0, 2, 5, 3, 5], [2, 0, 2, 6, 6, 3], [2, 0, 2, 6, 4, 3], [2, 0, 2, 5, 6, 3], [2, 0, 4, 2, 4, 4], [2, 0, 4, 2, 4, 5], [2, 0, 4, 2, 6, 4], [2, 0, 5, 5, 2, 5], [2, 0, 5, 3, 2, 5], [2, 0, 4, 5, 2, 5], [2, 0, 6, 6, 6, 2], [2, 0, 6, 6, 4, 2], [2, 0, 6, 5, 6, 2], [2, 0, 6, 3, 6, 2], [2, 0, 4, 6, 6, 2], [2, 0, 6, 3, 3, 2], [2, 0, 6, 3, 4, 2], [2, 0, 6, 5, 3, 2], [2, 0, 4, 6, 4, 2], [2, 0, 5, 5, 6, 2], [2, 0, 5, 3, 6, 2], [2, 0, 4, 5, 6, 2], [3, 3, 0, 3, 3, 3], [3, 3, 0, 3, 3, 5], [3, 3, 0, 3, 6, 3], [3, 3, 0, 3, 4, 3], [3, 3, 0, 5, 3, 3], [3, 3, 0, 3, 4, 4], [3, 3, 0, 3, 4, 5], [3, 3, 0, 3, 6, 4], [3, 3, 0, 5, 3, 5], [3, 3, 0, 6, 6, 3], [3, 3, 0, 6, 4, 3], [3, 3, 0, 5, 6, 3], [3, 1, 0, 3, 3, 3], [3, 1, 0, 3, 3, 5], [3, 1, 0, 3, 6, 3], [3, 1, 0, 3, 4, 3], [3, 1, 0, 5, 3, 3], [3, 1, 0, 3, 4, 4], [3, 1, 0, 3, 4, 5], [3, 1, 0, 3, 6, 4], [3, 1, 0, 5, 3, 5], [3, 1, 0, 6, 6, 3], [3, 1, 0, 6, 4, 3], [3, 1, 0, 5, 6, 3], [2, 3, 0, 3, 3, 3], [2, 3, 0, 3, 3, 5], [2, 3, 0, 3, 6, 3], [2, 3, 0, 3, 4, 3], [2, 3, 0, 5, 3, 3], [2, 3, 0, 3, 4, 4], [2, 3, 0, 3, 4, 5], [2, 3, 0, 3, 6, 4], [2, 3, 0, 5, 3, 5], [2, 3, 0, 6, 6, 3], [2, 3, 0, 6, 4, 3], [2, 3, 0, 5, 6, 3], [4, 4, 4, 0, 4, 4], [4, 4, 4, 0, 4, 5], [4, 4, 4, 0, 6, 4], [4, 4, 2, 0, 4, 4], [4, 4, 2, 0, 4, 5], [4, 4, 2, 0, 6, 4], [4, 3, 4, 0, 4, 4], [4, 3, 4, 0, 4, 5], [4, 3, 4, 0, 6, 4], [4, 1, 4, 0, 4, 4], [4, 1, 4, 0, 4, 5], [4, 1, 4, 0, 6, 4], [2, 4, 4, 0, 4, 4], [2, 4, 4, 0, 4, 5], [2, 4, 4, 0, 6, 4], [4, 1, 1, 0, 4, 4], [4, 1, 1, 0, 4, 5], [4, 1, 1, 0, 6, 4], [4, 1, 2, 0, 4, 4], [4, 1, 2, 0, 4, 5], [4, 1, 2, 0, 6, 4], [4, 3, 1, 0, 4, 4], [4, 3, 1, 0, 4, 5], [4, 3, 1, 0, 6, 4], [2, 4, 2, 0, 4, 4], [2, 4, 2, 0, 4, 5], [2, 4, 2, 0, 6, 4], [3, 3, 4, 0, 4, 4], [3, 3, 4, 0, 4, 5], [3, 3, 4, 0, 6, 4], [3, 1, 4, 0, 4, 4], [3, 1, 4, 0, 4, 5], [3, 1, 4, 0, 6, 4], [2, 3, 4, 0, 4, 4], [2, 3, 4, 0, 4, 5], [2, 3, 4, 0, 6, 4], [5, 5, 5, 5, 0, 5], [5, 5, 5, 3, 0, 5], [5, 5, 4, 5, 0, 5], [5, 5, 2, 5, 0, 5], [5, 3, 5, 5, 0, 5], [5, 5, 2, 2, 0, 5], [5, 5, 2, 3, 0, 5], [5, 5, 4, 2, 0, 5], [5, 3, 5, 3, 0, 5], [5, 4, 4, 5, 0, 5], [5, 4, 2, 5, 0, 5], [5, 3, 4, 5, 0, 5], [5, 1, 5, 5, 0, 5], [5, 1, 5, 3, 0, 5], [5, 1, 4, 5, 0, 5], [2, 5, 5, 5, 0, 5], [2, 5, 5, 3, 0, 5], [2, 5, 4, 5, 0, 5], [5, 1, 1, 5, 0, 5], [5, 1, 2, 5, 0, 5], [5, 3, 1, 5, 0, 5], [2, 5, 2, 5, 0, 5], [3, 3, 5, 5, 0, 5], [3, 1, 5, 5, 0, 5], [2, 3, 5, 5, 0, 5], [5, 1, 1, 1, 0, 5], [5, 1, 1, 3, 0, 5], [5, 1, 4, 1, 0, 5], [5, 1, 2, 1, 0, 5], [5, 3, 1, 1, 0, 5], [5, 1, 2, 2, 0, 5], [5, 1, 2, 3, 0, 5], [5, 1, 4, 2, 0, 5], [5, 3, 1, 3, 0, 5], [5, 4, 4, 1, 0, 5], [5, 4, 2, 1, 0, 5], [5, 3, 4, 1, 0, 5], [2, 5, 2, 2, 0, 5], [2, 5, 2, 3, 0, 5], [2, 5, 4, 2, 0, 5], [3, 3, 5, 3, 0, 5], [3, 1, 5, 3, 0, 5], [2, 3, 5, 3, 0, 5], [4, 4, 4, 5, 0, 5], [4, 4, 2, 5, 0, 5], [4, 3, 4, 5, 0, 5], [4, 1, 4, 5, 0, 5], [2, 4, 4, 5, 0, 5], [4, 1, 1, 5, 0, 5], [4, 1, 2, 5, 0, 5], [4, 3, 1, 5, 0, 5], [2, 4, 2, 5, 0, 5], [3, 3, 4, 5, 0, 5], [3, 1, 4, 5, 0, 5], [2, 3, 4, 5, 0, 5], [6, 6, 6, 6, 6, 0], [6, 6, 6, 6, 4, 0], [6, 6, 6, 5, 6, 0], [6, 6, 6, 3, 6, 0], [6, 6, 4, 6, 6, 0], [6, 6, 6, 3, 3, 0], [6, 6, 6, 3, 4, 0], [6, 6, 6, 5, 3, 0], [6, 6, 4, 6, 4, 0], [6, 6, 5, 5, 6, 0], [6, 6, 5, 3, 6, 0], [6, 6, 4, 5, 6, 0], [6, 6, 2, 6, 6, 0], [6, 6, 2, 6, 4, 0], [6, 6, 2, 5, 6, 0], [6, 3, 6, 6, 6, 0], [6, 3, 6, 6, 4, 0], [6, 3, 6, 5, 6, 0], [6, 6, 2, 2, 6, 0], [6, 6, 2, 3, 6, 0], [6, 6, 4, 2, 6, 0], [6, 3, 6, 3, 6, 0], [6, 4, 4, 6, 6, 0], [6, 4, 2, 6, 6, 0], [6, 3, 4, 6, 6, 0], [6, 6, 2, 2, 2, 0], [6, 6, 2, 2, 4, 0], [6, 6, 2, 5, 2, 0], [6, 6, 2, 3, 2, 0], [6, 6, 4, 2, 2, 0], [6, 6, 2, 3, 3, 0], [6, 6, 2, 3, 4, 0], [6, 6, 2, 5, 3, 0], [6, 6, 4, 2, 4, 0], [6, 6, 5, 5, 2, 0], [6, 6, 5, 3, 2, 0], [6, 6, 4, 5, 2, 0], [6, 3, 6, 3, 3, 0], [6, 3, 6, 3, 4, 0], [6, 3, 6, 5, 3, 0], [6, 4, 4, 6, 4, 0], [6, 4, 2, 6, 4, 0], [6, 3, 4, 6, 4, 0], [6, 5, 5, 5, 6, 0], [6, 5, 5, 3, 6, 0], [6, 5, 4, 5, 6, 0], [6, 5, 2, 5, 6, 0], [6, 3, 5, 5, 6, 0], [6, 5, 2, 2, 6, 0], [6, 5, 2, 3, 6, 0], [6, 5, 4, 2, 6, 0], [6, 3, 5, 3, 6, 0], [6, 4, 4, 5, 6, 0], [6, 4, 2, 5, 6, 0], [6, 3, 4, 5, 6, 0], [6, 1, 6, 6, 6, 0], [6, 1, 6, 6, 4, 0], [6, 1, 6, 5, 6, 0], [6, 1, 6, 3, 6, 0], [6, 1, 4, 6, 6, 0], [6, 1, 6, 3, 3, 0], [6, 1, 6, 3, 4, 0], [6, 1, 6, 5, 3, 0], [6, 1, 4, 6, 4, 0], [6, 1, 5, 5, 6, 0], [6, 1, 5, 3, 6, 0], [6, 1, 4, 5, 6, 0], [2, 6, 6, 6, 6, 0], [2, 6, 6, 6, 4, 0], [2, 6, 6, 5, 6, 0], [2, 6, 6, 3, 6, 0], [2, 6, 4, 6, 6, 0], [2, 6, 6, 3, 3, 0], [2, 6, 6, 3, 4, 0], [2, 6, 6, 5, 3, 0], [2, 6, 4, 6, 4, 0], [2, 6, 5, 5, 6, 0], [2, 6, 5, 3, 6, 0], [2, 6, 4, 5, 6, 0], [6, 1, 1, 6, 6, 0], [6, 1, 1, 6, 4, 0], [6, 1, 1, 5, 6, 0], [6, 1, 2, 6, 6, 0], [6, 1, 2, 6, 4, 0], [6, 1, 2, 5, 6, 0], [6, 3, 1, 6, 6, 0], [6, 3, 1, 6, 4, 0], [6, 3, 1, 5, 6, 0], [2, 6, 2, 6, 6, 0], [2, 6, 2, 6, 4, 0], [2, 6, 2, 5, 6, 0], [3, 3, 6, 6, 6, 0], [3, 3, 6, 6, 4, 0], [3, 3, 6, 5, 6, 0], [3, 1, 6, 6, 6, 0], [3, 1, 6, 6, 4, 0], [3, 1, 6, 5, 6, 0], [2, 3, 6, 6, 6, 0], [2, 3, 6, 6, 4, 0], [2, 3, 6, 5, 6, 0], [6, 1, 1, 1, 6, 0], [6, 1, 1, 3, 6, 0], [6, 1, 4, 1, 6, 0], [6, 1, 2, 1, 6, 0], [6, 3, 1, 1, 6, 0], [6, 1, 2, 2, 6, 0], [6, 1, 2, 3, 6, 0], [6, 1, 4, 2, 6, 0], [6, 3, 1, 3, 6, 0], [6, 4, 4, 1, 6, 0], [6, 4, 2, 1, 6, 0], [6, 3, 4, 1, 6, 0], [2, 6, 2, 2, 6, 0], [2, 6, 2, 3, 6, 0], [2, 6, 4, 2, 6, 0], [3, 3, 6, 3, 6, 0], [3, 1, 6, 3, 6, 0], [2, 3, 6, 3, 6, 0], [4, 4, 4, 6, 6, 0], [4, 4, 2, 6, 6, 0], [4, 3, 4, 6, 6, 0], [4, 1, 4, 6, 6, 0], [2, 4, 4, 6, 6, 0], [4, 1, 1, 6, 6, 0], [4, 1, 2, 6, 6, 0], [4, 3, 1, 6, 6, 0], [2, 4, 2, 6, 6, 0], [3, 3, 4, 6, 6, 0], [3, 1, 4, 6, 6, 0], [2, 3, 4, 6, 6, 0], [6, 1, 1, 1, 1, 0], [6, 1, 1, 1, 4, 0], [6, 1, 1, 5, 1, 0], [6, 1, 1, 3, 1, 0], [6, 1, 4, 1, 1, 0], [6, 1, 1, 3, 3, 0], [6, 1, 1, 3, 4, 0], [6, 1, 1, 5, 3, 0], [6, 1, 4, 1, 4, 0], [6, 1, 5, 5, 1, 0], [6, 1, 5, 3, 1, 0], [6, 1, 4, 5, 1, 0], [6, 1, 2, 1, 1, 0], [6, 1, 2, 1, 4, 0], [6, 1, 2, 5, 1, 0], [6, 3, 1, 1, 1, 0], [6, 3, 1, 1, 4, 0], [6, 3, 1, 5, 1, 0], [6, 1, 2, 2, 1, 0], [6, 1, 2, 3, 1, 0], [6, 1, 4, 2, 1, 0], [6, 3, 1, 3, 1, 0], [6, 4, 4, 1, 1, 0], [6, 4, 2, 1, 1, 0], [6, 3, 4, 1, 1, 0], [6, 1, 2, 2, 2, 0], [6, 1, 2, 2, 4, 0], [6, 1, 2, 5, 2, 0], [6, 1, 2, 3, 2, 0], [6, 1, 4, 2, 2, 0], [6, 1, 2, 3, 3, 0], [6, 1, 2, 3, 4, 0], [6, 1, 2, 5, 3, 0], [6, 1, 4, 2, 4, 0], [6, 1, 5, 5, 2, 0], [6, 1, 5, 3, 2, 0], [6, 1, 4, 5, 2, 0], [6, 3, 1, 3, 3, 0], [6, 3, 1, 3, 4, 0], [6, 3, 1, 5, 3, 0], [6, 4, 4, 1, 4, 0], [6, 4, 2, 1, 4, 0], [6, 3, 4, 1, 4, 0], [6, 5, 5, 5, 1, 0], [6, 5, 5, 3, 1, 0], [6, 5, 4, 5, 1, 0], [6, 5, 2, 5, 1, 0], [6, 3, 5, 5, 1, 0], [6, 5, 2, 2, 1, 0], [6, 5, 2, 3, 1, 0], [6, 5, 4, 2, 1, 0], [6, 3, 5, 3, 1, 0], [6, 4, 4, 5, 1, 0], [6, 4, 2, 5, 1, 0], [6, 3, 4, 5, 1, 0], [2, 6, 2, 2, 2, 0], [2, 6, 2, 2, 4, 0], [2, 6, 2, 5, 2, 0], [2, 6, 2, 3, 2, 0], [2, 6, 4, 2, 2, 0], [2, 6, 2, 3, 3, 0], [2, 6, 2, 3, 4, 0], [2, 6, 2, 5, 3, 0], [2, 6, 4, 2, 4, 0], [2, 6, 5, 5, 2, 0], [2, 6, 5, 3, 2, 0], [2, 6, 4, 5, 2, 0], [3, 3, 6, 3, 3, 0], [3, 3, 6, 3, 4, 0], [3, 3, 6, 5, 3, 0], [3, 1, 6, 3, 3, 0], [3, 1, 6, 3, 4, 0], [3, 1, 6, 5, 3, 0], [2, 3, 6, 3, 3, 0], [2, 3, 6, 3, 4, 0], [2, 3, 6, 5, 3, 0], [4, 4, 4, 6, 4, 0], [4, 4, 2, 6, 4, 0], [4, 3, 4, 6, 4, 0], [4, 1, 4, 6, 4, 0], [2, 4, 4, 6, 4, 0], [4, 1, 1, 6, 4, 0], [4, 1, 2, 6, 4, 0], [4, 3, 1, 6, 4, 0], [2, 4, 2, 6, 4, 0], [3, 3, 4, 6, 4, 0], [3, 1, 4, 6, 4, 0], [2, 3, 4, 6, 4, 0], [5, 5, 5, 5, 6, 0], [5, 5, 5, 3, 6, 0], [5, 5, 4, 5, 6, 0], [5, 5, 2, 5, 6, 0], [5, 3, 5, 5, 6, 0], [5, 5, 2, 2, 6, 0], [5, 5, 2, 3, 6, 0], [5, 5, 4, 2, 6, 0], [5, 3, 5, 3, 6, 0], [5, 4, 4, 5, 6, 0], [5, 4, 2, 5, 6, 0], [5, 3, 4, 5, 6, 0], [5, 1, 5, 5, 6, 0], [5, 1, 5, 3, 6, 0], [5, 1, 4, 5, 6, 0], [2, 5, 5, 5, 6, 0], [2, 5, 5, 3, 6, 0], [2, 5, 4, 5, 6, 0], [5, 1, 1, 5, 6, 0], [5, 1, 2, 5, 6, 0], [5, 3, 1, 5, 6, 0], [2, 5, 2, 5, 6, 0], [3, 3, 5, 5, 6, 0], [3, 1, 5, 5, 6, 0], [2, 3, 5, 5, 6, 0], [5, 1, 1, 1, 6, 0], [5, 1, 1, 3, 6, 0], [5, 1, 4, 1, 6, 0], [5, 1, 2, 1, 6, 0], [5, 3, 1, 1, 6, 0], [5, 1, 2, 2, 6, 0], [5, 1, 2, 3, 6, 0], [5, 1, 4, 2, 6, 0], [5, 3, 1, 3, 6, 0], [5, 4, 4, 1, 6, 0], [5, 4, 2, 1, 6, 0], [5, 3, 4, 1, 6, 0], [2, 5, 2, 2, 6, 0], [2, 5, 2, 3, 6, 0], [2, 5, 4, 2, 6, 0], [3, 3, 5, 3, 6, 0], [3, 1, 5, 3, 6, 0], [2, 3, 5, 3, 6, 0], [4, 4, 4, 5, 6, 0], [4, 4, 2, 5, 6, 0], [4, 3, 4, 5, 6, 0], [4, 1, 4, 5, 6, 0], [2, 4, 4, 5, 6, 0], [4, 1, 1, 5, 6, 0], [4, 1, 2, 5, 6, 0], [4, 3, 1, 5, 6, 0], [2, 4, 2, 5, 6, 0], [3, 3, 4, 5, 6, 0], [3, 1, 4, 5, 6, 0], [2, 3, 4, 5, 6, 0]]
def tR0 : List (List Nat) := [[]]
def tR1 : List (List Nat) := [[0]]
def tR2 : List (List Nat) := [[0, 0], [0, 1], [2, 0]]
def tR3 : List (List Nat) := [[0, 0, 0], [0, 0, 2], [0, 3, 0], [0, 1, 0], [2, 0, 0], [0, 1, 1], [0, 1, 2], [0, 3, 1], [2, 0, 2], [3, 3, 0], [3, 1, 0], [2, 3, 0]]
def tR4 : List (List Nat) := [[0, 0, 0, 0], [0, 0, 0, 3], [0, 0, 4, 0], [0, 0, 2, 0], [0, 3, 0, 0], [0, 0, 2, 2], [0, 0, 2, 3], [0, 0, 4, 2], [0, 3, 0, 3], [0, 4, 4, 0], [0, 4, 2, 0], [0, 3, 4, 0], [0, 1, 0, 0], [0, 1, 0, 3], [0, 1, 4, 0], [2, 0, 0, 0], [2, 0, 0, 3], [2, 0, 4, 0], [0, 1, 1, 0], [0, 1, 2, 0], [0, 3, 1, 0], [2, 0, 2, 0], [3, 3, 0, 0], [3, 1, 0, 0], [2, 3, 0, 0], [0, 1, 1, 1], [0, 1, 1, 3], [0, 1, 4, 1], [0, 1, 2, 1], [0, 3, 1, 1], [0, 1, 2, 2], [0, 1, 2, 3], [0, 1, 4, 2], [0, 3, 1, 3], [0, 4, 4, 1], [0, 4, 2, 1], [0, 3, 4, 1], [2, 0, 2, 2], [2, 0, 2, 3], [2, 0, 4, 2], [3, 3, 0, 3], [3, 1, 0, 3], [2, 3, 0, 3], [4, 4, 4, 0], [4, 4, 2, 0], [4, 3, 4, 0], [4, 1, 4, 0], [2, 4, 4, 0], [4, 1, 1, 0], [4, 1, 2, 0], [4, 3, 1, 0], [2, 4, 2, 0], [3, 3, 4, 0], [3, 1, 4, 0], [2, 3, 4, 0]]
def tR5 : List (List Nat) := [[0, 0, 0, 0, 0], [0, 0, 0, 0, 4], [0, 0, 0, 5, 0], [0, 0, 0, 3, 0], [0, 0, 4, 0, 0], [0, 0, 0, 3, 3], [0, 0, 0, 3, 4], [0, 0, 0, 5, 3], [0, 0, 4, 0, 4], [0, 0, 5, 5, 0], [0, 0, 5, 3, 0], [0, 0, 4, 5, 0], [0, 0, 2, 0, 0], [0, 0, 2, 0, 4], [0, 0, 2, 5, 0], [0, 3, 0, 0, 0], [0, 3, 0, 0, 4], [0, 3, 0, 5, 0], [0, 0, 2, 2, 0], [0, 0, 2, 3, 0], [0, 0, 4, 2, 0], [0, 3, 0, 3, 0], [0, 4, 4, 0, 0], [0, 4, 2, 0, 0], [0, 3, 4, 0, 0], [0, 0, 2, 2, 2], [0, 0, 2, 2, 4], [0, 0, 2, 5, 2], [0, 0, 2, 3, 2], [0, 0, 4, 2, 2], [0, 0, 2, 3, 3], [0, 0, 2, 3, 4], [0, 0, 2, 5, 3], [0, 0, 4, 2, 4], [0, 0, 5, 5, 2], [0, 0, 5, 3, 2], [0, 0, 4, 5, 2], [0, 3, 0, 3, 3], [0, 3, 0, 3, 4], [0, 3, 0, 5, 3], [0, 4, 4, 0, 4], [0, 4, 2, 0, 4], [0, 3, 4, 0, 4], [0, 5, 5, 5, 0], [0, 5, 5, 3, 0], [0, 5, 4, 5, 0], [0, 5, 2, 5, 0], [0, 3, 5, 5, 0], [0, 5, 2, 2, 0], [0, 5, 2, 3, 0], [0, 5, 4, 2, 0], [0, 3, 5, 3, 0], [0, 4, 4, 5, 0], [0, 4, 2, 5, 0], [0, 3, 4, 5, 0], [0, 1, 0, 0, 0], [0, 1, 0, 0, 4], [0, 1, 0, 5, 0], [0, 1, 0, 3, 0], [0, 1, 4, 0, 0], [0, 1, 0, 3, 3], [0, 1, 0, 3, 4], [0, 1, 0, 5, 3], [0, 1, 4, 0, 4], [0, 1, 5, 5, 0], [0, 1, 5, 3, 0], [0, 1, 4, 5, 0], [2, 0, 0, 0, 0], [2, 0, 0, 0, 4], [2, 0, 0, 5, 0], [2, 0, 0, 3, 0], [2, 0, 4, 0, 0], [2, 0, 0, 3, 3], [2, 0, 0, 3, 4], [2, 0, 0, 5, 3], [2, 0, 4, 0, 4], [2, 0, 5, 5, 0], [2, 0, 5, 3, 0], [2, 0, 4, 5, 0], [0, 1, 1, 0, 0], [0, 1, 1, 0, 4], [0, 1, 1, 5, 0], [0, 1, 2, 0, 0], [0, 1, 2, 0, 4], [0, 1, 2, 5, 0], [0, 3, 1, 0, 0], [0, 3, 1, 0, 4], [0, 3, 1, 5, 0], [2, 0, 2, 0, 0], [2, 0, 2, 0, 4], [2, 0, 2, 5, 0], [3, 3, 0, 0, 0], [3, 3, 0, 0, 4], [3, 3, 0, 5, 0], [3, 1, 0, 0, 0], [3, 1, 0, 0, 4], [3, 1, 0, 5, 0], [2, 3, 0, 0, 0], [2, 3, 0, 0, 4], [2, 3, 0, 5, 0], [0, 1, 1, 1, 0], [0, 1, 1, 3, 0], [0, 1, 4, 1, 0], [0, 1, 2, 1, 0], [0, 3, 1, 1, 0], [0, 1, 2, 2, 0], [0, 1, 2, 3, 0], [0, 1, 4, 2, 0], [0, 3, 1, 3, 0], [0, 4, 4, 1, 0], [0, 4, 2, 1, 0], [0, 3, 4, 1, 0], [2, 0, 2, 2, 0], [2, 0, 2, 3, 0], [2, 0, 4, 2, 0], [3, 3, 0, 3, 0], [3, 1, 0, 3, 0], [2, 3, 0, 3, 0], [4, 4, 4, 0, 0], [4, 4, 2, 0, 0], [4, 3, 4, 0, 0], [4, 1, 4, 0, 0], [2, 4, 4, 0, 0], [4, 1, 1, 0, 0], [4, 1, 2, 0, 0], [4, 3, 1, 0, 0], [2, 4, 2, 0, 0], [3, 3, 4, 0, 0], [3, 1, 4, 0, 0], [2, 3, 4, 0, 0], [0, 1, 1, 1, 1], [0, 1, 1, 1, 4], [0, 1, 1, 5, 1], [0, 1, 1, 3, 1], [0, 1, 4, 1, 1], [0, 1, 1, 3, 3], [0, 1, 1, 3, 4], [0, 1, 1, 5, 3], [0, 1, 4, 1, 4], [0, 1, 5, 5, 1], [0, 1, 5, 3, 1], [0, 1, 4, 5, 1], [0, 1, 2, 1, 1], [0, 1, 2, 1, 4], [0, 1, 2, 5, 1], [0, 3, 1, 1, 1], [0, 3, 1, 1, 4], [0, 3, 1, 5, 1], [0, 1, 2, 2, 1], [0, 1, 2, 3, 1], [0, 1, 4, 2, 1], [0, 3, 1, 3, 1], [0, 4, 4, 1, 1], [0, 4, 2, 1, 1], [0, 3, 4, 1, 1], [0, 1, 2, 2, 2], [0, 1, 2, 2, 4], [0, 1, 2, 5, 2], [0, 1, 2, 3, 2], [0, 1, 4, 2, 2], [0, 1, 2, 3, 3], [0, 1, 2, 3, 4], [0, 1, 2, 5, 3], [0, 1, 4, 2, 4], [0, 1, 5, 5, 2], [0, 1, 5, 3, 2], [0, 1, 4, 5, 2], [0, 3, 1, 3, 3], [0, 3, 1, 3, 4], [0, 3, 1, 5, 3], [0, 4, 4, 1, 4], [0, 4, 2, 1, 4], [0, 3, 4, 1, 4], [0, 5, 5, 5, 1], [0, 5, 5, 3, 1], [0, 5, 4, 5, 1], [0, 5, 2, 5, 1], [0, 3, 5, 5, 1], [0, 5, 2, 2, 1], [0, 5, 2, 3, 1], [0, 5, 4, 2, 1], [0, 3, 5, 3, 1], [0, 4, 4, 5, 1], [0, 4, 2, 5, 1], [0, 3, 4, 5, 1], [2, 0, 2, 2, 2], [2, 0, 2, 2, 4], [2, 0, 2, 5, 2], [2, 0, 2, 3, 2], [2, 0, 4, 2, 2], [2, 0, 2, 3, 3], [2, 0, 2, 3, 4], [2, 0, 2, 5, 3], [2, 0, 4, 2, 4], [2, 0, 5, 5, 2], [2, 0, 5, 3, 2], [2, 0, 4, 5, 2], [3, 3, 0, 3, 3], [3, 3, 0, 3, 4], [3, 3, 0, 5, 3], [3, 1, 0, 3, 3], [3, 1, 0, 3, 4], [3, 1, 0, 5, 3], [2, 3, 0, 3, 3], [2, 3, 0, 3, 4], [2, 3, 0, 5, 3], [4, 4, 4, 0, 4], [4, 4, 2, 0, 4], [4, 3, 4, 0, 4], [4, 1, 4, 0, 4], [2, 4, 4, 0, 4], [4, 1, 1, 0, 4], [4, 1, 2, 0, 4], [4, 3, 1, 0, 4], [2, 4, 2, 0, 4], [3, 3, 4, 0, 4], [3, 1, 4, 0, 4], [2, 3, 4, 0, 4], [5, 5, 5, 5, 0], [5, 5, 5, 3, 0], [5, 5, 4, 5, 0], [5, 5, 2, 5, 0], [5, 3, 5, 5, 0], [5, 5, 2, 2, 0], [5, 5, 2, 3, 0], [5, 5, 4, 2, 0], [5, 3, 5, 3, 0], [5, 4, 4, 5, 0], [5, 4, 2, 5, 0], [5, 3, 4, 5, 0], [5, 1, 5, 5, 0], [5, 1, 5, 3, 0], [5, 1, 4, 5, 0], [2, 5, 5, 5, 0], [2, 5, 5, 3, 0], [2, 5, 4, 5, 0], [5, 1, 1, 5, 0], [5, 1, 2, 5, 0], [5, 3, 1, 5, 0], [2, 5, 2, 5, 0], [3, 3, 5, 5, 0], [3, 1, 5, 5, 0], [2, 3, 5, 5, 0], [5, 1, 1, 1, 0], [5, 1, 1, 3, 0], [5, 1, 4, 1, 0], [5, 1, 2, 1, 0], [5, 3, 1, 1, 0], [5, 1, 2, 2, 0], [5, 1, 2, 3, 0], [5, 1, 4, 2, 0], [5, 3, 1, 3, 0], [5, 4, 4, 1, 0], [5, 4, 2, 1, 0], [5, 3, 4, 1, 0], [2, 5, 2, 2, 0], [2, 5, 2, 3, 0], [2, 5, 4, 2, 0], [3, 3, 5, 3, 0], [3, 1, 5, 3, 0], [2, 3, 5, 3, 0], [4, 4, 4, 5, 0], [4, 4, 2, 5, 0], [4, 3, 4, 5, 0], [4, 1, 4, 5, 0], [2, 4, 4, 5, 0], [4, 1, 1, 5, 0], [4, 1, 2, 5, 0], [4, 3, 1, 5, 0], [2, 4, 2, 5, 0], [3, 3, 4, 5, 0], [3, 1, 4, 5, 0], [2, 3, 4, 5, 0]]
def tF : Nat → List (List Nat)
 | 1 => tF1 | 2 => tF2 | 3 => tF3 | 4 => tF4 | 5 => tF5 | 6 => tF6 | _ => []
def tR : Nat → List (List Nat)
 | 0 => tR0 | 1 => tR1 | 2 => tR2 | 3 => tR3 | 4 => tR4 | 5 => tR5 | _ => []
def plF (n : Nat) : List (List Nat) := (List.range n).flatMap fun left => (tR left).flatMap fun one => (tR (n - 1 - left)).map fun other => joinN one other 1 (left + 1)
def plR (n : Nat) : List (List Nat) := (List.range n).flatMap fun j => (tF (j + 1)).flatMap fun one => (tR (n - (j + 1))).map fun other => joinN one other 0 0
theorem tF_step : ∀ n, n ≤ 6 → plF n = tF n := by
 have h : (List.range 7).all (fun n => decide (plF n = tF n)) = true := by decide +kernel
 intro n hn
 have := List.all_eq_true.1 h n (List.mem_range.2 (by omega))
 simpa using this
theorem tR_step : ∀ n, 1 ≤ n → n ≤ 5 → plR n = tR n := by
 have h : (List.range 5).all (fun n => decide (plR (n + 1) = tR (n + 1))) = true := by decide +kernel
 intro n h1 hn
 have := List.all_eq_true.1 h (n - 1) (List.mem_range.2 (by omega))
 rw [show n - 1 + 1 = n by omega] at this
 simpa using this
theorem t_sizes : ∀ n, n ≤ 6 → (tF n).length ≤ 1000 ∧ (tR n).length ≤ 1000 ∧ (∀ x, x ∈ tF n → x.length = n ∧ ∀ y, y ∈ x → y ≤ 6) ∧ ∀ x, x ∈ tR n → x.length = n ∧ ∀ y, y ∈ x → y ≤ 6 := by
 have h : (List.range 7).all (fun n => Nat.ble (tF n).length 1000 && Nat.ble (tR n).length 1000 && (tF n).all (fun x => Nat.beq x.length n && x.all (fun y => Nat.ble y 6)) && (tR n).all (fun x => Nat.beq x.length n && x.all (fun y => Nat.ble y 6))) = true := by decide +kernel
 intro n hn
 have := List.all_eq_true.1 h n (List.mem_range.2 (by omega))
 simp only [Bool.and_eq_true, Nat.ble_eq, List.all_eq_true, Nat.beq_eq] at this
 exact ⟨this.1.1.1, this.1.1.2, this.1.2, this.2⟩
/-! ### The place, reckoned -/
def cF : Nat → Nat
 | 1 => 1 | 2 => 2 | 3 => 7 | 4 => 30 | 5 => 143 | 6 => 728 | _ => 0
def cR : Nat → Nat
 | 0 => 1 | 1 => 1 | 2 => 3 | 3 => 12 | 4 => 55 | 5 => 273 | 6 => 1428 | _ => 0
def fstN (h : List Nat) (head : Nat) : Nat → Nat → Nat
 | 0, a => a
 | f + 1, a => if Nat.beq (hN h a) head then a else fstN h head f (a + 1)
def endN (h : List Nat) (first : Nat) : Nat → Nat → Nat
 | 0, e => e
 | f + 1, e => if undN h 8 (e + 1) first then endN h first f (e + 1) else e
def plSumR (lo hi : Nat) : Nat → Nat → Nat
 | 0, _ => 0
 | c + 1, k => cF (k - lo + 1) * cR (hi - k) + plSumR lo hi c (k + 1)
def plSumT (lo hi : Nat) : Nat → Nat → Nat
 | 0, _ => 0
 | c + 1, k => cR (k - lo) * cR (hi - k) + plSumT lo hi c (k + 1)
mutual
def rkRow : Nat → List Nat → Nat → Nat → Nat → Option Nat
 | 0, _, _, _, _ => none
 | f + 1, h, lo, hi, head => if hi < lo then some 0 else
  if Nat.beq (hN h (fstN h head (hi - lo) lo)) head then
   (rkTree f h lo (endN h (fstN h head (hi - lo) lo) (hi - lo) lo) (fstN h head (hi - lo) lo)).bind fun t =>
    (rkRow f h (endN h (fstN h head (hi - lo) lo) (hi - lo) lo + 1) hi head).bind fun u =>
     if plSumR lo hi (endN h (fstN h head (hi - lo) lo) (hi - lo) lo - lo) lo + t * cR (hi - endN h (fstN h head (hi - lo) lo) (hi - lo) lo) + u ≤ 100000 then
      some (plSumR lo hi (endN h (fstN h head (hi - lo) lo) (hi - lo) lo - lo) lo + t * cR (hi - endN h (fstN h head (hi - lo) lo) (hi - lo) lo) + u) else none
  else none
def rkTree : Nat → List Nat → Nat → Nat → Nat → Option Nat
 | 0, _, _, _, _ => none
 | f + 1, h, lo, hi, root => if lo ≤ root ∧ root ≤ hi then
   (rkRow f h lo (root - 1) root).bind fun t => (rkRow f h (root + 1) hi root).bind fun u =>
    if plSumT lo hi (root - lo) lo + t * cR (hi - root) + u ≤ 100000 then some (plSumT lo hi (root - lo) lo + t * cR (hi - root) + u) else none
  else none
end
/-- The word without a head. -/
def rootN (h : List Nat) : Nat := fstN h 0 (h.length - 1) 1
def rankN (h : List Nat) : Option Nat := rkTree 16 h 1 h.length (rootN h)
set_option maxRecDepth 100000 in
theorem rank_all : ∀ n, n ≤ 6 → (tF n).map rankN = (List.range (tF n).length).map some := by
 have h : (List.range 7).all (fun n => decide ((tF n).map rankN = (List.range (tF n).length).map some)) = true := by decide +kernel
 intro n hn
 have := List.all_eq_true.1 h n (List.mem_range.2 (by omega))
 simpa using this
/-! ### All flat trees are in the table -/
def ordN (a b : Nat) (f : Nat → Nat → Bool) : Bool := cond (Nat.ble a b) (f a b) (f b a)
def ok1 (k x i v : Nat) : Bool :=
 cond (Nat.beq v 0) (!(Nat.beq x 0) && Nat.ble i x) <| cond (Nat.beq x 0) (!(Nat.blt k v)) <| ordN i v fun a b => ordN k x fun c d => !(Nat.blt a c && Nat.blt c b && Nat.blt b d) && !(Nat.blt c a && Nat.blt a d && Nat.blt d b) && !(Nat.beq a c && Nat.beq b d)
def okAll (k x : Nat) : Nat → List Nat → Bool
 | _, [] => true
 | i, v :: r => ok1 k x i v && okAll k x (i + 1) r
def okx (p : List Nat) (x : Nat) : Bool := !(Nat.beq x (p.length + 1)) && okAll (p.length + 1) x 1 p
def cand (n : Nat) : Nat → List (List Nat)
 | 0 => [[]]
 | k + 1 => (cand n k).flatMap fun p => ((List.range (n + 1)).filter (okx p)).map fun x => p ++ [x]
def treeN (h : List Nat) : Bool := (List.range h.length).all fun i => undN h (h.length + 1) (i + 1) 0
def memN (h : List Nat) : Bool := match rankN h with
 | some r => decide ((tF h.length)[r]? = some h)
 | none => false
set_option maxRecDepth 100000 in
theorem cand_all : ∀ n, 1 ≤ n → n ≤ 6 → ∀ h, h ∈ cand n n → treeN h = true → memN h = true := by
 have h : (List.range 6).all (fun n => (cand (n + 1) (n + 1)).all fun h => !(treeN h) || memN h) = true := by decide +kernel
 intro n h1 hn h' hh ht
 have := List.all_eq_true.1 h (n - 1) (List.mem_range.2 (by omega))
 rw [show n - 1 + 1 = n by omega] at this
 have := List.all_eq_true.1 this h' hh
 simpa [ht] using this
theorem okAll_of {k x : Nat} : ∀ (p : List Nat) (i : Nat), (∀ j, j < p.length → ok1 k x (i + j) (p.getD j 0) = true) → okAll k x i p = true
 | [], i, h => rfl
 | v :: r, i, h => by
  rw [okAll, Bool.and_eq_true]
  refine ⟨h 0 (by simp), okAll_of r (i + 1) fun j hj => ?_⟩
  have := h (j + 1) (by simp; omega)
  rw [show i + (j + 1) = i + 1 + j by omega] at this
  simpa using this
theorem okAll_to {k x : Nat} : ∀ (p : List Nat) (i : Nat), okAll k x i p = true → ∀ j, j < p.length → ok1 k x (i + j) (p.getD j 0) = true
 | [], i, h, j, hj => by simp at hj
 | v :: r, i, h, j, hj => by
  rw [okAll, Bool.and_eq_true] at h
  cases j with
  | zero => simpa using h.1
  | succ j =>
   have := okAll_to r (i + 1) h.2 j (by simp at hj; omega)
   rw [show i + (j + 1) = i + 1 + j by omega]
   simpa using this
theorem ok1_iff {k x i v : Nat} (hik : i < k) : ok1 k x i v = true ↔ (v = 0 → x ≠ 0 ∧ i ≤ x) ∧ (v ≠ 0 → x = 0 → ¬ k < v) ∧ (v ≠ 0 → x ≠ 0 → ¬ Crs i v k x ∧ ¬ (v = k ∧ x = i)) := by
 unfold ok1
 by_cases hv : v = 0
 ·rw [show Nat.beq v 0 = true by rw [Nat.beq_eq]; exact hv, cond_true]
  simp only [Bool.and_eq_true, Bool.not_eq_true', Nat.ble_eq]
  rw [← Bool.not_eq_true, Nat.beq_eq]
  exact ⟨fun h => ⟨fun _ => h, fun c => absurd hv c, fun c => absurd hv c⟩, fun h => h.1 hv⟩
 ·rw [show Nat.beq v 0 = false by rw [← Bool.not_eq_true, Nat.beq_eq]; exact hv, cond_false]
  by_cases hx : x = 0
  ·rw [show Nat.beq x 0 = true by rw [Nat.beq_eq]; exact hx, cond_true]
   simp only [Bool.not_eq_true']
   rw [← Bool.not_eq_true, Nat.blt_eq]
   exact ⟨fun h => ⟨fun c => absurd c hv, fun _ _ => h, fun _ c => absurd hx c⟩, fun h => h.2.1 hv hx⟩
  ·rw [show Nat.beq x 0 = false by rw [← Bool.not_eq_true, Nat.beq_eq]; exact hx, cond_false]
   have key : (ordN i v fun a b => ordN k x fun c d => !(Nat.blt a c && Nat.blt c b && Nat.blt b d) && !(Nat.blt c a && Nat.blt a d && Nat.blt d b) && !(Nat.beq a c && Nat.beq b d)) = true ↔ ¬ Crs i v k x ∧ ¬ (v = k ∧ x = i) := by
    unfold ordN Crs Btw Outs
    have fin : ∀ a b c d : Nat, ((!(Nat.blt a c && Nat.blt c b && Nat.blt b d) && !(Nat.blt c a && Nat.blt a d && Nat.blt d b) && !(Nat.beq a c && Nat.beq b d)) = true ↔ ¬ (a < c ∧ c < b ∧ b < d) ∧ ¬ (c < a ∧ a < d ∧ d < b) ∧ ¬ (a = c ∧ b = d)) := by
     intro a b c d
     rw [Bool.and_eq_true, Bool.and_eq_true, Bool.not_eq_true', Bool.not_eq_true', Bool.not_eq_true', ← Bool.not_eq_true, ← Bool.not_eq_true, ← Bool.not_eq_true, Bool.and_eq_true, Bool.and_eq_true, Bool.and_eq_true, Bool.and_eq_true, Bool.and_eq_true, Nat.blt_eq, Nat.blt_eq, Nat.blt_eq, Nat.blt_eq, Nat.blt_eq, Nat.blt_eq, Nat.beq_eq, Nat.beq_eq]
     simp only [and_assoc]
    by_cases h1 : i ≤ v
    ·have e1 : Nat.ble i v = true := by rw [Nat.ble_eq]; exact h1
     by_cases h2 : k ≤ x
     ·have e2 : Nat.ble k x = true := by rw [Nat.ble_eq]; exact h2
      simp only [e1, e2, cond_true]; rw [fin]; omega
     ·have e2 : Nat.ble k x = false := by rw [← Bool.not_eq_true, Nat.ble_eq]; exact h2
      simp only [e1, e2, cond_true, cond_false]; rw [fin]; omega
    ·have e1 : Nat.ble i v = false := by rw [← Bool.not_eq_true, Nat.ble_eq]; exact h1
     by_cases h2 : k ≤ x
     ·have e2 : Nat.ble k x = true := by rw [Nat.ble_eq]; exact h2
      simp only [e1, e2, cond_true, cond_false]; rw [fin]; omega
     ·have e2 : Nat.ble k x = false := by rw [← Bool.not_eq_true, Nat.ble_eq]; exact h2
      simp only [e1, e2, cond_false]; rw [fin]; omega
   rw [key]
   exact ⟨fun h => ⟨fun c => absurd c hv, fun _ c => absurd c hx, fun _ _ => h⟩, fun h => h.2.2 hv hx⟩
theorem hN_at (h : List Nat) (a : Nat) : hN h (a + 1) = h.getD a 0 := rfl
theorem ok_flat {h : List Nat} (t : T (toI h)) (N : NoCr (hd (toI h))) (C : NoCov (toI h).length (hd (toI h))) {k : Nat} (hk : k < h.length) : okx (h.take k) (h.getD k 0) = true := by
 have hl := toI_len h
 have hkl : (h.take k).length = k := by rw [List.length_take]; omega
 unfold okx
 rw [hkl, Bool.and_eq_true, Bool.not_eq_true', ← Bool.not_eq_true, Nat.beq_eq]
 have ek : hd (toI h) ((k + 1 : Nat) : Int) = (h.getD k 0 : Nat) := hd_toI h (k + 1)
 have loop : h.getD k 0 ≠ k + 1 := by
  intro e
  rw [e] at ek
  have := t.2.dep_head (a := ((k + 1 : Nat) : Int)) (by omega)
  rw [ek] at this
  omega
 refine ⟨loop, okAll_of _ _ fun j hj => ?_⟩
 rw [hkl] at hj
 have ej : (h.take k).getD j 0 = h.getD j 0 := by rw [List.getD_eq_getElem?_getD, List.getElem?_take_of_lt hj, List.getD_eq_getElem?_getD]
 have ei : hd (toI h) ((1 + j : Nat) : Int) = (h.getD j 0 : Nat) := by rw [Nat.add_comm]; exact hd_toI h (j + 1)
 rw [ej, ok1_iff (by omega)]
 generalize h.getD k 0 = x at ek loop
 generalize h.getD j 0 = v at ei
 refine ⟨fun hv => ?_, fun hv hx => ?_, fun hv hx => ⟨?_, ?_⟩⟩
 ·subst hv
  have h0 : x ≠ 0 := by
   intro hx
   subst hx
   obtain ⟨r, _, _, u⟩ := t.2.root
   have u1 := u _ (by omega) (by omega) ei
   have u2 := u _ (by omega) (by omega) ek
   omega
  refine ⟨h0, ?_⟩
  have := C ((1 + j : Nat) : Int) (by omega) (by omega) ei ((k + 1 : Nat) : Int) (by omega)
  rw [ek] at this
  unfold Btw at this
  omega
 ·subst hx
  have := C ((k + 1 : Nat) : Int) (by omega) (by omega) ek ((1 + j : Nat) : Int) (by omega)
  rw [ei] at this
  unfold Btw at this
  omega
 ·have := N ((1 + j : Nat) : Int) ((k + 1 : Nat) : Int) (by omega) (by omega)
  rw [ei, ek] at this
  exact this
 ·rintro ⟨rfl, rfl⟩
  have d1 := t.2.dep_head (a := ((k + 1 : Nat) : Int)) (by omega)
  have d2 := t.2.dep_head (a := ((1 + j : Nat) : Int)) (by omega)
  rw [ek] at d1
  rw [ei] at d2
  omega
theorem cand_mem {h : List Nat} (hx : ∀ k, k < h.length → okx (h.take k) (h.getD k 0) = true) (hv : ∀ k, k < h.length → h.getD k 0 ≤ h.length) : ∀ k, k ≤ h.length → h.take k ∈ cand h.length k
 | 0, _ => by simp [cand]
 | k + 1, hk => by
  have ih := cand_mem hx hv k (by omega)
  rw [cand, List.mem_flatMap]
  refine ⟨_, ih, List.mem_map.2 ⟨h.getD k 0, List.mem_filter.2 ⟨List.mem_range.2 (by have := hv k (by omega); omega), hx k (by omega)⟩, ?_⟩⟩
  rw [List.take_succ_eq_append_getElem (by omega), List.getD_eq_getElem?_getD, List.getElem?_eq_getElem (by omega)]; rfl
theorem toI_of {l : List Int} (h : ∀ x, x ∈ l → 0 ≤ x) : l = toI (l.map Int.toNat) := by
 induction l with
 | nil => rfl
 | cons x l ih =>
  have hx := h x (by simp)
  have := ih fun y hy => h y (by simp [hy])
  simp only [toI, List.map_cons, List.map_map] at this ⊢
  rw [← this]
  congr 1
  omega
/-- Each flat tree of up to 6 words is in the table, at its place. -/
theorem flat_place {l : List Int} (f : flatB l = true) (h6 : l.length ≤ 6) : ∃ h r, l = toI h ∧ rankN h = some r ∧ (tF h.length)[r]? = some h := by
 obtain ⟨t, R⟩ := flatB_true.1 f
 have hlo : ∀ x, x ∈ l → 0 ≤ x := fun x hx => by
  obtain ⟨i, hi, rfl⟩ := List.mem_iff_getElem.1 hx
  have := t.2.lo ((i + 1 : Nat) : Int)
  rw [hd, if_pos (by omega), show (((i + 1 : Nat) : Int) - 1).toNat = i by omega, List.getD_eq_getElem?_getD, List.getElem?_eq_getElem hi] at this
  exact this
 obtain ⟨h, rfl⟩ : ∃ h, l = toI h := ⟨_, toI_of hlo⟩
 have hl := toI_len h
 have hp := t.2.pos
 obtain ⟨N, C⟩ := (row_iff t.2).1 R
 have hv : ∀ k, k < h.length → h.getD k 0 ≤ h.length := fun k hk => by
  have := t.2.hi ((k + 1 : Nat) : Int)
  rw [hd_toI, hN_at] at this
  omega
 have hm := cand_mem (fun k hk => ok_flat t N C hk) hv h.length (Nat.le_refl _)
 rw [List.take_length] at hm
 have ht : treeN h = true := by
  unfold treeN
  rw [List.all_eq_true]
  intro i hi
  rw [List.mem_range] at hi
  rw [undN_iff]
  have := t.2.back ((i + 1 : Nat) : Int) (by omega) (by omega)
  rw [it_toI, hl] at this
  exact ⟨h.length, by omega, by omega⟩
 have M := cand_all h.length (by omega) (by omega) h hm ht
 unfold memN at M
 cases hr : rankN h with
 | none => rw [hr] at M; cases M
 | some r =>
  rw [hr] at M
  exact ⟨h, r, rfl, hr, of_decide_eq_true M⟩
theorem rank_at {n j : Nat} {h : List Nat} (hn : n ≤ 6) (e : (tF n)[j]? = some h) : rankN h = some j := by
 have r := congrArg (fun q => q[j]?) (rank_all n hn)
 simp only [List.getElem?_map, e, Option.map_some] at r
 have hj : j < (tF n).length := by
  by_cases c : j < (tF n).length
  ·exact c
  ·rw [List.getElem?_eq_none (by omega)] at e; cases e
 rw [List.getElem?_range hj] at r
 simpa using r
end Hd
