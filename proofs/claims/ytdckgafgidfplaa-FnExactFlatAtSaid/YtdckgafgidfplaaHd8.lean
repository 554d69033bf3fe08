/- Plain facts: what is told of arcs, words, yields and turns; words that are read from the right; a further word. -/
import Derived.Test.YtdckgafgidfplaaHd7
/-- The two arcs cross, each by two different words. -/
def CrsP (a b c d : Int) : Prop := 1 ≤ a ∧ 1 ≤ b ∧ 1 ≤ c ∧ 1 ≤ d ∧ a ≠ b ∧ c ≠ d ∧ Hd.Crs a b c d
open Classical in
noncomputable def crsB (a b c d : Int) : Bool := decide (CrsP a b c d)
theorem crsB_true {a b c d : Int} : crsB a b c d = true ↔ CrsP a b c d := by simp [crsB]
theorem crsB_no {a b c d : Int} (h : ¬ CrsP a b c d) : crsB a b c d = false := by simp [crsB, h]
theorem crsB_yes {a b c d : Int} (h : CrsP a b c d) : crsB a b c d = true := by simp [crsB, h]
theorem some_bool {a b : Bool} (h : a = true ↔ b = true) : some a = some b := congrArg some (Bool.eq_iff_iff.2 h)
theorem bool_eq {a b : Bool} (h : a = true ↔ b = true) : a = b := Bool.eq_iff_iff.2 h
/-- A word of a tree. -/
noncomputable def wordB (l : List Int) (a : Int) : Bool := Hd.treeB l && decide (1 ≤ a ∧ a ≤ (l.length : Int))
theorem wordB_true {l : List Int} {a : Int} : wordB l a = true ↔ Hd.T l ∧ 1 ≤ a ∧ a ≤ (l.length : Int) := by simp [wordB, Hd.treeB_true]
/-- Pairs of arcs of the first m words that cross. -/
noncomputable def crsN (l : List Int) : Nat → Nat
 | 0 => 0
 | m + 1 => crsN l m + Hd.cnt (fun k => crsB ((m : Int) + 1) (Hd.hd l ((m : Int) + 1)) k (Hd.hd l k)) m
theorem crsN_le (l : List Int) : ∀ m, crsN l m ≤ m * m
 | 0 => Nat.le_refl _
 | m + 1 => by
  have h1 := crsN_le l m
  have h2 := Hd.cnt_le (fun k => crsB ((m : Int) + 1) (Hd.hd l ((m : Int) + 1)) k (Hd.hd l k)) m
  have h3 : (m + 1) * (m + 1) = m * m + 2 * m + 1 := by rw [Nat.add_mul, Nat.mul_add]; omega
  unfold crsN
  omega
open Classical in
noncomputable def crossI (l : List Int) : Int := if Hd.T l then (crsN l l.length : Int) else -1
noncomputable def uokB (l : List Int) (a b : Int) : Bool := wordB l a && wordB l b && Hd.undB l a b
theorem uokB_true {l : List Int} {a b : Int} : uokB l a b = true ↔ Hd.T l ∧ (1 ≤ a ∧ a ≤ (l.length : Int)) ∧ (1 ≤ b ∧ b ≤ (l.length : Int)) ∧ Hd.Und (Hd.hd l) a b := by
 unfold uokB
 rw [Bool.and_eq_true, Bool.and_eq_true, wordB_true, wordB_true, Hd.undB_true]
 constructor
 ·rintro ⟨⟨⟨t, h1⟩, _, h2⟩, u⟩; exact ⟨t, h1, h2, u⟩
 ·rintro ⟨t, h1, h2, u⟩; exact ⟨⟨⟨t, h1⟩, t, h2⟩, u⟩
def treesN (a : Int) : Int := if 1 ≤ a ∧ a ≤ 8 then ((a.toNat ^ (a.toNat - 1) : Nat) : Int) else -1
theorem pow_le {x j : Nat} (hx : x ≤ 8) (hj : j ≤ 8) : x ^ j ≤ 16777216 := by
 have h1 : x ^ j ≤ 8 ^ j := Nat.pow_le_pow_left hx j
 have h2 : 8 ^ j ≤ 8 ^ 8 := Nat.pow_le_pow_right (by decide) hj
 have h3 : (8 : Nat) ^ 8 = 16777216 := by decide
 omega
open Classical in
noncomputable def meetI (l : List Int) (a b : Int) : Int := if Hd.T l ∧ (1 ≤ a ∧ a ≤ (l.length : Int)) ∧ (1 ≤ b ∧ b ≤ (l.length : Int)) then Hd.meetF l l.length a b else -1
open Classical in
noncomputable def sidesL (l : List Int) (w : Int) : Int × Int × Bool :=
 if Hd.T l ∧ (1 ≤ w ∧ w ≤ (l.length : Int)) then ((Hd.cnt (fun a => decide (Hd.hd l a = w ∧ a < w)) l.length : Int), (Hd.cnt (fun a => decide (Hd.hd l a = w ∧ a > w)) l.length : Int), true) else (-1, -1, false)
/-- Two sets of words, word by word: which of both had the last one, and how often the one with a word is another one than before. -/
def tnS (p q : Int → Bool) : Nat → Int × Int
 | 0 => (0, 0)
 | m + 1 =>
  if p ((m : Int) + 1) = true then (if (tnS p q m).1 = 1 then tnS p q m else (1, (tnS p q m).2 + 1))
  else if q ((m : Int) + 1) = true then (if (tnS p q m).1 = 2 then tnS p q m else (2, (tnS p q m).2 + 1))
  else tnS p q m
theorem tnS_bd (p q : Int → Bool) : ∀ m : Nat, 0 ≤ (tnS p q m).2 ∧ (tnS p q m).2 ≤ m ∧ ((tnS p q m).1 = 0 → (tnS p q m).2 = 0) ∧ ((tnS p q m).1 = 0 ∨ (1 ≤ (tnS p q m).2 ∧ ((tnS p q m).1 = 1 ∨ (tnS p q m).1 = 2)))
 | 0 => by simp [tnS]
 | m + 1 => by
  have ih := tnS_bd p q m
  rw [tnS]
  generalize tnS p q m = s at *
  by_cases hp : p ((m : Int) + 1) = true
  ·rw [if_pos hp]
   by_cases h1 : s.1 = 1
   ·rw [if_pos h1]; omega
   ·rw [if_neg h1]; exact ⟨by simp only; omega, by simp only; omega, fun h => by simp at h, .inr ⟨by simp only; omega, .inl rfl⟩⟩
  ·rw [if_neg hp]
   by_cases hq : q ((m : Int) + 1) = true
   ·rw [if_pos hq]
    by_cases h1 : s.1 = 2
    ·rw [if_pos h1]; omega
    ·rw [if_neg h1]; exact ⟨by simp only; omega, by simp only; omega, fun h => by simp at h, .inr ⟨by simp only; omega, .inr rfl⟩⟩
   ·rw [if_neg hq]; omega
open Classical in
noncomputable def turnsB (l : List Int) (a b : Int) : Bool :=
 decide (Hd.T l ∧ (1 ≤ a ∧ a ≤ (l.length : Int)) ∧ (1 ≤ b ∧ b ≤ (l.length : Int)) ∧ ¬ Hd.Und (Hd.hd l) a b ∧ ¬ Hd.Und (Hd.hd l) b a ∧ (tnS (fun x => Hd.undB l x a) (fun x => Hd.undB l x b) l.length).2 ≥ 4)
theorem turnsB_true {l : List Int} {a b : Int} : turnsB l a b = true ↔ Hd.T l ∧ (1 ≤ a ∧ a ≤ (l.length : Int)) ∧ (1 ≤ b ∧ b ≤ (l.length : Int)) ∧ ¬ Hd.Und (Hd.hd l) a b ∧ ¬ Hd.Und (Hd.hd l) b a ∧ (tnS (fun x => Hd.undB l x a) (fun x => Hd.undB l x b) l.length).2 ≥ 4 := by simp [turnsB]
theorem apart_iff {l : List Int} (_t : Hd.T l) {a b : Int} (ha : 1 ≤ a ∧ a ≤ (l.length : Int)) (hb : 1 ≤ b ∧ b ≤ (l.length : Int)) : (∀ x : Int, 1 ≤ x → x ≤ l.length → ¬ (Hd.undB l x a = true ∧ Hd.undB l x b = true)) ↔ ¬ Hd.Und (Hd.hd l) a b ∧ ¬ Hd.Und (Hd.hd l) b a := by
 constructor
 ·intro h
  refine ⟨fun u => h a ha.1 ha.2 ⟨Hd.undB_true.2 (Hd.Und.refl _ _), Hd.undB_true.2 u⟩, fun u => h b hb.1 hb.2 ⟨Hd.undB_true.2 u, Hd.undB_true.2 (Hd.Und.refl _ _)⟩⟩
 ·rintro ⟨h1, h2⟩ x _ _ ⟨u, v⟩
  exact ((Hd.undB_true.1 u).linear (Hd.undB_true.1 v)).elim h1 h2
open Classical in
noncomputable def nestB (l : List Int) : Bool := decide (Hd.T l ∧ ∀ a b : Int, 1 ≤ b → b < a → a ≤ l.length → turnsB l a b = false)
theorem nestB_true {l : List Int} : nestB l = true ↔ Hd.T l ∧ ∀ a b : Int, 1 ≤ b → b < a → a ≤ l.length → turnsB l a b = false := by simp [nestB]
theorem nestB_no {l : List Int} {a b : Int} (h1 : 1 ≤ b) (h2 : b < a) (h3 : a ≤ l.length) (ht : turnsB l a b = true) : false = nestB l := by
 cases hc : nestB l with
 | false => rfl
 | true =>
  have := (nestB_true.1 hc).2 a b h1 h2 h3
  rw [ht] at this; cases this
theorem nestB_end {l : List Int} (h : ∀ a b : Int, 1 ≤ b → b < a → a ≤ l.length → turnsB l a b = false) : Hd.treeB l = nestB l := bool_eq (by
 rw [Hd.treeB_true, nestB_true]
 exact ⟨fun t => ⟨t, h⟩, fun t => t.1⟩)
