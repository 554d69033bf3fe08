/- Plain facts on rows of heads: hd l a is the head of word a in the row l; what a tree is; counts. -/
import Derived.Test.YtdckgafgidfplaaHd2
namespace Hd

def hd (l : List Int) (a : Int) : Int := if 1 ≤ a then l.getD (a - 1).toNat 0 else 0

theorem hd_get {l : List Int} {a : Int} (h : 1 ≤ a) : l.getD (a - 1).toNat 0 = hd l a := (if_pos h).symm
theorem hd_out {l : List Int} {a : Int} (h : ¬ (1 ≤ a ∧ a ≤ (l.length : Int))) : hd l a = 0 := by
 unfold hd
 split
 ·rw [List.getD_eq_getElem?_getD, List.getElem?_eq_none (by omega)]; rfl
 ·rfl
theorem hd_zero (l : List Int) : hd l 0 = 0 := hd_out (by omega)

/-- All heads are from 0 up to the number of words. -/
def Vals (l : List Int) : Prop := ∀ a : Int, 1 ≤ a → a ≤ l.length → 0 ≤ hd l a ∧ hd l a ≤ l.length

def T (l : List Int) : Prop := l.length ≤ 8 ∧ Tr l.length (hd l)

theorem T.vals {l : List Int} (t : T l) : Vals l := fun a _ _ => ⟨t.2.lo a, t.2.hi a⟩
theorem Vals.lo {l : List Int} (v : Vals l) (a : Int) : 0 ≤ hd l a := by
 by_cases hw : 1 ≤ a ∧ a ≤ (l.length : Int)
 ·exact (v a hw.1 hw.2).1
 ·rw [hd_out hw]; omega
theorem Vals.hi {l : List Int} (v : Vals l) (a : Int) : hd l a ≤ l.length := by
 by_cases hw : 1 ≤ a ∧ a ≤ (l.length : Int)
 ·exact (v a hw.1 hw.2).2
 ·rw [hd_out hw]; omega

theorem cnt_ex {p : Int → Bool} : ∀ {m : Nat}, 0 < cnt p m → ∃ a : Int, 1 ≤ a ∧ a ≤ m ∧ p a = true
 | 0, h => by simp [cnt] at h
 | m + 1, h => by
  by_cases hp : p ((m : Int) + 1) = true
  ·exact ⟨(m : Int) + 1, by omega, by omega, hp⟩
  ·unfold cnt at h
   rw [if_neg hp] at h
   obtain ⟨a, h1, h2, h3⟩ := cnt_ex (p := p) (m := m) (by omega)
   exact ⟨a, h1, by omega, h3⟩
theorem cnt_pos {p : Int → Bool} {a : Int} : ∀ {m : Nat}, 1 ≤ a → a ≤ m → p a = true → 0 < cnt p m
 | 0, h1, h2, _ => by omega
 | m + 1, h1, h2, h3 => by
  unfold cnt
  by_cases e : a = (m : Int) + 1
  ·rw [← e, if_pos h3]; omega
  ·have := cnt_pos (m := m) h1 (by omega) h3
   omega
theorem cnt_two {p : Int → Bool} {a b : Int} : ∀ {m : Nat}, 1 ≤ a → a < b → b ≤ m → p a = true → p b = true → 2 ≤ cnt p m
 | 0, h1, h2, h3, _, _ => by omega
 | m + 1, h1, h2, h3, h4, h5 => by
  unfold cnt
  by_cases e : b = (m : Int) + 1
  ·rw [← e, if_pos h5]
   have := cnt_pos (p := p) (m := m) h1 (by omega) h4
   omega
  ·have := cnt_two (m := m) h1 h2 (by omega) h4 h5
   omega
theorem cnt_uniq {p : Int → Bool} {m : Nat} : cnt p m = 1 ↔ ∃ r : Int, (1 ≤ r ∧ r ≤ m) ∧ p r = true ∧ ∀ a : Int, 1 ≤ a → a ≤ m → p a = true → a = r := by
 constructor
 ·intro h
  obtain ⟨r, h1, h2, h3⟩ := cnt_ex (p := p) (m := m) (by omega)
  refine ⟨r, ⟨h1, h2⟩, h3, fun a k1 k2 k3 => ?_⟩
  apply Classical.byContradiction
  intro hne
  by_cases hlt : a < r
  ·have := cnt_two (p := p) k1 hlt h2 k3 h3; omega
  ·have := cnt_two (p := p) h1 (show r < a by omega) k2 h3 k3; omega
 ·rintro ⟨r, hr, h3, uq⟩
  have h1 := cnt_pos (p := p) hr.1 hr.2 h3
  have h2 := cnt_one (p := fun _ => false) (q := fun x => decide (x = r)) (b := r) (m := m) hr.1 hr.2 rfl (by simp) (fun x hx => by simp [hx])
  rw [cnt_none (p := fun _ => false) (fun _ _ _ => rfl)] at h2
  have := cnt_mono (p := p) (q := fun x => decide (x = r)) (m := m) (fun a k1 k2 k3 => by simp [uq a k1 k2 k3])
  omega

def zeros (l : List Int) (m : Nat) : Nat := cnt (fun a => decide (hd l a = 0)) m

theorem T_iff {l : List Int} (h8 : l.length ≤ 8) (v : Vals l) (b : ∀ a : Int, 1 ≤ a → a ≤ l.length → it (hd l) l.length a = 0) : T l ↔ zeros l l.length = 1 := by
 unfold zeros
 rw [cnt_uniq]
 constructor
 ·rintro ⟨_, t⟩
  obtain ⟨r, h1, h2, h3⟩ := t.root
  exact ⟨r, h1, by simpa using h2, fun a k1 k2 k3 => h3 a k1 k2 (by simpa using k3)⟩
 ·rintro ⟨r, h1, h2, h3⟩
  exact ⟨h8, fun a ha => hd_out ha, v.lo, v.hi, ⟨r, h1, by simpa using h2, fun a k1 k2 k3 => h3 a k1 k2 (by simpa using k3)⟩, b⟩

open Classical in
noncomputable def treeB (l : List Int) : Bool := decide (T l)
theorem treeB_true {l : List Int} : treeB l = true ↔ T l := by simp [treeB]
theorem treeB_no {l : List Int} (h : ¬ T l) : treeB l = false := by simp [treeB, h]
theorem treeB_yes {l : List Int} (h : T l) : treeB l = true := by simp [treeB, h]

open Classical in
noncomputable def undB (l : List Int) (a b : Int) : Bool := decide (Und (hd l) a b)
theorem undB_true {l : List Int} {a b : Int} : undB l a b = true ↔ Und (hd l) a b := by simp [undB]
theorem undB_false {l : List Int} {a b : Int} : undB l a b = false ↔ ¬ Und (hd l) a b := by simp [undB]

theorem down {n : Int} {P : Int → Prop} (h : ∀ i, i ≤ n → (i < n → P (i + 1)) → P i) : ∀ i, i ≤ n → P i := by
 have key : ∀ (d : Nat) (i : Int), i ≤ n → n - i = d → P i := by
  intro d
  induction d with
  | zero => intro i hi hd; exact h i hi (fun hlt => by omega)
  | succ d ih => intro i hi hd; exact h i hi (fun hlt => ih (i + 1) (by omega) (by omega))
 intro i hi
 exact key (n - i).toNat i hi (by omega)
end Hd
