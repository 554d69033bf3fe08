/- Plain facts on trees of heads: heads as a function h on whole numbers, the words 1 to n; no program here. -/
namespace Hd

/-! ### Going from head to head -/
def it (h : Int → Int) : Nat → Int → Int
 | 0, a => a
 | k + 1, a => it h k (h a)

theorem it_add (h : Int → Int) : ∀ (j k : Nat) (a : Int), it h (j + k) a = it h k (it h j a)
 | 0, k, a => by rw [Nat.zero_add]; rfl
 | j + 1, k, a => by rw [Nat.add_right_comm]; exact it_add h j k (h a)

theorem it_succ (h : Int → Int) (k : Nat) (a : Int) : it h (k + 1) a = h (it h k a) := it_add h k 1 a

theorem it_zero {h : Int → Int} (h0 : h 0 = 0) : ∀ k, it h k 0 = 0
 | 0 => rfl
 | k + 1 => by show it h k (h 0) = 0; rw [h0]; exact it_zero h0 k

theorem it_more {h : Int → Int} (h0 : h 0 = 0) {j k : Nat} {a : Int} (e : it h j a = 0) (hle : j ≤ k) : it h k a = 0 := by
 obtain ⟨m, rfl⟩ := Nat.exists_eq_add_of_le hle
 rw [it_add, e]
 exact it_zero h0 m

/-! ### Trees -/
structure Tr (n : Nat) (h : Int → Int) : Prop where
 out : ∀ a : Int, ¬ (1 ≤ a ∧ a ≤ (n : Int)) → h a = 0
 lo : ∀ a, 0 ≤ h a
 hi : ∀ a, h a ≤ n
 root : ∃ r : Int, (1 ≤ r ∧ r ≤ n) ∧ h r = 0 ∧ ∀ a : Int, 1 ≤ a → a ≤ n → h a = 0 → a = r
 back : ∀ a : Int, 1 ≤ a → a ≤ n → it h n a = 0

def Und (h : Int → Int) (a b : Int) : Prop := ∃ k, it h k a = b

theorem Und.refl (h : Int → Int) (a : Int) : Und h a a := ⟨0, rfl⟩
theorem Und.trans {h : Int → Int} {a b c : Int} : Und h a b → Und h b c → Und h a c
 | ⟨j, e⟩, ⟨k, f⟩ => ⟨j + k, by rw [it_add, e, f]⟩
theorem Und.head (h : Int → Int) (a : Int) : Und h a (h a) := ⟨1, rfl⟩
theorem Und.up {h : Int → Int} {a b : Int} (u : Und h (h a) b) : Und h a b := (Und.head h a).trans u
theorem Und.cases {h : Int → Int} {a b : Int} (u : Und h a b) : a = b ∨ Und h (h a) b := by
 obtain ⟨k, e⟩ := u
 cases k with
 | zero => exact .inl e
 | succ k => exact .inr ⟨k, e⟩
theorem Und.linear {h : Int → Int} {a b c : Int} (x : Und h a b) (y : Und h a c) : Und h b c ∨ Und h c b := by
 obtain ⟨j, e⟩ := x
 obtain ⟨k, f⟩ := y
 rcases Nat.le_total j k with hle | hle
 ·obtain ⟨m, rfl⟩ := Nat.exists_eq_add_of_le hle
  exact .inl ⟨m, by rw [← e, ← it_add, f]⟩
 ·obtain ⟨m, rfl⟩ := Nat.exists_eq_add_of_le hle
  exact .inr ⟨m, by rw [← f, ← it_add, e]⟩

namespace Tr
variable {n : Nat} {h : Int → Int}

theorem zero (T : Tr n h) : h 0 = 0 := T.out 0 (by omega)
theorem word (T : Tr n h) {a : Int} (ha : h a ≠ 0) : 1 ≤ h a ∧ h a ≤ n := by
 have := T.lo a
 have := T.hi a
 omega
theorem word_of (T : Tr n h) {a : Int} (ha : h a ≠ 0) : 1 ≤ a ∧ a ≤ n := by
 by_cases hw : 1 ≤ a ∧ a ≤ (n : Int)
 ·exact hw
 ·exact absurd (T.out a hw) ha
theorem pos (T : Tr n h) : 1 ≤ n := by
 obtain ⟨r, hr, _⟩ := T.root
 omega

theorem und_zero (T : Tr n h) {b : Int} (u : Und h 0 b) : b = 0 := by
 obtain ⟨k, e⟩ := u
 rw [it_zero T.zero] at e
 exact e.symm
theorem und_step (T : Tr n h) {a b : Int} (u : Und h a b) (hne : a ≠ b) (hb : b ≠ 0) : h a ≠ 0 ∧ Und h (h a) b := by
 rcases u.cases with e | u
 ·exact absurd e hne
 ·refine ⟨fun e => ?_, u⟩
  rw [e] at u
  exact hb (T.und_zero u)
theorem und_word (T : Tr n h) {a b : Int} (u : Und h a b) (ha : 1 ≤ a ∧ a ≤ n) (hb : b ≠ 0) : 1 ≤ b ∧ b ≤ n := by
 obtain ⟨k, e⟩ := u
 induction k generalizing a with
 | zero => rw [show a = b from e] at ha; exact ha
 | succ k ih =>
  by_cases h0 : h a = 0
  ·have : it h k (h a) = b := e
   rw [h0, it_zero T.zero] at this
   exact absurd this.symm hb
  ·exact ih (T.word h0) e
theorem und_word' (T : Tr n h) {a b : Int} (u : Und h a b) (hb : 1 ≤ b ∧ b ≤ n) : 1 ≤ a ∧ a ≤ n := by
 by_cases hw : 1 ≤ a ∧ a ≤ (n : Int)
 ·exact hw
 ·rcases u.cases with e | u
  ·rw [e]; exact hb
  ·rw [T.out a hw] at u
   have := T.und_zero u
   omega

/-- From the root on: what holds of the root, and of a word if it does of its head, holds of all words. -/
theorem ind (T : Tr n h) {P : Int → Prop} (h0 : ∀ a : Int, 1 ≤ a → a ≤ n → h a = 0 → P a) (hs : ∀ a : Int, 1 ≤ a → a ≤ n → h a ≠ 0 → P (h a) → P a) : ∀ a : Int, 1 ≤ a → a ≤ n → P a := by
 have key : ∀ (k : Nat) (a : Int), 1 ≤ a → a ≤ n → it h k a = 0 → P a := by
  intro k
  induction k with
  | zero => intro a h1 h2 e; have : a = 0 := e; omega
  | succ k ih =>
   intro a h1 h2 e
   by_cases hz : h a = 0
   ·exact h0 a h1 h2 hz
   ·exact hs a h1 h2 hz (ih (h a) (T.word hz).1 (T.word hz).2 e)
 exact fun a h1 h2 => key n a h1 h2 (T.back a h1 h2)

theorem loop (T : Tr n h) {a : Int} {k : Nat} (ha : 1 ≤ a ∧ a ≤ n) (hk : 0 < k) (e : it h k a = a) : False := by
 have key : ∀ m, it h (k * m) a = a := by
  intro m
  induction m with
  | zero => rfl
  | succ m ih => rw [Nat.mul_succ, it_add, ih, e]
 have h1 := it_more T.zero (T.back a ha.1 ha.2) (show n ≤ k * n from Nat.le_mul_of_pos_left n hk)
 rw [key] at h1
 omega

theorem anti (T : Tr n h) {a b : Int} (ha : 1 ≤ a ∧ a ≤ n) (x : Und h a b) (y : Und h b a) : a = b := by
 obtain ⟨j, e⟩ := x
 obtain ⟨k, f⟩ := y
 by_cases hj : j = 0
 ·subst hj; exact e
 ·have : it h (j + k) a = a := by rw [it_add, e, f]
  exact (T.loop ha (by omega) this).elim

theorem not_own (T : Tr n h) {a : Int} (ha : 1 ≤ a ∧ a ≤ n) : h a ≠ a := fun e => T.loop ha (k := 1) (by omega) e

theorem und_root (T : Tr n h) {r : Int} (hr : 1 ≤ r ∧ r ≤ n) (h0 : h r = 0) : ∀ a : Int, 1 ≤ a → a ≤ n → Und h a r := by
 obtain ⟨r', hr', e', uq⟩ := T.root
 have : r = r' := uq r hr.1 hr.2 h0
 subst this
 exact T.ind (fun a h1 h2 e => by rw [uq a h1 h2 e]; exact Und.refl _ _) (fun a _ _ _ u => u.up)

theorem root_und (T : Tr n h) {r b : Int} (h0 : h r = 0) (hb : b ≠ 0) (u : Und h r b) : r = b := by
 rcases u.cases with e | u
 ·exact e
 ·rw [h0] at u
  exact absurd (T.und_zero u) hb

/-- Yields are within each other, or apart. -/
theorem laminar (_T : Tr n h) {x b c : Int} (u : Und h x b) (v : Und h x c) : (∀ y, Und h y b → Und h y c) ∨ (∀ y, Und h y c → Und h y b) := by
 rcases u.linear v with w | w
 ·exact .inl fun y hy => hy.trans w
 ·exact .inr fun y hy => hy.trans w
end Tr

/-! ### Who reaches the root at all reaches it in n steps -/
/-- How many of the first m words have it. -/
def cnt (p : Int → Bool) : Nat → Nat
 | 0 => 0
 | m + 1 => cnt p m + if p ((m : Int) + 1) then 1 else 0

theorem cnt_le (p : Int → Bool) : ∀ m, cnt p m ≤ m
 | 0 => Nat.le_refl _
 | m + 1 => by
  have := cnt_le p m
  unfold cnt
  split <;> omega
theorem cnt_mono {p q : Int → Bool} : ∀ {m : Nat}, (∀ a : Int, 1 ≤ a → a ≤ m → p a = true → q a = true) → cnt p m ≤ cnt q m
 | 0, _ => Nat.le_refl _
 | m + 1, hpq => by
  have h1 := cnt_mono (p := p) (q := q) (m := m) (fun a h1 h2 => hpq a h1 (by omega))
  have h2 := hpq ((m : Int) + 1) (by omega) (by omega)
  unfold cnt
  by_cases hp : p ((m : Int) + 1) = true
  ·rw [if_pos hp, if_pos (h2 hp)]; omega
  ·rw [if_neg hp]; split <;> omega
theorem cnt_full {p : Int → Bool} : ∀ {m : Nat}, m ≤ cnt p m → ∀ a : Int, 1 ≤ a → a ≤ m → p a = true
 | 0, _, a, h1, h2 => by omega
 | m + 1, hm, a, h1, h2 => by
  have hl := cnt_le p m
  unfold cnt at hm
  by_cases hp : p ((m : Int) + 1) = true
  ·rw [if_pos hp] at hm
   by_cases e : a = (m : Int) + 1
   ·rw [e]; exact hp
   ·exact cnt_full (m := m) (by omega) a h1 (by omega)
  ·rw [if_neg hp] at hm; omega
theorem cnt_congr {p q : Int → Bool} : ∀ {m : Nat}, (∀ a : Int, 1 ≤ a → a ≤ m → p a = q a) → cnt p m = cnt q m
 | 0, _ => rfl
 | m + 1, hpq => by
  unfold cnt
  rw [cnt_congr (m := m) (fun a h1 h2 => hpq a h1 (by omega)), hpq _ (by omega) (by omega)]
theorem cnt_lt {p q : Int → Bool} : ∀ {m : Nat}, (∀ a : Int, 1 ≤ a → a ≤ m → p a = true → q a = true) → (∃ a : Int, 1 ≤ a ∧ a ≤ m ∧ p a = false ∧ q a = true) → cnt p m < cnt q m
 | 0, _, ⟨a, h1, h2, _⟩ => by omega
 | m + 1, hpq, ⟨a, h1, h2, h3, h4⟩ => by
  have hm := cnt_mono (p := p) (q := q) (m := m) (fun a h1 h2 => hpq a h1 (by omega))
  have hl := hpq ((m : Int) + 1) (by omega) (by omega)
  unfold cnt
  by_cases e : a = (m : Int) + 1
  ·subst e
   rw [h3, h4]; simp; omega
  ·have := cnt_lt (p := p) (q := q) (m := m) (fun a h1 h2 => hpq a h1 (by omega)) ⟨a, h1, by omega, h3, h4⟩
   by_cases hp : p ((m : Int) + 1) = true
   ·rw [if_pos hp, if_pos (hl hp)]; omega
   ·rw [if_neg hp]; split <;> omega

theorem reach {n : Nat} {h : Int → Int} (h0 : h 0 = 0) (lo : ∀ a, 0 ≤ h a) (hi : ∀ a, h a ≤ n) {a : Int} (ha : 1 ≤ a ∧ a ≤ (n : Int)) {k : Nat} (e : it h k a = 0) : it h n a = 0 := by
 -- the words that come to 0 in j steps: either they are all that ever do, or there are at least j
 have stab : ∀ j, (∀ x : Int, 1 ≤ x → x ≤ n → it h (j + 1) x = 0 → it h j x = 0) → ∀ m, ∀ x : Int, 1 ≤ x → x ≤ n → it h (j + m) x = 0 → it h j x = 0 := by
  intro j hj m
  induction m with
  | zero => intro x _ _ e; exact e
  | succ m ih =>
   intro x h1 h2 e
   have e2 : it h (j + m) (h x) = 0 := by
    have : j + (m + 1) = (j + m) + 1 := by omega
    rw [this] at e; exact e
   by_cases hz : h x = 0
   ·apply hj x h1 h2
    show it h j (h x) = 0
    rw [hz]; exact it_zero h0 j
   ·have := lo x
    have := hi x
    exact hj x h1 h2 (ih (h x) (by omega) (by omega) e2)
 have key : ∀ j, (∀ m, ∀ x : Int, 1 ≤ x → x ≤ n → it h (j + m) x = 0 → it h j x = 0) ∨ j ≤ cnt (fun x => it h j x == 0) n := by
  intro j
  induction j with
  | zero => exact .inr (Nat.zero_le _)
  | succ j ih =>
   rcases ih with ih | ih
   ·refine .inl fun m x h1 h2 e => ?_
    have e2 := ih (1 + m) x h1 h2 (by rw [show j + (1 + m) = j + 1 + m from by omega]; exact e)
    exact it_more h0 e2 (by omega)
   ·by_cases hs : ∀ x : Int, 1 ≤ x → x ≤ n → it h (j + 1) x = 0 → it h j x = 0
    ·refine .inl fun m x h1 h2 e => ?_
     have e2 := stab j hs (1 + m) x h1 h2 (by rw [show j + (1 + m) = j + 1 + m from by omega]; exact e)
     exact it_more h0 e2 (by omega)
    ·refine .inr ?_
     have hex : ∃ x : Int, 1 ≤ x ∧ x ≤ n ∧ it h (j + 1) x = 0 ∧ it h j x ≠ 0 := by
      apply Classical.byContradiction
      intro hn
      apply hs
      intro x h1 h2 e
      apply Classical.byContradiction
      intro h3
      exact hn ⟨x, h1, h2, e, h3⟩
     obtain ⟨x, h1, h2, e, h3⟩ := hex
     have := cnt_lt (p := fun x => it h j x == 0) (q := fun x => it h (j + 1) x == 0) (m := n)
      (fun a _ _ hp => by
       have hp : it h j a = 0 := by simpa using hp
       have := it_more h0 hp (show j ≤ j + 1 by omega)
       simpa using this)
      ⟨x, h1, h2, by simpa using h3, by simpa using e⟩
     omega
 rcases key n with hk | hk
 ·rcases Nat.le_total k n with hle | hle
  ·exact it_more h0 e hle
  ·obtain ⟨m, rfl⟩ := Nat.exists_eq_add_of_le hle
   exact hk m a ha.1 ha.2 e
 ·have := cnt_full hk a ha.1 ha.2
  simpa using this

/-! ### Depths -/
def depF (h : Int → Int) : Nat → Int → Nat
 | 0, _ => 0
 | k + 1, a => if h a = 0 then 0 else depF h k (h a) + 1

theorem depF_more {h : Int → Int} : ∀ {k m : Nat} {a : Int}, a ≠ 0 → it h k a = 0 → k ≤ m → depF h m a = depF h k a
 | 0, _, a, ha, e, _ => absurd e ha
 | k + 1, 0, _, _, _, hle => by omega
 | k + 1, m + 1, a, ha, e, hle => by
  unfold depF
  by_cases hz : h a = 0
  ·rw [if_pos hz, if_pos hz]
  ·rw [if_neg hz, if_neg hz, depF_more (k := k) (m := m) hz e (by omega)]
theorem depF_lt {h : Int → Int} : ∀ {k : Nat} {a : Int}, a ≠ 0 → it h k a = 0 → depF h k a < k
 | 0, a, ha, e => absurd e ha
 | k + 1, a, ha, e => by
  unfold depF
  by_cases hz : h a = 0
  ·rw [if_pos hz]; omega
  ·rw [if_neg hz]
   have := depF_lt (k := k) hz e
   omega
def dep (n : Nat) (h : Int → Int) (a : Int) : Nat := depF h n a

namespace Tr
variable {n : Nat} {h : Int → Int}
theorem dep_lt (T : Tr n h) {a : Int} (ha : 1 ≤ a ∧ a ≤ n) : dep n h a < n := depF_lt (by omega) (T.back a ha.1 ha.2)
theorem dep_root (T : Tr n h) {a : Int} (h0 : h a = 0) : dep n h a = 0 := by
 have := T.pos
 obtain ⟨m, rfl⟩ : ∃ m, n = m + 1 := ⟨n - 1, by omega⟩
 show depF h (m + 1) a = 0
 unfold depF
 rw [if_pos h0]
theorem dep_head (T : Tr n h) {a : Int} (h0 : h a ≠ 0) : dep n h a = dep n h (h a) + 1 := by
 have hp := T.pos
 obtain ⟨m, rfl⟩ : ∃ m, n = m + 1 := ⟨n - 1, by omega⟩
 have hb := T.back a (T.word_of h0).1 (T.word_of h0).2
 have e : dep (m + 1) h a = depF h m (h a) + 1 := by
  show depF h (m + 1) a = _
  rw [depF, if_neg h0]
 rw [e, show dep (m + 1) h (h a) = depF h (m + 1) (h a) from rfl, depF_more (k := m) (m := m + 1) h0 hb (by omega)]
theorem dep_zero (T : Tr n h) {a : Int} : dep n h a = 0 ↔ h a = 0 := by
 constructor
 ·intro e
  apply Classical.byContradiction
  intro hn
  rw [T.dep_head hn] at e
  omega
 ·exact T.dep_root
end Tr
theorem cnt_one {p q : Int → Bool} {b : Int} : ∀ {m : Nat}, 1 ≤ b → b ≤ m → p b = false → q b = true → (∀ x, x ≠ b → p x = q x) → cnt q m = cnt p m + 1
 | 0, h1, h2, _, _, _ => by omega
 | m + 1, h1, h2, h3, h4, h5 => by
  unfold cnt
  by_cases e : b = (m : Int) + 1
  ·subst e
   rw [h3, h4, cnt_congr (p := q) (q := p) (m := m) (fun a _ ha => (h5 a (by omega)).symm)]
   simp
  ·rw [cnt_one (m := m) h1 (by omega) h3 h4 h5, h5 ((m : Int) + 1) (by omega)]
   omega
theorem cnt_none {p : Int → Bool} : ∀ {m : Nat}, (∀ a : Int, 1 ≤ a → a ≤ m → p a = false) → cnt p m = 0
 | 0, _ => rfl
 | m + 1, h => by
  unfold cnt
  rw [cnt_none (m := m) (fun a h1 h2 => h a h1 (by omega)), h _ (by omega) (by omega)]
  rfl
theorem cnt_all {p : Int → Bool} : ∀ {m : Nat}, (∀ a : Int, 1 ≤ a → a ≤ m → p a = true) → cnt p m = m
 | 0, _ => rfl
 | m + 1, h => by
  unfold cnt
  rw [cnt_all (m := m) (fun a h1 h2 => h a h1 (by omega)), h _ (by omega) (by omega)]
  rfl

/-- All words but one have a head. -/
theorem cnt_heads {n : Nat} {h : Int → Int} (T : Tr n h) : cnt (fun x => decide (h x ≠ 0)) n + 1 = n := by
 obtain ⟨r, hr, h0, uq⟩ := T.root
 rw [← cnt_one (p := fun x => decide (h x ≠ 0)) (q := fun x => decide (h x ≠ 0 ∨ x = r)) (b := r) hr.1 hr.2 (by simp [h0]) (by simp) (fun x hx => by simp [hx])]
 refine cnt_all fun a h1 h2 => ?_
 by_cases hz : h a = 0
 ·simp [uq a h1 h2 hz]
 ·simp [hz]

end Hd
