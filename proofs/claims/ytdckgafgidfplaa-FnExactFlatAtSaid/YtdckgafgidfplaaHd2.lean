/- Plain facts on flat trees: rows, arcs that cross, words that are covered, and yields that go by turns. -/
import Derived.Test.YtdckgafgidfplaaHd1
namespace Hd

def Btw (x a b : Int) : Prop := (a < x ∧ x < b) ∨ (b < x ∧ x < a)
def Outs (x a b : Int) : Prop := (x < a ∧ x < b) ∨ (a < x ∧ b < x)
def Crs (a b c d : Int) : Prop := (Btw c a b ∧ Outs d a b) ∨ (Btw d a b ∧ Outs c a b)

/-- No two arcs cross. -/
def NoCr (h : Int → Int) : Prop := ∀ i k, h i ≠ 0 → h k ≠ 0 → ¬ Crs i (h i) k (h k)
/-- Each yield is a row. -/
def Row (n : Nat) (h : Int → Int) : Prop := ∀ w : Int, 1 ≤ w → w ≤ n → ∀ x y z, Und h x w → Und h z w → x ≤ y → y ≤ z → Und h y w
/-- All words between a word and its head are under that head. -/
def Bet (h : Int → Int) : Prop := ∀ k, h k ≠ 0 → ∀ j, Btw j k (h k) → Und h j (h k)
/-- The root is not covered. -/
def NoCov (n : Nat) (h : Int → Int) : Prop := ∀ r : Int, 1 ≤ r → r ≤ n → h r = 0 → ∀ k, h k ≠ 0 → ¬ Btw r k (h k)

section
variable {n : Nat} {h : Int → Int}

theorem row_bet (T : Tr n h) (R : Row n h) : Bet h := by
 intro k hk j hj
 have hw := T.word hk
 unfold Btw at hj
 rcases hj with hj | hj
 ·exact R (h k) hw.1 hw.2 k j (h k) (Und.head h k) (Und.refl _ _) (by omega) (by omega)
 ·exact R (h k) hw.1 hw.2 (h k) j k (Und.refl _ _) (Und.head h k) (by omega) (by omega)

theorem bet_to (hz0 : h 0 = 0) (B : Bet h) {w : Int} (hw : w ≠ 0) : ∀ (k : Nat) (y : Int), it h k y = w → ∀ x, (y ≤ x ∧ x ≤ w) ∨ (w ≤ x ∧ x ≤ y) → Und h x w := by
 intro k
 induction k with
 | zero =>
  intro y e x hx
  have e : y = w := e
  have : x = w := by omega
  rw [this]; exact Und.refl _ _
 | succ k ih =>
  intro y e x hx
  have e' : it h k (h y) = w := e
  by_cases hz : h y = 0
  ·rw [hz, it_zero hz0] at e'; exact absurd e'.symm hw
  ·by_cases hxy : x = y
   ·rw [hxy]; exact ⟨k + 1, e⟩
   ·by_cases hb : Btw x y (h y)
    ·exact (B y hz x hb).trans ⟨k, e'⟩
    ·refine ih (h y) e' x ?_
     unfold Btw at hb
     omega

theorem bet_row (T : Tr n h) (B : Bet h) : Row n h := by
 intro w h1 h2 x y z hx hz hxy hyz
 obtain ⟨j, ej⟩ := hx
 obtain ⟨k, ek⟩ := hz
 by_cases hyw : y ≤ w
 ·exact bet_to T.zero B (by omega) j x ej y (.inl ⟨hxy, hyw⟩)
 ·exact bet_to T.zero B (by omega) k z ek y (.inr ⟨by omega, hyz⟩)

theorem bet_nocov (T : Tr n h) (B : Bet h) : NoCov n h := by
 intro r h1 h2 h0 k hk hb
 have := T.root_und h0 hk (B k hk r hb)
 unfold Btw at hb
 omega

theorem bet_nocr (T : Tr n h) (B : Bet h) : NoCr h := by
 intro i k hi hk hc
 -- the head of the one is under the head of the other, both ways
 have one : ∀ i k, h i ≠ 0 → h k ≠ 0 → h k ≠ h i → Btw k i (h i) ∨ Btw (h k) i (h i) → Und h (h k) (h i) := by
  intro i k hi hk hne hb
  rcases hb with hb | hb
  ·rcases (B i hi k hb).cases with e | u
   ·unfold Btw at hb; omega
   ·exact u
  ·exact B i hi _ hb
 have hne : h k ≠ h i := by
  unfold Crs Btw Outs at hc
  omega
 have x : Und h (h k) (h i) := one i k hi hk hne (by unfold Crs at hc; rcases hc with hc | hc; exact .inl hc.1; exact .inr hc.1)
 have y : Und h (h i) (h k) := one k i hk hi (Ne.symm hne) (by unfold Crs Btw Outs at *; omega)
 exact hne (T.anti (T.word hk) x y)

theorem nocr_bet (T : Tr n h) (N : NoCr h) (C : NoCov n h) : Bet h := by
 intro k hk j hj
 have hw := T.word hk
 have hwk := T.word_of hk
 have key : ∀ j : Int, 1 ≤ j → j ≤ n → Btw j k (h k) → Und h j (h k) := by
  refine T.ind (P := fun j => Btw j k (h k) → Und h j (h k)) ?_ ?_
  ·intro a h1 h2 h0 hb
   exact absurd hb (C a h1 h2 h0 k hk)
  ·intro a h1 h2 h0 ih hb
   by_cases hb2 : Btw (h a) k (h k)
   ·exact (ih hb2).up
   ·by_cases e1 : h a = k
    ·exact Und.up (by rw [e1]; exact Und.head h k)
    ·by_cases e2 : h a = h k
     ·exact Und.up (by rw [e2]; exact Und.refl _ _)
     ·refine absurd ?_ (N k a hk h0)
      unfold Crs Btw Outs at *
      omega
 exact key j (by unfold Btw at hj; omega) (by unfold Btw at hj; omega) hj

theorem row_iff (T : Tr n h) : Row n h ↔ NoCr h ∧ NoCov n h :=
 ⟨fun R => ⟨bet_nocr T (row_bet T R), bet_nocov T (row_bet T R)⟩, fun N => bet_row T (nocr_bet T N.1 N.2)⟩
theorem row_iff_bet (T : Tr n h) : Row n h ↔ Bet h := ⟨row_bet T, bet_row T⟩

/-! ### Words that hang together -/
/-- What is the same along each arc of the words of A is the same all over A. -/
def Conn (h : Int → Int) (A : Int → Prop) : Prop := ∀ P : Int → Prop, (∀ a, A a → h a ≠ 0 → A (h a) → (P a ↔ P (h a))) → ∀ a b, A a → A b → (P a ↔ P b)

theorem conn_und (T : Tr n h) {w : Int} (hw : 1 ≤ w ∧ w ≤ n) : Conn h (fun a => Und h a w) := by
 intro P hP
 have key : ∀ k a, it h k a = w → (P a ↔ P w) := by
  intro k
  induction k with
  | zero => intro a e; have : a = w := e; rw [this]
  | succ k ih =>
   intro a e
   by_cases hz : h a = 0
   ·have : it h k (h a) = w := e
    rw [hz, it_zero T.zero] at this; omega
   ·exact (hP a ⟨k + 1, e⟩ hz ⟨k, e⟩).trans (ih (h a) e)
 intro a b ⟨j, ej⟩ ⟨k, ek⟩
 exact (key j a ej).trans (key k b ek).symm

theorem conn_not (T : Tr n h) {w : Int} : Conn h (fun a => (1 ≤ a ∧ a ≤ (n : Int)) ∧ ¬ Und h a w) := by
 intro P hP
 obtain ⟨r, hr, h0, uq⟩ := T.root
 have key : ∀ a : Int, 1 ≤ a → a ≤ n → ¬ Und h a w → (P a ↔ P r) := by
  refine T.ind (P := fun a => ¬ Und h a w → (P a ↔ P r)) ?_ ?_
  ·intro a h1 h2 e _; rw [uq a h1 h2 e]
  ·intro a h1 h2 hz ih hn
   have hn2 : ¬ Und h (h a) w := fun u => hn u.up
   exact (hP a ⟨⟨h1, h2⟩, hn⟩ hz ⟨T.word hz, hn2⟩).trans (ih hn2)
 intro a b ha hb
 exact (key a ha.1.1 ha.1.2 ha.2).trans (key b hb.1.1 hb.1.2 hb.2).symm

/-- Without crossings two sets of words that hang together, without a common word, do not go by turns. -/
theorem no_turns (N : NoCr h) {A B : Int → Prop} (cA : Conn h A) (cB : Conn h B) (dis : ∀ x, A x → ¬ B x)
  {a1 b1 a2 b2 : Int} (ha1 : A a1) (ha2 : A a2) (hb1 : B b1) (hb2 : B b2) (o1 : a1 < b1) (o2 : b1 < a2) (o3 : a2 < b2) : False := by
 have s1 : ∀ b, B b → h b ≠ 0 → B (h b) → ((a1 < b ↔ a1 < h b) ↔ (a2 < b ↔ a2 < h b)) := by
  intro b hb hz hhb
  refine cA (fun a => (a < b ↔ a < h b)) ?_ a1 a2 ha1 ha2
  intro a ha hza hha
  have n1 : a ≠ b := fun e => dis a ha (e ▸ hb)
  have n2 : a ≠ h b := fun e => dis a ha (e ▸ hhb)
  have n3 : h a ≠ b := fun e => dis _ hha (e ▸ hb)
  have n4 : h a ≠ h b := fun e => dis _ hha (e ▸ hhb)
  have nc := N a b hza hz
  unfold Crs Btw Outs at nc
  omega
 have s2 := cB (fun b => (a1 < b ↔ a2 < b)) (fun b hb hz hhb => by
  have := s1 b hb hz hhb
  omega) b1 b2 hb1 hb2
 omega

theorem turns_und (T : Tr n h) (N : NoCr h) {u w : Int} (hu : 1 ≤ u ∧ u ≤ n) (hw : 1 ≤ w ∧ w ≤ n) (x : ¬ Und h u w) (y : ¬ Und h w u) {a1 b1 a2 b2 : Int}
  (ha1 : Und h a1 u) (ha2 : Und h a2 u) (hb1 : Und h b1 w) (hb2 : Und h b2 w) (o1 : a1 < b1) (o2 : b1 < a2) (o3 : a2 < b2) : False :=
 no_turns N (conn_und T hu) (conn_und T hw) (fun _ hz hz2 => (hz.linear hz2).elim x y) ha1 ha2 hb1 hb2 o1 o2 o3

theorem gaps_und (T : Tr n h) (N : NoCr h) {u : Int} (hu : 1 ≤ u ∧ u ≤ n) {a1 b1 a2 b2 : Int}
  (ha1 : Und h a1 u) (ha2 : Und h a2 u) (hb1 : ¬ Und h b1 u) (hb2 : ¬ Und h b2 u) (w2 : 1 ≤ b2 ∧ b2 ≤ n) (o1 : a1 < b1) (o2 : b1 < a2) (o3 : a2 < b2) : False := by
 have w1 := T.und_word' ha1 hu
 have w3 := T.und_word' ha2 hu
 exact no_turns N (conn_und T hu) (conn_not T (w := u)) (fun _ hz hz2 => hz2.2 hz) ha1 ha2 ⟨⟨by omega, by omega⟩, hb1⟩ ⟨w2, hb2⟩ o1 o2 o3
end
end Hd
