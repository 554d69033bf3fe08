/- Plain facts: words read from the right or put in another order, a further word, sums over words, where two words meet, and turns. -/
import Derived.Test.YtdckgafgidfplaaHd8
namespace Hd

/-- An order of n words. -/
structure Perm (n : Nat) (o : List Int) : Prop where
 len : o.length = n
 rng : ∀ a : Int, 1 ≤ a → a ≤ n → 1 ≤ hd o a ∧ hd o a ≤ n
 inj : ∀ a b : Int, 1 ≤ a → a ≤ n → 1 ≤ b → b ≤ n → hd o a = hd o b → a = b
theorem sel_filter (p q : Int → Bool) : ∀ m, ((sel p m).filter q).length = cnt (fun a => p a && q a) m
 | 0 => rfl
 | m + 1 => by
  unfold sel cnt
  rw [List.filter_append, List.length_append, sel_filter p q m]
  by_cases h1 : p ((m : Int) + 1) = true
  ·by_cases h2 : q ((m : Int) + 1) = true <;> simp [h1, h2]
  ·simp [h1]

/-! ### Sums -/
def sumT (f : Int → Nat) : Nat → Nat
 | 0 => 0
 | m + 1 => sumT f m + f ((m : Int) + 1)
theorem sumT_congr {f g : Int → Nat} : ∀ {m : Nat}, (∀ a : Int, 1 ≤ a → a ≤ m → f a = g a) → sumT f m = sumT g m
 | 0, _ => rfl
 | m + 1, h => by
  unfold sumT
  rw [sumT_congr (m := m) (fun a h1 h2 => h a h1 (by omega)), h _ (by omega) (by omega)]
theorem sumT_add (f g : Int → Nat) : ∀ m, sumT (fun a => f a + g a) m = sumT f m + sumT g m
 | 0 => rfl
 | m + 1 => by
  unfold sumT
  rw [sumT_add f g m]; omega
theorem cnt_sum (p : Int → Bool) : ∀ m, cnt p m = sumT (fun a => if p a then 1 else 0) m
 | 0 => rfl
 | m + 1 => by
  unfold cnt sumT
  rw [cnt_sum p m]
theorem cnt_add {p q : Int → Bool} : ∀ {m : Nat}, (∀ a : Int, 1 ≤ a → a ≤ m → ¬ (p a = true ∧ q a = true)) → cnt (fun a => p a || q a) m = cnt p m + cnt q m
 | 0, _ => rfl
 | m + 1, h => by
  unfold cnt
  rw [cnt_add (m := m) (fun a h1 h2 => h a h1 (by omega))]
  have := h ((m : Int) + 1) (by omega) (by omega)
  cases h1 : p ((m : Int) + 1) <;> cases h2 : q ((m : Int) + 1) <;> simp_all <;> omega
theorem sumT_front (f : Int → Nat) : ∀ m, sumT f (m + 1) = f 1 + sumT (fun a => f (a + 1)) m
 | 0 => by simp [sumT]
 | m + 1 => by
  rw [sumT, sumT_front f m, sumT]
  have : (((m + 1 : Nat) : Int) + 1) = (m : Int) + 1 + 1 := by omega
  rw [this]; omega
theorem sumT_rev (f : Int → Nat) : ∀ m : Nat, sumT (fun a => f ((m : Int) + 1 - a)) m = sumT f m
 | 0 => rfl
 | m + 1 => by
  rw [sumT_front, sumT]
  have e : sumT (fun a => f (((m + 1 : Nat) : Int) + 1 - (a + 1))) m = sumT (fun a => f ((m : Int) + 1 - a)) m := sumT_congr fun a _ _ => by congr 1; omega
  rw [e, sumT_rev f m, show ((m + 1 : Nat) : Int) + 1 - 1 = (m : Int) + 1 from by omega]; omega
theorem cnt_rev (p : Int → Bool) (m : Nat) : cnt (fun a => p ((m : Int) + 1 - a)) m = cnt p m := by
 rw [cnt_sum, cnt_sum]
 exact sumT_rev (fun a => if p a then 1 else 0) m
/-- Pairs, each once, of a relation that is the same both ways. -/
def prN (R : Int → Int → Bool) : Nat → Nat
 | 0 => 0
 | m + 1 => prN R m + cnt (R ((m : Int) + 1)) m
theorem prN_congr {R S : Int → Int → Bool} : ∀ {m : Nat}, (∀ a b : Int, 1 ≤ a → a ≤ m → 1 ≤ b → b ≤ m → R a b = S a b) → prN R m = prN S m
 | 0, _ => rfl
 | m + 1, h => by
  unfold prN
  rw [prN_congr (m := m) (fun a b h1 h2 h3 h4 => h a b h1 (by omega) h3 (by omega)), cnt_congr (p := R ((m : Int) + 1)) (q := S ((m : Int) + 1)) (fun a h1 h2 => h _ _ (by omega) (by omega) h1 (by omega))]
theorem prN_twice {R : Int → Int → Bool} : ∀ {m : Nat}, (∀ a b : Int, R a b = R b a) → (∀ a : Int, R a a = false) → 2 * prN R m = sumT (fun a => cnt (R a) m) m
 | 0, _, _ => rfl
 | m + 1, hs, hi => by
  have ih := prN_twice (R := R) (m := m) hs hi
  unfold prN sumT
  have e : sumT (fun a => cnt (R a) (m + 1)) m = sumT (fun a => cnt (R a) m) m + cnt (R ((m : Int) + 1)) m := by
   rw [cnt_sum (R ((m : Int) + 1)), ← sumT_add]
   refine sumT_congr fun a _ _ => ?_
   rw [cnt, hs a]
  rw [e, cnt, hi]
  simp; omega
theorem prN_rev {R S : Int → Int → Bool} {m : Nat} (hs : ∀ a b : Int, R a b = R b a) (hi : ∀ a : Int, R a a = false) (hs2 : ∀ a b : Int, S a b = S b a) (hi2 : ∀ a : Int, S a a = false)
  (h : ∀ a b : Int, 1 ≤ a → a ≤ m → 1 ≤ b → b ≤ m → S a b = R ((m : Int) + 1 - a) ((m : Int) + 1 - b)) : prN S m = prN R m := by
 have h1 := prN_twice (m := m) hs hi
 have h2 := prN_twice (m := m) hs2 hi2
 have e : sumT (fun a => cnt (S a) m) m = sumT (fun a => cnt (R a) m) m := by
  rw [← sumT_rev (fun a => cnt (R a) m)]
  refine sumT_congr fun a k1 k2 => ?_
  rw [← cnt_rev (R ((m : Int) + 1 - a))]
  exact cnt_congr fun b k3 k4 => h a b k1 k2 k3 k4
 omega

/-! ### The same tree under other names -/
/-- s renames the words of l as those of m. -/
structure Ren (l m : List Int) (s : Int → Int) : Prop where
 len : m.length = l.length
 zero : s 0 = 0
 rng : ∀ a : Int, 1 ≤ a → a ≤ l.length → 1 ≤ s a ∧ s a ≤ l.length
 sur : ∀ b : Int, 1 ≤ b → b ≤ l.length → ∃ a : Int, (1 ≤ a ∧ a ≤ l.length) ∧ s a = b
 inj : ∀ a b : Int, 1 ≤ a → a ≤ l.length → 1 ≤ b → b ≤ l.length → s a = s b → a = b
 head : ∀ a : Int, 1 ≤ a → a ≤ l.length → hd m (s a) = s (hd l a)

namespace Ren
variable {l m : List Int} {s : Int → Int}
theorem iter (R : Ren l m s) (t : T l) : ∀ (k : Nat) (a : Int), 0 ≤ a → a ≤ l.length → it (hd m) k (s a) = s (it (hd l) k a)
 | 0, _, _, _ => rfl
 | k + 1, a, h0, h1 => by
  have e : hd m (s a) = s (hd l a) := by
   by_cases hz : a = 0
   ·rw [hz, R.zero, hd_zero, hd_zero, R.zero]
   ·exact R.head a (by omega) h1
  show it (hd m) k (hd m (s a)) = s (it (hd l) k (hd l a))
  rw [e]
  exact R.iter t k (hd l a) (t.2.lo a) (t.2.hi a)
theorem it_rng (t : T l) : ∀ (k : Nat) (a : Int), 0 ≤ a → a ≤ l.length → 0 ≤ it (hd l) k a ∧ it (hd l) k a ≤ l.length
 | 0, _, h0, h1 => ⟨h0, h1⟩
 | k + 1, a, _, _ => it_rng t k (hd l a) (t.2.lo a) (t.2.hi a)
theorem zero_iff (R : Ren l m s) {a : Int} (h0 : 0 ≤ a) (h1 : a ≤ l.length) : s a = 0 ↔ a = 0 := by
 constructor
 ·intro e
  apply Classical.byContradiction
  intro hz
  have := R.rng a (by omega) h1
  omega
 ·intro e; rw [e, R.zero]
theorem tree (R : Ren l m s) (t : T l) : T m := by
 have hl := R.len
 refine ⟨by rw [hl]; exact t.1, fun a ha => hd_out ha, ?_, ?_, ?_, ?_⟩
 ·intro b
  by_cases hb : 1 ≤ b ∧ b ≤ (m.length : Int)
  ·obtain ⟨a, ha, rfl⟩ := R.sur b hb.1 (by omega)
   rw [R.head a ha.1 ha.2]
   by_cases hz : hd l a = 0
   ·rw [hz, R.zero]; omega
   ·have := t.2.word hz
    have := R.rng _ this.1 this.2
    omega
  ·rw [hd_out hb]; omega
 ·intro b
  by_cases hb : 1 ≤ b ∧ b ≤ (m.length : Int)
  ·obtain ⟨a, ha, rfl⟩ := R.sur b hb.1 (by omega)
   rw [R.head a ha.1 ha.2]
   by_cases hz : hd l a = 0
   ·rw [hz, R.zero]; omega
   ·have := t.2.word hz
    have := R.rng _ this.1 this.2
    omega
  ·rw [hd_out hb]; omega
 ·obtain ⟨r, hr, h0, uq⟩ := t.2.root
  refine ⟨s r, by rw [hl]; exact R.rng r hr.1 hr.2, by rw [R.head r hr.1 hr.2, h0, R.zero], ?_⟩
  intro b h1 h2 e
  obtain ⟨a, ha, rfl⟩ := R.sur b h1 (by omega)
  rw [R.head a ha.1 ha.2, R.zero_iff (t.2.lo a) (t.2.hi a)] at e
  rw [uq a ha.1 ha.2 e]
 ·intro b h1 h2
  obtain ⟨a, ha, rfl⟩ := R.sur b h1 (by omega)
  rw [hl, R.iter t _ a (by omega) ha.2, t.2.back a ha.1 ha.2, R.zero]
theorem und (R : Ren l m s) (t : T l) {a b : Int} (ha : 1 ≤ a ∧ a ≤ (l.length : Int)) (hb : 1 ≤ b ∧ b ≤ (l.length : Int)) : Und (hd m) (s a) (s b) ↔ Und (hd l) a b := by
 constructor
 ·rintro ⟨k, e⟩
  rw [R.iter t k a (by omega) ha.2] at e
  have hr := it_rng t k a (by omega) ha.2
  refine ⟨k, ?_⟩
  by_cases hz : it (hd l) k a = 0
  ·rw [hz, R.zero] at e
   have := R.rng b hb.1 hb.2
   omega
  ·exact R.inj _ b (by omega) hr.2 hb.1 hb.2 e
 ·rintro ⟨k, e⟩
  exact ⟨k, by rw [R.iter t k a (by omega) ha.2, e]⟩
theorem depth (R : Ren l m s) (t : T l) : ∀ a : Int, 1 ≤ a → a ≤ l.length → dep m.length (hd m) (s a) = dep l.length (hd l) a := by
 have t2 := (R.tree t).2
 refine t.2.ind (P := fun a => dep m.length (hd m) (s a) = dep l.length (hd l) a) ?_ ?_
 ·intro a h1 h2 h0
  rw [t.2.dep_root h0, t2.dep_root (by rw [R.head a h1 h2, h0, R.zero])]
 ·intro a h1 h2 h0 ih
  have hn : hd m (s a) ≠ 0 := by
   rw [R.head a h1 h2]
   exact fun e => h0 ((R.zero_iff (t.2.lo a) (t.2.hi a)).1 e)
  rw [t.2.dep_head h0, t2.dep_head hn, R.head a h1 h2, ih]
end Ren

/-! ### Read from the right -/
def rv (n : Nat) (a : Int) : Int := if a = 0 then 0 else (n : Int) + 1 - a
theorem rv_word {n : Nat} {a : Int} (h : a ≠ 0) : rv n a = (n : Int) + 1 - a := if_neg h
theorem back_len {l : List Int} (t : T l) : (backL l).length = l.length := by rw [backL, if_pos t, tab_length]
theorem back_hd {l : List Int} (t : T l) {a : Int} (h1 : 1 ≤ a) (h2 : a ≤ l.length) : hd (backL l) a = rv l.length (hd l ((l.length : Int) + 1 - a)) := by
 rw [backL, if_pos t, hd_tab h1 h2]; rfl
theorem back_ren {l : List Int} (t : T l) : Ren l (backL l) (rv l.length) where
 len := back_len t
 zero := if_pos rfl
 rng := fun a h1 h2 => by rw [rv_word (by omega)]; omega
 sur := fun b h1 h2 => ⟨(l.length : Int) + 1 - b, by omega, by rw [rv_word (by omega)]; omega⟩
 inj := fun a b h1 h2 h3 h4 e => by rw [rv_word (by omega), rv_word (by omega)] at e; omega
 head := fun a h1 h2 => by
  rw [rv_word (show a ≠ 0 by omega), back_hd t (by omega) (by omega)]
  congr 2; omega
theorem back_T {l : List Int} (t : T l) : T (backL l) := (back_ren t).tree t
theorem rv_rv {n : Nat} {a : Int} (h1 : 1 ≤ a) (h2 : a ≤ n) : rv n (rv n a) = a := by
 rw [rv_word (a := a) (by omega), rv_word (by omega)]; omega
theorem back_back {l : List Int} (t : T l) : backL (backL l) = l := by
 have t2 := back_T t
 have hl := back_len t
 have hl2 := back_len t2
 refine eq_of_hd (by omega) fun a h1 h2 => ?_
 rw [hl2, hl] at h2
 rw [back_hd t2 h1 (by omega), hl, back_hd t (by omega) (by omega)]
 rw [show (l.length : Int) + 1 - ((l.length : Int) + 1 - a) = a from by omega]
 by_cases hz : hd l a = 0
 ·rw [hz]; rfl
 ·have := t.2.word hz
  exact rv_rv this.1 this.2
theorem back_und {l : List Int} (t : T l) {a b : Int} (ha : 1 ≤ a ∧ a ≤ (l.length : Int)) (hb : 1 ≤ b ∧ b ≤ (l.length : Int)) : Und (hd (backL l)) ((l.length : Int) + 1 - a) ((l.length : Int) + 1 - b) ↔ Und (hd l) a b := by
 have := (back_ren t).und t ha hb
 rwa [rv_word (by omega), rv_word (by omega)] at this
theorem back_row {l : List Int} (t : T l) (R : Row l.length (hd l)) : Row (backL l).length (hd (backL l)) := by
 have hl := back_len t
 intro w h1 h2 x y z hx hz hxy hyz
 have t2 := back_T t
 have wx := t2.2.und_word' hx ⟨h1, h2⟩
 have wz := t2.2.und_word' hz ⟨h1, h2⟩
 have e : ∀ a : Int, (l.length : Int) + 1 - ((l.length : Int) + 1 - a) = a := fun a => by omega
 have ux := (back_und t (a := (l.length : Int) + 1 - x) (b := (l.length : Int) + 1 - w) (by omega) (by omega)).1 (by rw [e, e]; exact hx)
 have uz := (back_und t (a := (l.length : Int) + 1 - z) (b := (l.length : Int) + 1 - w) (by omega) (by omega)).1 (by rw [e, e]; exact hz)
 have uy := R ((l.length : Int) + 1 - w) (by omega) (by omega) ((l.length : Int) + 1 - z) ((l.length : Int) + 1 - y) ((l.length : Int) + 1 - x) uz ux (by omega) (by omega)
 have := (back_und t (a := (l.length : Int) + 1 - y) (b := (l.length : Int) + 1 - w) (by omega) (by omega)).2 uy
 rwa [e, e] at this
theorem back_flat {l : List Int} (t : T l) : flatB (backL l) = flatB l := bool_eq (by
 rw [flatB_true, flatB_true]
 constructor
 ·rintro ⟨t2, r⟩
  have := back_row t2 r
  rw [back_back t] at this
  exact ⟨t, this⟩
 ·rintro ⟨_, r⟩
  exact ⟨back_T t, back_row t r⟩)

/-! ### A further word -/
theorem app_hd {l : List Int} {k a : Int} (h1 : 1 ≤ a) (h2 : a ≤ l.length) : hd (l ++ [k]) a = hd l a := by
 rw [← hd_get h1, ← hd_get h1, List.getD_eq_getElem?_getD, List.getElem?_append_left (by omega), List.getD_eq_getElem?_getD]
theorem app_last {l : List Int} {k : Int} : hd (l ++ [k]) ((l.length : Int) + 1) = k := by
 rw [← hd_get (by omega), List.getD_eq_getElem?_getD, List.getElem?_append_right (by omega)]
 simp
theorem app_T {l : List Int} (t : T l) (h8 : l.length < 8) {k : Int} (h1 : 1 ≤ k) (h2 : k ≤ l.length) : T (l ++ [k]) := by
 have hl : (l ++ [k]).length = l.length + 1 := by simp
 have iter : ∀ (j : Nat) (a : Int), 0 ≤ a → a ≤ l.length → it (hd (l ++ [k])) j a = it (hd l) j a := by
  intro j
  induction j with
  | zero => intro a _ _; rfl
  | succ j ih =>
   intro a h3 h4
   show it (hd (l ++ [k])) j (hd (l ++ [k]) a) = it (hd l) j (hd l a)
   have e : hd (l ++ [k]) a = hd l a := by
    by_cases hz : a = 0
    ·rw [hz, hd_zero, hd_zero]
    ·exact app_hd (by omega) h4
   rw [e]
   exact ih (hd l a) (t.2.lo a) (t.2.hi a)
 have val : ∀ a : Int, 1 ≤ a → a ≤ (l.length : Int) + 1 → hd (l ++ [k]) a = if a ≤ l.length then hd l a else k := by
  intro a h3 h4
  by_cases h5 : a ≤ (l.length : Int)
  ·rw [if_pos h5]; exact app_hd h3 h5
  ·rw [if_neg h5, show a = (l.length : Int) + 1 from by omega]; exact app_last
 have sm : ∀ a : Int, 0 ≤ hd (l ++ [k]) a ∧ hd (l ++ [k]) a ≤ l.length := by
  intro a
  by_cases hw : 1 ≤ a ∧ a ≤ (l.length : Int) + 1
  ·rw [val a hw.1 hw.2]
   split
   ·exact ⟨t.2.lo a, t.2.hi a⟩
   ·omega
  ·rw [hd_out (by rw [hl]; omega)]; omega
 refine ⟨by omega, fun a ha => hd_out ha, fun a => (sm a).1, fun a => by have := (sm a).2; omega, ?_, ?_⟩
 ·obtain ⟨r, hr, h0, uq⟩ := t.2.root
  refine ⟨r, by omega, by rw [app_hd hr.1 hr.2]; exact h0, fun a h3 h4 e => ?_⟩
  rw [val a h3 (by omega)] at e
  split at e
  ·exact uq a h3 (by omega) e
  ·omega
 ·intro a h3 h4
  rw [hl]
  by_cases h5 : a ≤ (l.length : Int)
  ·rw [iter _ a (by omega) h5]
   exact it_more (hd_zero l) (t.2.back a h3 h5) (by omega)
  ·show it (hd (l ++ [k])) l.length (hd (l ++ [k]) a) = 0
   rw [val a h3 (by omega), if_neg h5, iter _ k (by omega) h2]
   exact t.2.back k h1 h2

/-! ### Where two words meet -/
theorem meetF_spec {l : List Int} (t : T l) {b : Int} (hb : 1 ≤ b ∧ b ≤ (l.length : Int)) : ∀ (k : Nat) (a : Int), 1 ≤ a → a ≤ l.length → it (hd l) k a = 0 →
  Und (hd l) a (meetF l k a b) ∧ Und (hd l) b (meetF l k a b) ∧ (1 ≤ meetF l k a b ∧ meetF l k a b ≤ l.length) ∧ ∀ c, Und (hd l) a c → Und (hd l) b c → Und (hd l) (meetF l k a b) c
 | 0, a, h1, _, e => by have : a = 0 := e; omega
 | k + 1, a, h1, h2, e => by
  rw [meetF]
  by_cases hu : undB l b a = true
  ·rw [if_pos hu]
   exact ⟨Und.refl _ _, undB_true.1 hu, ⟨h1, h2⟩, fun c h3 _ => h3⟩
  ·rw [if_neg hu]
   have hz : hd l a ≠ 0 := fun hz => hu (undB_true.2 (t.2.und_root ⟨h1, h2⟩ hz b hb.1 hb.2))
   have hw := t.2.word hz
   obtain ⟨i1, i2, i3, i4⟩ := meetF_spec t hb k (hd l a) hw.1 hw.2 e
   refine ⟨i1.up, i2, i3, fun c h3 h4 => i4 c ?_ h4⟩
   rcases h3.cases with e2 | u
   ·subst e2; exact absurd (undB_true.2 h4) hu
   ·exact u

/-! ### Turns: a pattern of four words -/
/-- An ascending row of c words that are by turns of both sets, the last one of p if s, and else of q. -/
def Alt (p q : Int → Bool) : Bool → Nat → Int → Prop
 | _, 0, _ => True
 | s, c + 1, m => ∃ x : Int, 1 ≤ x ∧ x ≤ m ∧ (if s then p x else q x) = true ∧ Alt p q (!s) c (x - 1)
theorem Alt.mono {p q : Int → Bool} : ∀ {c : Nat} {s : Bool} {m m' : Int}, Alt p q s c m → m ≤ m' → Alt p q s c m'
 | 0, _, _, _, _, _ => trivial
 | _ + 1, _, _, _, ⟨x, h1, h2, h3, h4⟩, hle => ⟨x, h1, by omega, h3, h4⟩
theorem Alt.step {p q : Int → Bool} {c : Nat} {s : Bool} {m : Int} (hm : 0 ≤ m) : Alt p q s (c + 1) (m + 1) ↔ Alt p q s (c + 1) m ∨ ((if s then p (m + 1) else q (m + 1)) = true ∧ Alt p q (!s) c m) := by
 constructor
 ·rintro ⟨x, h1, h2, h3, h4⟩
  by_cases e : x = m + 1
  ·subst e
   exact .inr ⟨h3, by rwa [show m + 1 - 1 = m from by omega] at h4⟩
  ·exact .inl ⟨x, h1, by omega, h3, h4⟩
 ·rintro (h | ⟨h3, h4⟩)
  ·exact h.mono (by omega)
  ·exact ⟨m + 1, by omega, by omega, h3, by rwa [show m + 1 - 1 = m from by omega]⟩
theorem alt_tnS {p q : Int → Bool} {n : Nat} (dis : ∀ a : Int, 1 ≤ a → a ≤ n → ¬ (p a = true ∧ q a = true)) : ∀ m : Nat, m ≤ n →
  ((tnS p q m).1 = 0 ∧ (tnS p q m).2 = 0 ∧ ∀ s c, Alt p q s c m ↔ c ≤ 0) ∨
  ((tnS p q m).1 = 1 ∧ 1 ≤ (tnS p q m).2 ∧ (∀ c : Nat, Alt p q true c m ↔ (c : Int) ≤ (tnS p q m).2) ∧ ∀ c : Nat, Alt p q false c m ↔ (c : Int) ≤ (tnS p q m).2 - 1) ∨
  ((tnS p q m).1 = 2 ∧ 1 ≤ (tnS p q m).2 ∧ (∀ c : Nat, Alt p q false c m ↔ (c : Int) ≤ (tnS p q m).2) ∧ ∀ c : Nat, Alt p q true c m ↔ (c : Int) ≤ (tnS p q m).2 - 1)
 | 0, _ => by
  refine .inl ⟨rfl, rfl, fun s c => ?_⟩
  cases c with
  | zero => simp [Alt]
  | succ c =>
   constructor
   ·rintro ⟨x, h1, h2, _⟩; omega
   ·intro h; omega
 | m + 1, hm => by
  have ih := alt_tnS dis m (by omega)
  have hd := dis ((m : Int) + 1) (by omega) (by omega)
  have z : ∀ s, Alt p q s 0 ((m : Int) + 1) ↔ True := fun s => by simp [Alt]
  have st := fun s c => Alt.step (p := p) (q := q) (c := c) (s := s) (m := (m : Int)) (by omega)
  rw [show ((m + 1 : Nat) : Int) = (m : Int) + 1 from by omega]
  rw [tnS]
  generalize tnS p q m = u at *
  have stT : ∀ c, Alt p q true (c + 1) ((m : Int) + 1) ↔ Alt p q true (c + 1) m ∨ (p ((m : Int) + 1) = true ∧ Alt p q false c m) := fun c => st true c
  have stF : ∀ c, Alt p q false (c + 1) ((m : Int) + 1) ↔ Alt p q false (c + 1) m ∨ (q ((m : Int) + 1) = true ∧ Alt p q true c m) := fun c => st false c
  by_cases hp : p ((m : Int) + 1) = true
  ·have hq : q ((m : Int) + 1) = false := by
    cases hq : q ((m : Int) + 1) with
    | false => rfl
    | true => exact absurd ⟨hp, hq⟩ hd
   rw [if_pos hp]
   simp only [hp, hq, true_and, Bool.false_eq_true, false_and, or_false] at stT stF
   rcases ih with ⟨h1, h2, h3⟩ | ⟨h1, h2, h3, h4⟩ | ⟨h1, h2, h3, h4⟩
   ·rw [if_neg (by omega)]
    refine .inr (.inl ⟨rfl, by simp only; omega, fun c => ?_, fun c => ?_⟩)
    ·cases c with
     | zero => rw [z]; simp; omega
     | succ c => rw [stT, h3, h3]; simp only; omega
    ·cases c with
     | zero => rw [z]; simp; omega
     | succ c => rw [stF, h3]; simp only; omega
   ·rw [if_pos h1]
    refine .inr (.inl ⟨h1, h2, fun c => ?_, fun c => ?_⟩)
    ·cases c with
     | zero => rw [z]; simp; omega
     | succ c => rw [stT, h3, h4]; omega
    ·cases c with
     | zero => rw [z]; simp; omega
     | succ c => rw [stF, h4]
   ·rw [if_neg (by omega)]
    refine .inr (.inl ⟨rfl, by simp only; omega, fun c => ?_, fun c => ?_⟩)
    ·cases c with
     | zero => rw [z]; simp; omega
     | succ c => rw [stT, h4, h3]; simp only; omega
    ·cases c with
     | zero => rw [z]; simp; omega
     | succ c => rw [stF, h3]; simp only; omega
  ·rw [if_neg hp]
   have hp' : p ((m : Int) + 1) = false := by simpa using hp
   simp only [hp', Bool.false_eq_true, false_and, or_false] at stT
   by_cases hq : q ((m : Int) + 1) = true
   ·rw [if_pos hq]
    simp only [hq, true_and] at stF
    rcases ih with ⟨h1, h2, h3⟩ | ⟨h1, h2, h3, h4⟩ | ⟨h1, h2, h3, h4⟩
    ·rw [if_neg (by omega)]
     refine .inr (.inr ⟨rfl, by simp only; omega, fun c => ?_, fun c => ?_⟩)
     ·cases c with
      | zero => rw [z]; simp; omega
      | succ c => rw [stF, h3, h3]; simp only; omega
     ·cases c with
      | zero => rw [z]; simp; omega
      | succ c => rw [stT, h3]; simp only; omega
    ·rw [if_neg (by omega)]
     refine .inr (.inr ⟨rfl, by simp only; omega, fun c => ?_, fun c => ?_⟩)
     ·cases c with
      | zero => rw [z]; simp; omega
      | succ c => rw [stF, h4, h3]; simp only; omega
     ·cases c with
      | zero => rw [z]; simp; omega
      | succ c => rw [stT, h3]; simp only; omega
    ·rw [if_pos h1]
     refine .inr (.inr ⟨h1, h2, fun c => ?_, fun c => ?_⟩)
     ·cases c with
      | zero => rw [z]; simp; omega
      | succ c => rw [stF, h3, h4]; omega
     ·cases c with
      | zero => rw [z]; simp; omega
      | succ c => rw [stT, h4]
   ·rw [if_neg hq]
    have hq' : q ((m : Int) + 1) = false := by simpa using hq
    simp only [hq', Bool.false_eq_true, false_and, or_false] at stF
    have same : ∀ s c, Alt p q s c ((m : Int) + 1) ↔ Alt p q s c m := by
     intro s c
     cases c with
     | zero => simp [Alt]
     | succ c => cases s <;> simp [stT, stF]
    simp only [same]
    exact ih
/-- Four words by turns. -/
def Pat (p q : Int → Bool) (n : Nat) : Prop := ∃ a b c d : Int, 1 ≤ a ∧ a < b ∧ b < c ∧ c < d ∧ d ≤ n ∧ ((p a = true ∧ q b = true ∧ p c = true ∧ q d = true) ∨ (q a = true ∧ p b = true ∧ q c = true ∧ p d = true))
theorem alt_four {p q : Int → Bool} {n : Nat} : (Alt p q true 4 n ∨ Alt p q false 4 n) ↔ Pat p q n := by
 constructor
 ·rintro (⟨d, h1, h2, h3, c, h4, h5, h6, b, h7, h8, h9, a, k1, k2, k3, _⟩ | ⟨d, h1, h2, h3, c, h4, h5, h6, b, h7, h8, h9, a, k1, k2, k3, _⟩)
  ·simp at h3 h6 h9 k3
   exact ⟨a, b, c, d, k1, by omega, by omega, by omega, by omega, .inr ⟨k3, h9, h6, h3⟩⟩
  ·simp at h3 h6 h9 k3
   exact ⟨a, b, c, d, k1, by omega, by omega, by omega, by omega, .inl ⟨k3, h9, h6, h3⟩⟩
 ·rintro ⟨a, b, c, d, h1, h2, h3, h4, h5, ⟨k1, k2, k3, k4⟩ | ⟨k1, k2, k3, k4⟩⟩
  ·exact .inr ⟨d, by omega, by omega, by simpa using k4, c, by omega, by omega, by simpa using k3, b, by omega, by omega, by simpa using k2, a, by omega, by omega, by simpa using k1, trivial⟩
  ·exact .inl ⟨d, by omega, by omega, by simpa using k4, c, by omega, by omega, by simpa using k3, b, by omega, by omega, by simpa using k2, a, by omega, by omega, by simpa using k1, trivial⟩
theorem tnS_four {p q : Int → Bool} {n : Nat} (dis : ∀ a : Int, 1 ≤ a → a ≤ n → ¬ (p a = true ∧ q a = true)) : (tnS p q n).2 ≥ 4 ↔ Pat p q n := by
 rw [← alt_four]
 rcases alt_tnS dis n (Nat.le_refl _) with ⟨_, h2, h3⟩ | ⟨_, h2, h3, h4⟩ | ⟨_, h2, h3, h4⟩
 ·rw [h3, h3]; omega
 ·rw [h3, h4]; omega
 ·rw [h3, h4]; omega

/-! ### Crossings -/
theorem crsN_pr (l : List Int) : ∀ m, crsN l m = prN (fun i k => crsB i (hd l i) k (hd l k)) m
 | 0 => rfl
 | m + 1 => by rw [crsN, prN, crsN_pr l m]
theorem cnt_zero {p : Int → Bool} {m : Nat} : cnt p m = 0 ↔ ∀ a : Int, 1 ≤ a → a ≤ m → p a = false := by
 constructor
 ·intro h a h1 h2
  cases hp : p a with
  | false => rfl
  | true => have := cnt_pos h1 h2 hp; omega
 ·exact cnt_none
theorem prN_zero {R : Int → Int → Bool} : ∀ {m : Nat}, prN R m = 0 ↔ ∀ a b : Int, 1 ≤ b → b < a → a ≤ m → R a b = false
 | 0 => by
  simp only [prN, true_iff]
  intro a b h1 h2 h3
  omega
 | m + 1 => by
  unfold prN
  rw [Nat.add_eq_zero_iff, prN_zero, cnt_zero]
  constructor
  ·rintro ⟨h1, h2⟩ a b k1 k2 k3
   by_cases e : a = (m : Int) + 1
   ·rw [e]; exact h2 b k1 (by omega)
   ·exact h1 a b k1 k2 (by omega)
  ·intro h
   exact ⟨fun a b k1 k2 k3 => h a b k1 k2 (by omega), fun b k1 k2 => h _ b k1 (by omega) (by omega)⟩
theorem crs_sym (a b c d : Int) : crsB a b c d = crsB c d a b := bool_eq (by rw [crsB_true, crsB_true]; unfold CrsP Crs Btw Outs; omega)
theorem crs_irr (a b : Int) : crsB a b a b = false := crsB_no (by unfold CrsP Crs Btw Outs; omega)
theorem crs_rv {n : Nat} {a b c d : Int} (ha : 1 ≤ a ∧ a ≤ n) (hb : 0 ≤ b ∧ b ≤ n) (hc : 1 ≤ c ∧ c ≤ n) (hd : 0 ≤ d ∧ d ≤ n) : crsB (rv n a) (rv n b) (rv n c) (rv n d) = crsB a b c d := bool_eq (by
 rw [crsB_true, crsB_true]
 unfold rv CrsP Crs Btw Outs
 rw [if_neg (show ¬ a = 0 by omega), if_neg (show ¬ c = 0 by omega)]
 split <;> split <;> omega)
theorem crsN_zero {l : List Int} (t : T l) : crsN l l.length = 0 ↔ NoCr (hd l) := by
 rw [crsN_pr, prN_zero]
 constructor
 ·intro h i k hi hk hc
  have wi := t.2.word_of hi
  have wk := t.2.word_of hk
  have pi := t.2.word hi
  have pk := t.2.word hk
  have p : CrsP i (hd l i) k (hd l k) := ⟨wi.1, pi.1, wk.1, pk.1, (t.2.not_own wi).symm, (t.2.not_own wk).symm, hc⟩
  by_cases hlt : k < i
  ·have := h i k wk.1 hlt wi.2
   rw [crsB_yes p] at this; cases this
  ·have hne : k ≠ i := fun e => by
    rw [e] at hc
    unfold Crs Btw Outs at hc; omega
   have := h k i wi.1 (by omega) wk.2
   rw [crs_sym, crsB_yes p] at this; cases this
 ·intro N a b h1 h2 h3
  refine crsB_no fun p => ?_
  exact N a b (by have := p.2.1; omega) (by have := p.2.2.2.1; omega) p.2.2.2.2.2.2
theorem crsN_back {l : List Int} (t : T l) : crsN (backL l) (backL l).length = crsN l l.length := by
 have t2 := back_T t
 rw [crsN_pr, crsN_pr, back_len t]
 refine prN_rev (fun a b => crs_sym _ _ _ _) (fun a => crs_irr _ _) (fun a b => crs_sym _ _ _ _) (fun a => crs_irr _ _) fun a b h1 h2 h3 h4 => ?_
 rw [back_hd t h1 h2, back_hd t h3 h4]
 have e1 : (l.length : Int) + 1 - a = rv l.length a := (rv_word (by omega)).symm
 have e2 : (l.length : Int) + 1 - b = rv l.length b := (rv_word (by omega)).symm
 have c := crs_rv (n := l.length) (a := (l.length : Int) + 1 - a) (b := hd l ((l.length : Int) + 1 - a)) (c := (l.length : Int) + 1 - b) (d := hd l ((l.length : Int) + 1 - b)) (by omega) ⟨t.2.lo _, t.2.hi _⟩ (by omega) ⟨t.2.lo _, t.2.hi _⟩
 rw [← c]
 congr 1
 ·rw [e1, rv_rv h1 h2]
 ·rw [e2, rv_rv h3 h4]
theorem crs_few {l : List Int} (t : T l) (h : l.length < 4) : crsN l l.length = 0 := by
 rw [crsN_zero t]
 intro i k hi hk hc
 have wi := t.2.word_of hi
 have wk := t.2.word_of hk
 have pi := t.2.word hi
 have pk := t.2.word hk
 unfold Crs Btw Outs at hc
 omega

/-! ### Turns of trees -/
theorem turns_dis {l : List Int} {a b : Int} (h1 : ¬ Und (hd l) a b) (h2 : ¬ Und (hd l) b a) : ∀ x : Int, 1 ≤ x → x ≤ l.length → ¬ (undB l x a = true ∧ undB l x b = true) :=
 fun _ _ _ ⟨u, v⟩ => ((undB_true.1 u).linear (undB_true.1 v)).elim h1 h2
theorem turns_pat {l : List Int} {a b : Int} : turnsB l a b = true ↔ T l ∧ (1 ≤ a ∧ a ≤ (l.length : Int)) ∧ (1 ≤ b ∧ b ≤ (l.length : Int)) ∧ ¬ Und (hd l) a b ∧ ¬ Und (hd l) b a ∧ Pat (fun x => undB l x a) (fun x => undB l x b) l.length := by
 rw [turnsB_true]
 constructor
 ·rintro ⟨t, ha, hb, h1, h2, h3⟩
  exact ⟨t, ha, hb, h1, h2, (tnS_four (turns_dis h1 h2)).1 h3⟩
 ·rintro ⟨t, ha, hb, h1, h2, h3⟩
  exact ⟨t, ha, hb, h1, h2, (tnS_four (turns_dis h1 h2)).2 h3⟩
theorem Pat.swap {p q : Int → Bool} {n : Nat} : Pat p q n → Pat q p n
 | ⟨a, b, c, d, h1, h2, h3, h4, h5, h⟩ => ⟨a, b, c, d, h1, h2, h3, h4, h5, h.symm⟩
theorem turns_swap (l : List Int) (a b : Int) : turnsB l b a = turnsB l a b := bool_eq (by
 rw [turns_pat, turns_pat]
 constructor
 ·rintro ⟨t, ha, hb, h1, h2, h3⟩; exact ⟨t, hb, ha, h2, h1, h3.swap⟩
 ·rintro ⟨t, ha, hb, h1, h2, h3⟩; exact ⟨t, hb, ha, h2, h1, h3.swap⟩)
theorem turns_nocr {l : List Int} (N : NoCr (hd l)) (a b : Int) : turnsB l a b = false := by
 cases h : turnsB l a b with
 | false => rfl
 | true =>
  obtain ⟨t, ha, hb, h1, h2, x, y, z, w, _, k2, k3, k4, _, ⟨u1, u2, u3, u4⟩ | ⟨u1, u2, u3, u4⟩⟩ := turns_pat.1 h
  ·exact (turns_und t.2 N ha hb h1 h2 (undB_true.1 u1) (undB_true.1 u3) (undB_true.1 u2) (undB_true.1 u4) k2 k3 k4).elim
  ·exact (turns_und t.2 N hb ha h2 h1 (undB_true.1 u1) (undB_true.1 u3) (undB_true.1 u2) (undB_true.1 u4) k2 k3 k4).elim
theorem turns_back {l : List Int} (t : T l) {a b : Int} (ha : 1 ≤ a ∧ a ≤ (l.length : Int)) (hb : 1 ≤ b ∧ b ≤ (l.length : Int)) (h : turnsB l a b = true) : turnsB (backL l) ((l.length : Int) + 1 - a) ((l.length : Int) + 1 - b) = true := by
 have hl := back_len t
 obtain ⟨_, _, _, h1, h2, x, y, z, w, k1, k2, k3, k4, k5, k6⟩ := turns_pat.1 h
 have e : ∀ (c v : Int), (1 ≤ c ∧ c ≤ (l.length : Int)) → (1 ≤ v ∧ v ≤ (l.length : Int)) → undB l v c = true → undB (backL l) ((l.length : Int) + 1 - v) ((l.length : Int) + 1 - c) = true := fun c v hc hv u => undB_true.2 ((back_und t hv hc).2 (undB_true.1 u))
 rw [turns_pat]
 refine ⟨back_T t, by omega, by omega, fun u => h1 ((back_und t ha hb).1 u), fun u => h2 ((back_und t hb ha).1 u), (l.length : Int) + 1 - w, (l.length : Int) + 1 - z, (l.length : Int) + 1 - y, (l.length : Int) + 1 - x, by omega, by omega, by omega, by omega, by omega, ?_⟩
 rcases k6 with ⟨u1, u2, u3, u4⟩ | ⟨u1, u2, u3, u4⟩
 ·exact .inr ⟨e b w hb (by omega) u4, e a z ha (by omega) u3, e b y hb (by omega) u2, e a x ha (by omega) u1⟩
 ·exact .inl ⟨e a w ha (by omega) u4, e b z hb (by omega) u3, e a y ha (by omega) u2, e b x hb (by omega) u1⟩
theorem nest_back {l : List Int} (t : T l) (h : nestB l = true) : nestB (backL l) = true := by
 have hl := back_len t
 obtain ⟨_, h2⟩ := nestB_true.1 h
 rw [nestB_true]
 refine ⟨back_T t, fun a b h3 h4 h5 => ?_⟩
 cases hc : turnsB (backL l) a b with
 | false => rfl
 | true =>
  have := turns_back (back_T t) ⟨by omega, h5⟩ ⟨h3, by omega⟩ hc
  rw [back_back t, hl, turns_swap] at this
  rw [h2 _ _ (by omega) (by omega) (by omega)] at this
  cases this
theorem nest_back_eq {l : List Int} (t : T l) : nestB (backL l) = nestB l := bool_eq ⟨fun h => by have := nest_back (back_T t) h; rwa [back_back t] at this, nest_back t⟩
theorem nest_nocr {l : List Int} (t : T l) (N : NoCr (hd l)) : nestB l = true := nestB_true.2 ⟨t, fun a b _ _ _ => turns_nocr N a b⟩
end Hd
namespace Hd
/-- Is it a tree? To be reckoned. -/
def treeC (l : List Int) : Bool :=
 decide (1 ≤ l.length) && decide (l.length ≤ 8) && ((List.range l.length).all fun i => decide (0 ≤ l.getD i 0) && decide (l.getD i 0 ≤ l.length) && decide (it (hd l) l.length ((i : Int) + 1) = 0)) && decide (zeros l l.length = 1)
theorem treeC_eq (l : List Int) : treeB l = treeC l := bool_eq (by
 rw [treeB_true]
 unfold treeC
 simp only [Bool.and_eq_true, decide_eq_true_eq, List.all_eq_true, List.mem_range]
 have hg : ∀ i : Nat, l.getD i 0 = hd l ((i : Int) + 1) := fun i => by
  rw [← hd_get (by omega), show ((i : Int) + 1 - 1).toNat = i from by omega]
 constructor
 ·intro t
  refine ⟨⟨⟨t.2.pos, t.1⟩, fun i hi => ?_⟩, (T_iff t.1 t.vals t.2.back).1 t⟩
  rw [hg]
  exact ⟨⟨t.2.lo _, t.2.hi _⟩, t.2.back _ (by omega) (by omega)⟩
 ·rintro ⟨⟨⟨h1, h2⟩, h3⟩, h4⟩
  have g : ∀ a : Int, 1 ≤ a → a ≤ l.length → (0 ≤ hd l a ∧ hd l a ≤ l.length) ∧ it (hd l) l.length a = 0 := fun a k1 k2 => by
   have := h3 (a - 1).toNat (by omega)
   rw [hg, show (((a - 1).toNat : Nat) : Int) + 1 = a from by omega] at this
   exact this
  exact (T_iff h2 (fun a k1 k2 => (g a k1 k2).1) (fun a k1 k2 => (g a k1 k2).2)).2 h4)
/-- The digits of c to the base b, the last one first. -/
def digs (b : Int) : Nat → Int → List Int
 | 0, _ => []
 | m + 1, c => c % b :: digs b m (c / b)
def treesTo (n : Nat) : Nat → Nat
 | 0 => 0
 | c + 1 => treesTo n c + if treeC (digs ((n : Int) + 1) n c) then 1 else 0
theorem treesTo_le (n : Nat) : ∀ c, treesTo n c ≤ c
 | 0 => Nat.le_refl _
 | c + 1 => by
  have := treesTo_le n c
  unfold treesTo
  split <;> omega
theorem trees_all : ∀ n : Nat, n ≤ 4 → 1 ≤ n → treesTo n ((n + 1) ^ n) = n ^ (n - 1) := by decide +kernel
end Hd
/-- How many flat trees, and how many rows of flat trees, there are. -/
def flatN (a : Int) : Int := if a = 1 then 1 else if a = 2 then 2 else if a = 3 then 7 else if a = 4 then 30 else if a = 5 then 143 else if a = 6 then 728 else -1
def rowsN (a : Int) : Int := if a = 0 then 1 else if a = 1 then 1 else if a = 2 then 3 else if a = 3 then 12 else if a = 4 then 55 else if a = 5 then 273 else if a = 6 then 1428 else -1
theorem flatN_out {a : Int} (h : ¬ (1 ≤ a ∧ a ≤ 6)) : flatN a = -1 := by
 unfold flatN
 rw [if_neg (by omega), if_neg (by omega), if_neg (by omega), if_neg (by omega), if_neg (by omega), if_neg (by omega)]
theorem rowsN_out {a : Int} (h : ¬ (0 ≤ a ∧ a ≤ 6)) : rowsN a = -1 := by
 unfold rowsN
 rw [if_neg (by omega), if_neg (by omega), if_neg (by omega), if_neg (by omega), if_neg (by omega), if_neg (by omega), if_neg (by omega)]
