/- Plain facts on the rows of which a yield is made, and on gaps. -/
import Derived.Test.YtdckgafgidfplaaHdA
namespace Hd

/-- The rows told so far, and one word more. -/
def stepR (out : List (List Int)) (w : Int) : List (List Int) :=
 if 0 < out.length ∧ (out.getD (out.length - 1) []).getD 1 0 = w - 1 then out.set (out.length - 1) [(out.getD (out.length - 1) []).getD 0 0, w] else out ++ [[w, w]]
def rowsR (xs : List Int) : List (List Int) := xs.foldl stepR []
theorem rowsR_snoc (xs : List Int) (w : Int) : rowsR (xs ++ [w]) = stepR (rowsR xs) w := by simp [rowsR]
theorem snoc_ind {α : Type} {P : List α → Prop} (h0 : P []) (h1 : ∀ xs w, P xs → P (xs ++ [w])) (xs : List α) : P xs := by
 have : ∀ ys : List α, P ys.reverse := by
  intro ys
  induction ys with
  | nil => simpa using h0
  | cons a t ih => rw [List.reverse_cons]; exact h1 _ _ ih
 simpa using this xs.reverse
theorem stepR_len (out : List (List Int)) (w : Int) : (stepR out w).length ≤ out.length + 1 ∧ 0 < (stepR out w).length := by
 unfold stepR
 split
 ·rename_i h; rw [List.length_set]; omega
 ·rw [List.length_append]; simp
theorem rowsR_len (xs : List Int) : (rowsR xs).length ≤ xs.length := by
 refine snoc_ind (P := fun xs => (rowsR xs).length ≤ xs.length) (by simp [rowsR]) (fun ys w ih => ?_) xs
 have := stepR_len (rowsR ys) w
 simp only [rowsR_snoc, List.length_append, List.length_singleton]
 omega
theorem rowsR_two (xs : List Int) : ∀ r, r ∈ rowsR xs → r.length = 2 := by
 refine snoc_ind (P := fun xs => ∀ r, r ∈ rowsR xs → r.length = 2) (by simp [rowsR]) (fun ys w ih => ?_) xs
 rw [rowsR_snoc]
 intro r hr
 unfold stepR at hr
 split at hr
 ·rcases List.mem_or_eq_of_mem_set hr with h | h
  ·exact ih r h
  ·rw [h]; rfl
 ·rcases List.mem_append.1 hr with h | h
  ·exact ih r h
  ·rw [List.mem_singleton.1 h]; rfl
theorem getD_set_last {α : Type} {l : List α} {i : Nat} (h : i < l.length) {a z : α} : (l.set i a).getD i z = a := by
 rw [List.getD_eq_getElem?_getD, List.getElem?_set, if_pos rfl, if_pos h]; rfl
theorem getD_snoc {α : Type} {l : List α} {a z : α} : (l ++ [a]).getD l.length z = a := by
 rw [List.getD_eq_getElem?_getD, List.getElem?_append_right (Nat.le_refl _), Nat.sub_self]; rfl
theorem rowsR_last (xs : List Int) (w : Int) : 0 < (rowsR (xs ++ [w])).length ∧ ((rowsR (xs ++ [w])).getD ((rowsR (xs ++ [w])).length - 1) []).getD 1 0 = w := by
 rw [rowsR_snoc]
 refine ⟨(stepR_len _ _).2, ?_⟩
 unfold stepR
 split
 ·rename_i h
  rw [List.length_set, getD_set_last (by omega)]
  rfl
 ·rw [List.length_append, List.length_singleton, Nat.add_sub_cancel, getD_snoc]
  rfl
theorem getD_mem {α : Type} {l : List α} {i : Nat} (z : α) (h : i < l.length) : l.getD i z ∈ l := by
 rw [List.getD_eq_getElem?_getD, List.getElem?_eq_getElem h]; exact List.getElem_mem h
theorem set_two {r : List Int} (h : r.length = 2) (w : Int) : r.set 1 w = [r.getD 0 0, w] := by
 match r, h with
 | [a, b], _ => rfl

/-- The words of a set of bits. -/
def wrdS (s : Nat) : List Int := sel (fun x => s.testBit (x - 1).toNat) 8
theorem sel_wrd (p : Int → Bool) {n : Nat} (h8 : n ≤ 8) : sel p n = wrdS (ysum p n) := by
 unfold wrdS
 obtain ⟨d, hd⟩ : ∃ d, 8 = n + d := ⟨8 - n, by omega⟩
 have h : ∀ a : Int, 1 ≤ a → (ysum p n).testBit (a - 1).toNat = (decide ((a - 1).toNat < n) && p a) := fun a h1 => by
  rw [ysum_bit, show (((a - 1).toNat : Nat) : Int) + 1 = a from by omega]
 rw [hd, sel_more (fun a h1 h2 => by rw [h a (by omega), decide_eq_false (by omega), Bool.false_and])]
 exact sel_congr fun a h1 h2 => by rw [h a h1, decide_eq_true (by omega), Bool.true_and]
def sumR (R : List (List Int)) : Nat → Int
 | 0 => 0
 | k + 1 => sumR R k + (R.getD k []).getD 1 0 - (R.getD k []).getD 0 0 + 1
/-- Rows one behind the other, with words between them, of c words together. -/
def okR (R : List (List Int)) (c : Nat) : Bool :=
 ((List.range R.length).all fun k => decide (1 ≤ (R.getD k []).getD 0 0) && decide ((R.getD k []).getD 0 0 ≤ (R.getD k []).getD 1 0) && decide ((R.getD k []).getD 1 0 ≤ 8) && (k == 0 || decide ((R.getD (k - 1) []).getD 1 0 + 2 ≤ (R.getD k []).getD 0 0))) && decide (sumR R R.length = c)
theorem rows_all : ∀ s, s < 256 → (rowsR (wrdS s)).length = runsM s ∧ okR (rowsR (wrdS s)) (wrdS s).length = true := by decide +kernel
theorem okR_row {R : List (List Int)} {c : Nat} (h : okR R c = true) {k : Nat} (hk : k < R.length) : 1 ≤ (R.getD k []).getD 0 0 ∧ (R.getD k []).getD 0 0 ≤ (R.getD k []).getD 1 0 ∧ (R.getD k []).getD 1 0 ≤ 8 ∧ (k = 0 ∨ (R.getD (k - 1) []).getD 1 0 + 2 ≤ (R.getD k []).getD 0 0) := by
 unfold okR at h
 rw [Bool.and_eq_true, List.all_eq_true] at h
 have := h.1 k (List.mem_range.2 hk)
 simp only [Bool.and_eq_true, Bool.or_eq_true, decide_eq_true_eq, beq_iff_eq] at this
 exact ⟨this.1.1.1, this.1.1.2, this.1.2, this.2⟩
theorem okR_sum {R : List (List Int)} {c : Nat} (h : okR R c = true) : sumR R R.length = c := by
 unfold okR at h
 rw [Bool.and_eq_true, decide_eq_true_eq] at h
 exact h.2
theorem okR_bd {R : List (List Int)} {c : Nat} (h : okR R c = true) (hn : R.length ≤ 8) : ∀ k : Nat, k ≤ R.length → 0 ≤ sumR R k ∧ sumR R k ≤ 100 * k
 | 0, _ => by simp [sumR]
 | k + 1, hk => by
  have := okR_bd h hn k (by omega)
  have := okR_row h (k := k) (by omega)
  unfold sumR
  omega

noncomputable def rowsL (l : List Int) (w : Int) : List (List Int) := rowsR (yldL l w)
noncomputable def gapsI (l : List Int) (w : Int) : Int := ((rowsL l w).length : Int) - 1
theorem rowsL_no {l : List Int} {w : Int} (h : ¬ (T l ∧ 1 ≤ w ∧ w ≤ l.length)) : rowsL l w = [] := by rw [rowsL, yldL, if_neg h]; rfl
theorem rowsL_yes {l : List Int} {w : Int} (h : T l ∧ 1 ≤ w ∧ w ≤ l.length) : rowsL l w = rowsR (wrdS (ybits l w)) ∧ ybits l w < 256 := by
 rw [rowsL, yldL, if_pos h, yld, sel_wrd _ h.1.1]
 exact ⟨rfl, Nat.lt_of_lt_of_le (ysum_lt _ _) (Nat.pow_le_pow_right (by decide) h.1.1 : 2 ^ l.length ≤ 2 ^ 8)⟩
theorem rowsL_runs {l : List Int} {w : Int} (h : T l ∧ 1 ≤ w ∧ w ≤ l.length) : (rowsL l w).length = runsM (ybits l w) := by
 have := rowsL_yes h
 rw [this.1, (rows_all _ this.2).1]
theorem rowsL_ok (l : List Int) (w : Int) : okR (rowsL l w) (yldL l w).length = true := by
 by_cases h : T l ∧ 1 ≤ w ∧ w ≤ l.length
 ·have := rowsL_yes h
  have e : yldL l w = wrdS (ybits l w) := by rw [yldL, if_pos h, yld, sel_wrd _ h.1.1]; rfl
  rw [this.1, e]
  exact (rows_all _ this.2).2
 ·rw [rowsL_no h, yldL, if_neg h]; rfl
theorem rowsL_len (l : List Int) (w : Int) : (rowsL l w).length ≤ (yldL l w).length := rowsR_len _
theorem gapsI_no {l : List Int} {w : Int} (h : ¬ (T l ∧ 1 ≤ w ∧ w ≤ l.length)) : gapsI l w = -1 := by rw [gapsI, rowsL_no h]; rfl
theorem runs_pos : ∀ s, s < 256 → s ≠ 0 → 0 < runsM s := by decide +kernel
theorem gapsI_bd (l : List Int) (w : Int) : -1 ≤ gapsI l w ∧ gapsI l w ≤ 7 := by
 have := rowsL_len l w
 have := yldL_len l w
 unfold gapsI; omega
theorem gapsI_pos {l : List Int} {w : Int} (h : T l ∧ 1 ≤ w ∧ w ≤ l.length) : 0 ≤ gapsI l w := by
 have := rowsL_runs h
 have := runs_pos _ (rowsL_yes h).2 (ybits_pos h.2.1 h.2.2)
 unfold gapsI; omega
theorem gapsI_zero {l : List Int} {w : Int} (h : T l ∧ 1 ≤ w ∧ w ≤ l.length) : gapsI l w = 0 ↔ ∀ x y z : Int, 1 ≤ x → x ≤ y → y ≤ z → z ≤ l.length → Und (hd l) x w → Und (hd l) z w → Und (hd l) y w := by
 have e : gapsI l w = 0 ↔ runsM (ybits l w) = 1 := by
  have := rowsL_runs h
  unfold gapsI; omega
 rw [e, runsM_row _ (rowsL_yes h).2 (ybits_pos h.2.1 h.2.2), ybits, rowM_iff h.1.1]
 simp only [undB_true]
theorem gapsI_lt {l : List Int} {w : Int} (_h : 0 ≤ gapsI l w) : gapsI l w < (yldL l w).length := by
 have := rowsL_len l w
 unfold gapsI at *; omega
theorem gaps_leaf {l : List Int} {w : Int} (h : T l ∧ 1 ≤ w ∧ w ≤ l.length) (hk : (kidL l w).length = 0) : gapsI l w = 0 := by
 rw [gapsI_zero h]
 have only : ∀ x, Und (hd l) x w → x = w := fun x hx => by
  rw [und_child h.1.2 h.2] at hx
  rcases hx with e | ⟨c, h1, h2, _⟩
  ·exact e
  ·have : c ∈ kidL l w := by
    rw [kidL, if_pos h.1]
    exact mem_sel.2 ⟨h1.1, h1.2, by simp [h2]⟩
   rw [List.length_eq_zero_iff.1 hk] at this
   exact absurd this (by simp)
 intro x y z _ h2 h3 _ hx hz
 have := only x hx
 have := only z hz
 have : y = x := by omega
 rw [this]; exact hx
theorem gaps_root {l : List Int} (t : T l) : gapsI l (rootI l) = 0 := by
 have r := rootI_spec t
 rw [gapsI_zero ⟨t, r.1⟩]
 intro x y z h1 h2 h3 h4 _ _
 exact t.2.und_root r.1 r.2.1 _ (by omega) (by omega)
def revM (n s : Nat) : Nat := ysum (fun x => s.testBit (n - x.toNat)) n
theorem revM_runs : ∀ n, n < 9 → ∀ s, s < 2 ^ n → runsM (revM n s) = runsM s := by decide +kernel
theorem ysum_congr' {p q : Int → Bool} {m : Nat} (h : ∀ a : Int, 1 ≤ a → a ≤ m → p a = q a) : ysum p m = ysum q m := ysum_congr h
theorem gaps_back {l : List Int} {w : Int} (h : T l ∧ 1 ≤ w ∧ w ≤ l.length) : gapsI (backL l) ((l.length : Int) + 1 - w) = gapsI l w := by
 have bl := back_len h.1
 have h' : T (backL l) ∧ 1 ≤ (l.length : Int) + 1 - w ∧ (l.length : Int) + 1 - w ≤ (backL l).length := ⟨back_T h.1, by omega, by omega⟩
 have e1 := rowsL_runs h
 have e2 := rowsL_runs h'
 have e : ybits (backL l) ((l.length : Int) + 1 - w) = revM l.length (ybits l w) := by
  unfold ybits revM
  rw [bl]
  refine ysum_congr fun x k1 k2 => ?_
  rw [ysum_bit, decide_eq_true (by omega), Bool.true_and, show (((l.length - x.toNat : Nat) : Int) + 1) = (l.length : Int) + 1 - x from by omega]
  refine bool_eq ?_
  rw [undB_true, undB_true]
  have := back_und h.1 (a := (l.length : Int) + 1 - x) (b := w) ⟨by omega, by omega⟩ h.2
  rw [show (l.length : Int) + 1 - ((l.length : Int) + 1 - x) = x from by omega] at this
  exact this
 have h8 := h.1.1
 rw [e, revM_runs _ (by omega) (ybits l w) (ysum_lt _ _)] at e2
 unfold gapsI
 rw [e1, e2]
/-- The greatest number of gaps of the first m words. -/
noncomputable def mostN (l : List Int) : Nat → Int
 | 0 => -1
 | m + 1 => max (mostN l m) (gapsI l ((m : Int) + 1))
theorem mostN_bd (l : List Int) : ∀ m, -1 ≤ mostN l m ∧ mostN l m ≤ 7
 | 0 => by simp [mostN]
 | m + 1 => by
  have := mostN_bd l m
  have := gapsI_bd l ((m : Int) + 1)
  unfold mostN
  omega
theorem mostN_le (l : List Int) (b : Int) (hb : -1 ≤ b) : ∀ m : Nat, mostN l m ≤ b ↔ ∀ a : Int, 1 ≤ a → a ≤ m → gapsI l a ≤ b
 | 0 => by
  simp only [mostN]
  exact ⟨fun _ a h1 h2 => by omega, fun _ => hb⟩
 | m + 1 => by
  unfold mostN
  rw [Int.max_le, mostN_le l b hb m]
  constructor
  ·rintro ⟨h1, h2⟩ a k1 k2
   by_cases e : a = (m : Int) + 1
   ·rw [e]; exact h2
   ·exact h1 a k1 (by omega)
  ·intro h
   exact ⟨fun a k1 k2 => h a k1 (by omega), h _ (by omega) (by omega)⟩
noncomputable def mostI (l : List Int) : Int := mostN l l.length
theorem mostI_no {l : List Int} (h : ¬ T l) : ∀ m, mostN l m = -1
 | 0 => rfl
 | m + 1 => by
  unfold mostN
  rw [mostI_no h m, gapsI_no fun k => h k.1]; rfl
theorem mostI_pos {l : List Int} (t : T l) : 0 ≤ mostI l := by
 have r := (rootI_spec t).1
 have := gapsI_pos ⟨t, r⟩
 apply Classical.byContradiction
 intro hn
 have := (mostN_le l (-1) (by omega) l.length).1 (by unfold mostI at hn; omega) _ r.1 r.2
 omega
theorem mostI_flat {l : List Int} (t : T l) : mostI l = 0 ↔ flatB l = true := by
 have p := mostI_pos t
 rw [flatB_true]
 have e : mostI l = 0 ↔ ∀ a : Int, 1 ≤ a → a ≤ l.length → gapsI l a = 0 := by
  have := mostN_le l 0 (by omega) l.length
  constructor
  ·intro h a k1 k2
   have := this.1 (by unfold mostI at h; omega) a k1 k2
   have := gapsI_pos (w := a) ⟨t, k1, k2⟩
   omega
  ·intro h
   have := this.2 fun a k1 k2 => by rw [h a k1 k2]; omega
   unfold mostI at *; omega
 rw [e]
 constructor
 ·intro h
  refine ⟨t, fun w h1 h2 x y z hx hz hxy hyz => ?_⟩
  have wx := t.2.und_word' hx ⟨h1, h2⟩
  have wz := t.2.und_word' hz ⟨h1, h2⟩
  exact (gapsI_zero ⟨t, h1, h2⟩).1 (h w h1 h2) x y z wx.1 hxy hyz wz.2 hx hz
 ·rintro ⟨_, R⟩ a k1 k2
  rw [gapsI_zero ⟨t, k1, k2⟩]
  exact fun x y z _ h2 h3 _ hx hz => R a k1 k2 x y z hx hz h2 h3
def altS (s : Nat) : Bool := (List.range 8).any fun a => s.testBit a && (List.range 8).any fun b => decide (a < b) && !s.testBit b && (List.range 8).any fun c => decide (b < c) && s.testBit c && (List.range 8).any fun d => decide (c < d) && !s.testBit d && (List.range 8).any fun e => decide (d < e) && s.testBit e
theorem runs_three : ∀ s, s < 256 → 3 ≤ runsM s → altS s = true := by decide +kernel
theorem gaps_nocr {l : List Int} (N : NoCr (hd l)) {w : Int} (h : T l ∧ 1 ≤ w ∧ w ≤ l.length) : gapsI l w ≤ 1 := by
 apply Classical.byContradiction
 intro hn
 have e := rowsL_runs h
 have h3 : 3 ≤ runsM (ybits l w) := by unfold gapsI at hn; omega
 have A := runs_three _ (rowsL_yes h).2 h3
 unfold altS at A
 simp only [List.any_eq_true, List.mem_range, Bool.and_eq_true, decide_eq_true_eq, Bool.not_eq_true'] at A
 obtain ⟨a, _, ha, b, _, ⟨hab, hb⟩, c, _, ⟨hbc, hc⟩, d, _, ⟨hcd, hd'⟩, f, _, hdf, hf⟩ := A
 unfold ybits at *
 rw [ysum_bit, Bool.and_eq_true, decide_eq_true_eq] at ha hc hf
 rw [ysum_bit, decide_eq_true (by omega), Bool.true_and] at hb hd'
 exact gaps_und h.1.2 N h.2 (undB_true.1 ha.2) (undB_true.1 hc.2) (undB_false.1 hb) (undB_false.1 hd') (by omega) (by omega) (by omega) (by omega)
theorem most_nocr {l : List Int} (t : T l) (N : NoCr (hd l)) : mostI l ≤ 1 := by
 unfold mostI
 rw [mostN_le _ _ (by omega)]
 exact fun a h1 h2 => gaps_nocr N ⟨t, h1, h2⟩
theorem turns_gap {l : List Int} {a b : Int} (h : turnsB l a b = true) : 0 < gapsI l a ∧ 0 < gapsI l b := by
 have hp := turns_pat.1 h
 obtain ⟨t, ha, hb, u1, u2, p⟩ := hp
 have dis := turns_dis u1 u2
 have key : ∀ {w x : Int}, 1 ≤ w ∧ w ≤ (l.length : Int) → (∀ y : Int, 1 ≤ y → y ≤ l.length → ¬ (undB l y w = true ∧ undB l y x = true)) → (∃ p q r : Int, 1 ≤ p ∧ p < q ∧ q < r ∧ r ≤ l.length ∧ undB l p w = true ∧ undB l q x = true ∧ undB l r w = true) → 0 < gapsI l w := by
  rintro w x hw dis ⟨p, q, r, h1, h2, h3, h4, hp, hq, hr⟩
  have := gapsI_pos ⟨t, hw⟩
  by_cases e : gapsI l w = 0
  ·have := (gapsI_zero ⟨t, hw⟩).1 e p q r h1 (by omega) (by omega) h4 (undB_true.1 hp) (undB_true.1 hr)
   exact absurd ⟨undB_true.2 this, hq⟩ (dis q (by omega) (by omega))
  ·omega
 have dis2 : ∀ y : Int, 1 ≤ y → y ≤ l.length → ¬ (undB l y b = true ∧ undB l y a = true) := fun y k1 k2 k => dis y k1 k2 ⟨k.2, k.1⟩
 obtain ⟨x, y, z, w, h1, h2, h3, h4, h5, hh⟩ := p
 rcases hh with ⟨k1, k2, k3, k4⟩ | ⟨k1, k2, k3, k4⟩
 ·exact ⟨key ha dis ⟨x, y, z, h1, h2, h3, by omega, k1, k2, k3⟩, key hb dis2 ⟨y, z, w, by omega, h3, h4, h5, k2, k3, k4⟩⟩
 ·exact ⟨key ha dis ⟨y, z, w, by omega, h3, h4, h5, k2, k3, k4⟩, key hb dis2 ⟨x, y, z, h1, h2, h3, by omega, k1, k2, k3⟩⟩
end Hd
