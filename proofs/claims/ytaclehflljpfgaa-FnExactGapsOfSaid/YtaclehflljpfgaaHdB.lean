/- Plain facts on the rows of which a yield is made, and on gaps. -/
import Derived.Test.YtaclehflljpfgaaHdA
namespace Hd

/-- The rows told so far, and one word more. -/
def stepR (out : List (List Int)) (w : Int) : List (List Int) :=
 if 0 < out.length ∧ (out.getD (out.length - 1) []).getD 1 0 = w - 1 then out.set (out.length - 1) [(out.getD (out.length - 1) []).getD 0 0, w] else out ++ [[w, w]]
def rowsR (xs : List Int) : List (List Int) := xs.foldl stepR []
theorem rowsR_snoc (xs : List Int) (w : Int) : rowsR (xs ++ [w]) = stepR (rowsR xs) w := by simp [rowsR]
theorem snoc_ind {α : Type} {P : List α → Prop} (h0 : P []) (h1 : ∀ xs w, P xs → P (xs ++ [w])) (xs : List α) : P xs := by
 have : ∀ ys : List α, P ys.reverse := by
  intro ys
  induction ys with
  | nil => simpa using h0
  | cons a t ih => rw [List.reverse_cons]; exact h1 _ _ ih
 simpa using this xs.reverse
theorem stepR_len (out : List (List Int)) (w : Int) : (stepR out w).length ≤ out.length + 1 ∧ 0 < (stepR out w).length := by
 unfold stepR
 split
 ·rename_i h; rw [List.length_set]; omega
 ·rw [List.length_append]; simp
theorem rowsR_len (xs : List Int) : (rowsR xs).length ≤ xs.length := by
 refine snoc_ind (P := fun xs => (rowsR xs).length ≤ xs.length) (by simp [rowsR]) (fun ys w ih => ?_) xs
 have := stepR_len (rowsR ys) w
 simp only [rowsR_snoc, List.length_append, List.length_singleton]
 omega
theorem rowsR_two (xs : List Int) : ∀ r, r ∈ rowsR xs → r.length = 2 := by
 refine snoc_ind (P := fun xs => ∀ r, r ∈ rowsR xs → r.length = 2) (by simp [rowsR]) (fun ys w ih => ?_) xs
 rw [rowsR_snoc]
 intro r hr
 unfold stepR at hr
 split at hr
 ·rcases List.mem_or_eq_of_mem_set hr with h | h
  ·exact ih r h
  ·rw [h]; rfl
 ·rcases List.mem_append.1 hr with h | h
  ·exact ih r h
  ·rw [List.mem_singleton.1 h]; rfl
theorem getD_set_last {α : Type} {l : List α} {i : Nat} (h : i < l.length) {a z : α} : (l.set i a).getD i z = a := by
 rw [List.getD_eq_getElem?_getD, List.getElem?_set, if_pos rfl, if_pos h]; rfl
theorem getD_snoc {α : Type} {l : List α} {a z : α} : (l ++ [a]).getD l.length z = a := by
 rw [List.getD_eq_getElem?_getD, List.getElem?_append_right (Nat.le_refl _), Nat.sub_self]; rfl
theorem rowsR_last (xs : List Int) (w : Int) : 0 < (rowsR (xs ++ [w])).length ∧ ((rowsR (xs ++ [w])).getD ((rowsR (xs ++ [w])).length - 1) []).getD 1 0 = w := by
 rw [rowsR_snoc]
 refine ⟨(stepR_len _ _).2, ?_⟩
 unfold stepR
 split
 ·rename_i h
  rw [List.length_set, getD_set_last (by omega)]
  rfl
 ·rw [List.length_append, List.length_singleton, Nat.add_sub_cancel, getD_snoc]
  rfl
theorem getD_mem {α : Type} {l : List α} {i : Nat} (z : α) (h : i < l.length) : l.getD i z ∈ l := by
 rw [List.getD_eq_getElem?_getD, List.getElem?_eq_getElem h]; exact List.getElem_mem h
theorem set_two {r : List Int} (h : r.length = 2) (w : Int) : r.set 1 w = [r.getD 0 0, w] := by
 match r, h with
 | [a, b], _ => rfl

/-- The words of a set of bits. -/
def wrdS (s : Nat) : List Int := sel (fun x => s.testBit (x - 1).toNat) 8
theorem sel_wrd (p : Int → Bool) {n : Nat} (h8 : n ≤ 8) : sel p n = wrdS (ysum p n) := by
 unfold wrdS
 obtain ⟨d, hd⟩ : ∃ d, 8 = n + d := ⟨8 - n, by omega⟩
 have h : ∀ a : Int, 1 ≤ a → (ysum p n).testBit (a - 1).toNat = (decide ((a - 1).toNat < n) && p a) := fun a h1 => by
  rw [ysum_bit, show (((a - 1).toNat : Nat) : Int) + 1 = a from by omega]
 rw [hd, sel_more (fun a h1 h2 => by rw [h a (by omega), decide_eq_false (by omega), Bool.false_and])]
 exact sel_congr fun a h1 h2 => by rw [h a h1, decide_eq_true (by omega), Bool.true_and]
def sumR (R : List (List Int)) : Nat → Int
 | 0 => 0
 | k + 1 => sumR R k + (R.getD k []).getD 1 0 - (R.getD k []).getD 0 0 + 1
/-- Rows one behind the other, with words between them, of c words together. -/
def okR (R : List (List Int)) (c : Nat) : Bool :=
 ((List.range R.length).all fun k => decide (1 ≤ (R.getD k []).getD 0 0) && decide ((R.getD k []).getD 0 0 ≤ (R.getD k []).getD 1 0) && decide ((R.getD k []).getD 1 0 ≤ 8) && (k == 0 || decide ((R.getD (k - 1) []).getD 1 0 + 2 ≤ (R.getD k []).getD 0 0))) && decide (sumR R R.length = c)
theorem rows_all : ∀ s, s < 256 → (rowsR (wrdS s)).length = runsM s ∧ okR (rowsR (wrdS s)) (wrdS s).length = true := by decide +kernel
theorem okR_row {R : List (List Int)} {c : Nat} (h : okR R c = true) {k : Nat} (hk : k < R.length) : 1 ≤ (R.getD k []).getD 0 0 ∧ (R.getD k []).getD 0 0 ≤ (R.getD k []).getD 1 0 ∧ (R.getD k []).getD 1 0 ≤ 8 ∧ (k = 0 ∨ (R.getD (k - 1) []).getD 1 0 + 2 ≤ (R.getD k []).getD 0 0) := by
 unfold okR at h
 rw [Bool.and_eq_true, List.all_eq_true] at h
 have := h.1 k (List.mem_range.2 hk)
 simp only [Bool.and_eq_true, Bool.or_eq_true, decide_eq_true_eq, beq_iff_eq] at this
 exact ⟨this.1.1.1, this.1.1.2, this.1.2, this.2⟩
theorem okR_sum {R : List (List Int)} {c : Nat} (h : okR R c = true) : sumR R R.length = c := by
 unfold okR at h
 rw [Bool.and_eq_true, decide_eq_true_eq] at h
 exact h.2
theorem okR_bd {R : List (List Int)} {c : Nat} (h : okR R c = true) (hn : R.length ≤ 8) : ∀ k : Nat, k ≤ R.length → 0 ≤ sumR R k ∧ sumR R k ≤ 100 * k
 | 0, _ => by simp [sumR]
 | k + 1, hk => by
  have := okR_bd h hn k (by omega)
  have := okR_row h (k := k) (by omega)
  unfold sumR
  omega

noncomputable def rowsL (l : List Int) (w : Int) : List (List Int) := rowsR (yldL l w)
noncomputable def gapsI (l : List Int) (w : Int) : Int := ((rowsL l w).length : Int) - 1
theorem rowsL_no {l : List Int} {w : Int} (h : ¬ (T l ∧ 1 ≤ w ∧ w ≤ l.length)) : rowsL l w = [] := by rw [rowsL, yldL, if_neg h]; rfl
theorem rowsL_yes {l : List Int} {w : Int} (h : T l ∧ 1 ≤ w ∧ w ≤ l.length) : rowsL l w = rowsR (wrdS (ybits l w)) ∧ ybits l w < 256 := by
 rw [rowsL, yldL, if_pos h, yld, sel_wrd _ h.1.1]
 exact ⟨rfl, Nat.lt_of_lt_of_le (ysum_lt _ _) (Nat.pow_le_pow_right (by decide) h.1.1 : 2 ^ l.length ≤ 2 ^ 8)⟩
theorem rowsL_runs {l : List Int} {w : Int} (h : T l ∧ 1 ≤ w ∧ w ≤ l.length) : (rowsL l w).length = runsM (ybits l w) := by
 have := rowsL_yes h
 rw [this.1, (rows_all _ this.2).1]
theorem rowsL_ok (l : List Int) (w : Int) : okR (rowsL l w) (yldL l w).length = true := by
 by_cases h : T l ∧ 1 ≤ w ∧ w ≤ l.length
 ·have := rowsL_yes h
  have e : yldL l w = wrdS (ybits l w) := by rw [yldL, if_pos h, yld, sel_wrd _ h.1.1]; rfl
  rw [this.1, e]
  exact (rows_all _ this.2).2
 ·rw [rowsL_no h, yldL, if_neg h]; rfl
theorem rowsL_len (l : List Int) (w : Int) : (rowsL l w).length ≤ (yldL l w).length := rowsR_len _
theorem gapsI_no {l : List Int} {w : Int} (h : ¬ (T l ∧ 1 ≤ w ∧ w ≤ l.length)) : gapsI l w = -1 := by rw [gapsI, rowsL_no h]; rfl
theorem runs_pos : ∀ s, s < 256 → s ≠ 0 → 0 < runsM s := by decide +kernel
theorem gapsI_bd (l : List Int) (w : Int) : -1 ≤ gapsI l w ∧ gapsI l w ≤ 7 := by
 have := rowsL_len l w
 have := yldL_len l w
 unfold gapsI; omega
theorem gapsI_pos {l : List Int} {w : Int} (h : T l ∧ 1 ≤ w ∧ w ≤ l.length) : 0 ≤ gapsI l w := by
 have := rowsL_runs h
 have := runs_pos _ (rowsL_yes h).2 (ybits_pos h.2.1 h.2.2)
 unfold gapsI; omega
theorem gapsI_zero {l : List Int} {w : Int} (h : T l ∧ 1 ≤ w ∧ w ≤ l.length) : gapsI l w = 0 ↔ ∀ x y z : Int, 1 ≤ x → x ≤ y → y ≤ z → z ≤ l.length → Und (hd l) x w → Und (hd l) z w → Und (hd l) y w := by
 have e : gapsI l w = 0 ↔ runsM (ybits l w) = 1 := by
  have := rowsL_runs h
  unfold gapsI; omega
 rw [e, runsM_row _ (rowsL_yes h).2 (ybits_pos h.2.1 h.2.2), ybits, rowM_iff h.1.1]
 simp only [undB_true]
theorem gapsI_lt {l : List Int} {w : Int} (_h : 0 ≤ gapsI l w) : gapsI l w < (yldL l w).length := by
 have := rowsL_len l w
 unfold gapsI at *; omega
theorem gaps_leaf {l : List Int} {w : Int} (h : T l ∧ 1 ≤ w ∧ w ≤ l.length) (hk : (kidL l w).length = 0) : gapsI l w = 0 := by
 rw [gapsI_zero h]
 have only : ∀ x, Und (hd l) x w → x = w := fun x hx => by
  rw [und_child h.1.2 h.2] at hx
  rcases hx with e | ⟨c, h1, h2, _⟩
  ·exact e
  ·have : c ∈ kidL l w := by
    rw [kidL, if_pos h.1]
    exact mem_sel.2 ⟨h1.1, h1.2, by simp [h2]⟩
   rw [List.length_eq_zero_iff.1 hk] at this
   exact absurd this (by simp)
 intro x y z _ h2 h3 _ hx hz
 have := only x hx
 have := only z hz
 have : y = x := by omega
 rw [this]; exact hx
theorem gaps_root {l : List Int} (t : T l) : gapsI l (rootI l) = 0 := by
 have r := rootI_spec t
 rw [gapsI_zero ⟨t, r.1⟩]
 intro x y z h1 h2 h3 h4 _ _
 exact t.2.und_root r.1 r.2.1 _ (by omega) (by omega)
def revM (n s : Nat) : Nat := ysum (fun x => s.testBit (n - x.toNat)) n
theorem revM_runs : ∀ n, n < 9 → ∀ s, s < 2 ^ n → runsM (revM n s) = runsM s := by decide +kernel
theorem ysum_congr' {p q : Int → Bool} {m : Nat} (h : ∀ a : Int, 1 ≤ a → a ≤ m → p a = q a) : ysum p m = ysum q m := ysum_congr h
theorem gaps_back {l : List Int} {w : Int} (h : T l ∧ 1 ≤ w ∧ w ≤ l.length) : gapsI (backL l) ((l.length : Int) + 1 - w) = gapsI l w := by
 have bl := back_len h.1
 have h' : T (backL l) ∧ 1 ≤ (l.length : Int) + 1 - w ∧ (l.length : Int) + 1 - w ≤ (backL l).length := ⟨back_T h.1, by omega, by omega⟩
 have e1 := rowsL_runs h
 have e2 := rowsL_runs h'
 have e : ybits (backL l) ((l.length : Int) + 1 - w) = revM l.length (ybits l w) := by
  unfold ybits revM
  rw [bl]
  refine ysum_congr fun x k1 k2 => ?_
  rw [ysum_bit, decide_eq_true (by omega), Bool.true_and, show (((l.length - x.toNat : Nat) : Int) + 1) = (l.length : Int) + 1 - x from by omega]
  refine bool_eq ?_
  rw [undB_true, undB_true]
  have := back_und h.1 (a := (l.length : Int) + 1 - x) (b := w) ⟨by omega, by omega⟩ h.2
  rw [show (l.length : Int) + 1 - ((l.length : Int) + 1 - x) = x from by omega] at this
  exact this
 have h8 := h.1.1
 rw [e, revM_runs _ (by omega) (ybits l w) (ysum_lt _ _)] at e2
 unfold gapsI
 rw [e1, e2]
end Hd
