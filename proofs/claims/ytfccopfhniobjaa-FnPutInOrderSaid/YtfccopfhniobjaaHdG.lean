/- An order is what, sorted, is 1, 2, ..: plain facts. -/
import Derived.Test.YtfccopfhniobjaaHdA
namespace Hd
theorem ord_sorted {n : Nat} {o s : List Int} (hp : s.Perm o) (hs : s.Pairwise (fun a b => a ≤ b)) : Hd.Perm n o ↔ o.length = n ∧ ∀ k : Nat, k < n → s.getD k 0 = (k : Int) + 1 := by
 have hl : s.length = o.length := hp.length_eq
 have at_ : ∀ {k : Nat} (h : k < s.length), s.getD k 0 = s[k] := fun h => by rw [List.getD_eq_getElem?_getD, List.getElem?_eq_getElem h]; rfl
 have ho : ∀ {a : Int}, 1 ≤ a → a ≤ o.length → ∃ h : (a - 1).toNat < o.length, hd o a = o[(a - 1).toNat] := fun {a} h1 h2 => by
  have h : (a - 1).toNat < o.length := by omega
  refine ⟨h, ?_⟩
  rw [← hd_get h1, List.getD_eq_getElem?_getD, List.getElem?_eq_getElem h]; rfl
 constructor
 ·intro P
  have hn := P.len
  refine ⟨hn, ?_⟩
  -- no number twice
  have nd : s.Nodup := by
   rw [hp.nodup_iff]
   refine List.pairwise_iff_getElem.2 fun i j hi hj hij e => ?_
   have e1 : hd o ((i : Int) + 1) = o[i] := by
    obtain ⟨h, e⟩ := ho (a := (i : Int) + 1) (by omega) (by omega)
    rw [e]; congr 1; omega
   have e2 : hd o ((j : Int) + 1) = o[j] := by
    obtain ⟨h, e⟩ := ho (a := (j : Int) + 1) (by omega) (by omega)
    rw [e]; congr 1; omega
   have := P.inj ((i : Int) + 1) ((j : Int) + 1) (by omega) (by omega) (by omega) (by omega) (by rw [e1, e2]; exact e)
   omega
  have rng : ∀ {k : Nat} (h : k < s.length), 1 ≤ s[k] ∧ s[k] ≤ (n : Int) := fun {k} h => by
   have hm : s[k] ∈ o := hp.mem_iff.1 (List.getElem_mem h)
   obtain ⟨i, hi, e⟩ := List.getElem_of_mem hm
   have e1 : hd o ((i : Int) + 1) = o[i] := by
    obtain ⟨h, e⟩ := ho (a := (i : Int) + 1) (by omega) (by omega)
    rw [e]; congr 1; omega
   have := P.rng ((i : Int) + 1) (by omega) (by omega)
   rw [← e, ← e1]; exact this
  have lt : ∀ {i j : Nat} (hi : i < s.length) (hj : j < s.length), i < j → s[i] < s[j] := fun {i j} hi hj hij => by
   have h1 := (List.pairwise_iff_getElem.1 hs) i j hi hj hij
   have h2 : s[i] ≠ s[j] := (List.pairwise_iff_getElem.1 nd) i j hi hj hij
   omega
  have lo : ∀ (k : Nat) (h : k < s.length), (k : Int) + 1 ≤ s[k] := by
   intro k
   induction k with
   | zero => intro h; have := rng h; omega
   | succ k ih => intro h; have := ih (by omega); have := lt (by omega) h (Nat.lt_succ_self k); omega
  have hi : ∀ (d k : Nat) (h : k < s.length), k + d + 1 = n → s[k] ≤ (k : Int) + 1 := by
   intro d
   induction d with
   | zero => intro k h e; have := rng h; omega
   | succ d ih => intro k h e; have := ih (k + 1) (by omega) (by omega); have := lt h (show k + 1 < s.length by omega) (Nat.lt_succ_self k); omega
  intro k hk
  rw [at_ (by omega)]
  have := lo k (by omega); have := hi (n - 1 - k) k (by omega) (by omega)
  omega
 ·rintro ⟨hn, hv⟩
  have nd : o.Nodup := by
   rw [← hp.nodup_iff]
   refine List.pairwise_iff_getElem.2 fun i j hi hj hij e => ?_
   have h1 := hv i (by omega); have h2 := hv j (by omega)
   rw [at_ hi] at h1; rw [at_ hj] at h2
   omega
  refine ⟨hn, fun a h1 h2 => ?_, fun a b h1 h2 h3 h4 e => ?_⟩
  ·obtain ⟨h, e⟩ := ho (a := a) h1 (by omega)
   have hm : hd o a ∈ s := hp.mem_iff.2 (by rw [e]; exact List.getElem_mem h)
   obtain ⟨i, hi, e2⟩ := List.getElem_of_mem hm
   have := hv i (by omega)
   rw [at_ hi] at this
   omega
  ·obtain ⟨ha, e1⟩ := ho (a := a) h1 (by omega)
   obtain ⟨hb, e2⟩ := ho (a := b) h3 (by omega)
   rw [e1, e2] at e
   apply Classical.byContradiction
   intro hne
   by_cases hab : a < b
   ·exact (List.pairwise_iff_getElem.1 nd) _ _ ha hb (by omega) e
   ·exact (List.pairwise_iff_getElem.1 nd) _ _ hb ha (by omega) e.symm
theorem sorted_le (o : List Int) : (o.mergeSort fun x y => decide (x ≤ y)).Pairwise (fun a b => a ≤ b) := by
 have := List.pairwise_mergeSort (le := fun x y : Int => decide (x ≤ y)) (fun a b c => by simp; omega) (fun a b => by simp; omega) o
 exact this.imp (fun h => by simpa using h)
theorem mem_hd {l : List Int} {a : Int} (h1 : 1 ≤ a) (h2 : a ≤ l.length) : hd l a ∈ l := by
 rw [← hd_get h1, List.getD_eq_getElem?_getD, List.getElem?_eq_getElem (by omega)]; exact List.getElem_mem _
theorem perm_reverse {n : Nat} {o : List Int} : Perm n o.reverse ↔ Perm n o := by
 have p := List.mergeSort_perm o (fun x y => decide (x ≤ y))
 rw [ord_sorted (p.trans (List.reverse_perm o).symm) (sorted_le o), ord_sorted p (sorted_le o), List.length_reverse]
theorem ordB_reverse (o : List Int) (m : Int) : ordB o.reverse m = ordB o m := by
 rw [Bool.eq_iff_iff, ordB_true, ordB_true, perm_reverse]
theorem hd_put {l : List Int} {b u : Int} (h1 : 1 ≤ b) (h2 : b ≤ l.length) (x : Int) : hd (l.set (b - 1).toNat u) x = if x = b then u else hd l x := by
 unfold hd
 by_cases h : 1 ≤ x
 ·rw [if_pos h, if_pos h, List.getD_eq_getElem?_getD, List.getElem?_set]
  by_cases e : x = b
  ·subst e; rw [if_pos rfl, if_pos (by omega), if_pos rfl]; rfl
  ·rw [if_neg (by omega), if_neg e, List.getD_eq_getElem?_getD]
 ·rw [if_neg h, if_neg h, if_neg (by omega)]
theorem list_ext {a b : List Int} (hl : a.length = b.length) (h : ∀ x : Int, 1 ≤ x → x ≤ a.length → hd a x = hd b x) : a = b := by
 apply List.ext_getElem hl
 intro k h1 h2
 have e := h ((k : Int) + 1) (by omega) (by omega)
 rw [← hd_get (by omega), ← hd_get (by omega), show ((k : Int) + 1 - 1).toNat = k by omega, List.getD_eq_getElem?_getD, List.getD_eq_getElem?_getD, List.getElem?_eq_getElem h1, List.getElem?_eq_getElem h2] at e
 exact e
/-- Put in an order, and back. -/
theorem put_back {l o B : List Int} (t : T l) (P : Perm l.length o) (hb : B.length = l.length) (hB : ∀ a : Int, 1 ≤ a → a ≤ l.length → hd B (hd o a) = a) :
  T (putL l o) ∧ (putL l o).length = l.length ∧ Perm l.length B ∧ putL (putL l o) B = l := by
 have R := put_ren t P
 have hl := R.len
 have tx := R.tree t
 have hBp : ∀ w : Int, 1 ≤ w → w ≤ l.length → hd B w = plc o w := fun w h1 h2 => by
  obtain ⟨a, ha, rfl⟩ := P.sur w h1 h2
  rw [hB a ha.1 ha.2, plc_at P ha.1 ha.2]
 have PB : Perm l.length B := ⟨hb, fun a h1 h2 => by rw [hBp a h1 h2]; exact (plc_word P h1 h2).1, fun a b h1 h2 h3 h4 e => by
  rw [hBp a h1 h2, hBp b h3 h4] at e
  rw [← (plc_word P h1 h2).2, ← (plc_word P h3 h4).2, e]⟩
 refine ⟨tx, hl, PB, ?_⟩
 have PB' : Perm (putL l o).length B := by rw [hl]; exact PB
 rw [putL, if_pos ⟨tx, PB'⟩]
 refine list_ext (by rw [tab_length]; exact hl) fun a h1 h2 => ?_
 rw [tab_length] at h2
 rw [hd_tab h1 h2, hBp a h1 (by omega), R.head a h1 (by omega)]
 by_cases hz : hd l a = 0
 ·rw [hz, plc_zero, plc_zero]
 ·have w := t.2.word hz
  rw [← hBp _ w.1 w.2, plc_at PB w.1 w.2]
end Hd
