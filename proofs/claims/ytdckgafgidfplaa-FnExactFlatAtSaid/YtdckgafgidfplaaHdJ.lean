/- The flat tree at a place, and what the trees in the table are: plain facts. -/
import Derived.Test.YtdckgafgidfplaaHdI
namespace Hd
mutual
def unT : Nat → List Nat → Nat → Nat → Nat → Nat → Nat → Option (List Nat)
 | 0, _, _, _, _, _, _ => none
 | f + 1, h, lo, hi, head, p, root => if root ≤ hi then
   if p < cR (root - lo) * cR (hi - root) then (unR f (h.set (root - 1) head) lo (root - 1) root (p / cR (hi - root)) lo).bind fun h1 => unR f h1 (root + 1) hi root (p % cR (hi - root)) (root + 1)
   else unT f h lo hi head (p - cR (root - lo) * cR (hi - root)) (root + 1)
  else some h
def unR : Nat → List Nat → Nat → Nat → Nat → Nat → Nat → Option (List Nat)
 | 0, _, _, _, _, _, _ => none
 | f + 1, h, lo, hi, head, p, e => if e ≤ hi then
   if p < cF (e - lo + 1) * cR (hi - e) then (unT f h lo e head (p / cR (hi - e)) lo).bind fun h1 => unR f h1 (e + 1) hi head (p % cR (hi - e)) (e + 1)
   else unR f h lo hi head (p - cF (e - lo + 1) * cR (hi - e)) (e + 1)
  else some h
end
def atN (n p : Nat) : Option (List Nat) := unT 80 (List.replicate n 0) 1 n 0 p 1
set_option maxRecDepth 100000 in
theorem at_all : ∀ n, 1 ≤ n → n ≤ 6 → (List.range (tF n).length).map (atN n) = (tF n).map some := by
 have h : (List.range 6).all (fun n => decide ((List.range (tF (n + 1)).length).map (atN (n + 1)) = (tF (n + 1)).map some)) = true := by decide +kernel
 intro n h1 hn
 have := List.all_eq_true.1 h (n - 1) (List.mem_range.2 (by omega))
 rw [show n - 1 + 1 = n by omega] at this
 simpa using this
theorem at_at {n p : Nat} (h1 : 1 ≤ n) (hn : n ≤ 6) (hp : p < (tF n).length) : atN n p = some ((tF n).getD p []) := by
 have r := congrArg (fun q => q[p]?) (at_all n h1 hn)
 simp only [List.getElem?_map, List.getElem?_range hp, Option.map_some, List.getElem?_eq_getElem hp] at r
 rw [List.getD_eq_getElem?_getD, List.getElem?_eq_getElem hp]
 exact Option.some.inj r
/-! ### The trees in the table are flat -/
def flatC (h : List Nat) : Bool := (List.range h.length).all (fun k => okx (h.take k) (h.getD k 0)) && treeN h && h.all (fun x => Nat.ble x h.length) && Nat.beq (hN h (rootN h)) 0
def upL : Nat → List Nat → Bool
 | _, [] => true
 | a, b :: r => Nat.ble a b && upL b r
set_option maxRecDepth 100000 in
theorem flat_all : ∀ n, 1 ≤ n → n ≤ 6 → (∀ h, h ∈ tF n → flatC h = true) ∧ upL 0 ((tF n).map rootN) = true := by
 have h : (List.range 6).all (fun n => (tF (n + 1)).all flatC && upL 0 ((tF (n + 1)).map rootN)) = true := by decide +kernel
 intro n h1 hn
 have := List.all_eq_true.1 h (n - 1) (List.mem_range.2 (by omega))
 rw [show n - 1 + 1 = n by omega] at this
 rw [Bool.and_eq_true, List.all_eq_true] at this
 exact this
theorem upL_at : ∀ {l : List Nat} {a : Nat}, upL a l = true → ∀ {i x y : Nat}, l[i]? = some x → l[i + 1]? = some y → x ≤ y
 | [], _, _, i, x, y, h, _ => by simp at h
 | b :: r, a, hu, i, x, y, hx, hy => by
  rw [upL, Bool.and_eq_true] at hu
  cases i with
  | zero =>
   cases r with
   | nil => simp at hy
   | cons c r =>
    have e1 : b = x := by simpa using hx
    have e2 : c = y := by simpa using hy
    have := hu.2
    rw [upL, Bool.and_eq_true, Nat.ble_eq] at this
    omega
  | succ i => exact upL_at hu.2 (i := i) (by simpa using hx) (by simpa using hy)
theorem fstN_le (h : List Nat) (head : Nat) : ∀ f a, a ≤ fstN h head f a ∧ fstN h head f a ≤ a + f
 | 0, a => by rw [fstN]; omega
 | f + 1, a => by
  have := fstN_le h head f (a + 1)
  rw [fstN]; split <;> omega
theorem rootN_le {h : List Nat} (h1 : 1 ≤ h.length) : 1 ≤ rootN h ∧ rootN h ≤ h.length := by
 have := fstN_le h 0 (h.length - 1) 1
 unfold rootN; omega
theorem flatC_flat {h : List Nat} (h1 : 1 ≤ h.length) (h8 : h.length ≤ 8) (c : flatC h = true) : flatB (toI h) = true := by
 unfold flatC at c
 rw [Bool.and_eq_true, Bool.and_eq_true, Bool.and_eq_true, List.all_eq_true, List.all_eq_true, Nat.beq_eq] at c
 obtain ⟨⟨⟨hx, ht⟩, hle⟩, hr⟩ := c
 have hl := toI_len h
 have val : ∀ a : Nat, hN h a ≤ h.length := fun a => by
  cases a with
  | zero => exact Nat.zero_le _
  | succ a =>
   rw [hN_at, List.getD_eq_getElem?_getD]
   by_cases ha : a < h.length
   ·rw [List.getElem?_eq_getElem ha]
    have := hle _ (List.getElem_mem ha)
    rwa [Nat.ble_eq] at this
   ·rw [List.getElem?_eq_none (by omega)]; exact Nat.zero_le _
 have num : ∀ a : Int, 1 ≤ a → a ≤ h.length → ∃ j : Nat, a = ((j + 1 : Nat) : Int) ∧ j < h.length := fun a h1 h2 => ⟨(a - 1).toNat, by omega, by omega⟩
 have rule : ∀ j k : Nat, j < k → k < h.length → ok1 (k + 1) (hN h (k + 1)) (1 + j) (hN h (j + 1)) = true := by
  intro j k hjk hk
  have hkl : (h.take k).length = k := by rw [List.length_take]; omega
  have := hx k (List.mem_range.2 hk)
  unfold okx at this
  rw [Bool.and_eq_true, hkl] at this
  have := okAll_to _ _ this.2 j (by omega)
  have e : (h.take k).getD j 0 = h.getD j 0 := by rw [List.getD_eq_getElem?_getD, List.getElem?_take_of_lt hjk, List.getD_eq_getElem?_getD]
  rw [e] at this
  exact this
 have tr : Tr (toI h).length (hd (toI h)) := by
  refine ⟨fun a ha => hd_out ha, fun a => ?_, fun a => ?_, ?_, fun a h1 h2 => ?_⟩
  ·by_cases ha : 1 ≤ a ∧ a ≤ ((toI h).length : Int)
   ·obtain ⟨j, rfl, hj⟩ := num a ha.1 (by omega)
    rw [hd_toI]; omega
   ·rw [hd_out ha]; omega
  ·by_cases ha : 1 ≤ a ∧ a ≤ ((toI h).length : Int)
   ·obtain ⟨j, rfl, hj⟩ := num a ha.1 (by omega)
    have := val (j + 1)
    rw [hd_toI]; omega
   ·rw [hd_out ha]; omega
  ·have hf := rootN_le h1
   refine ⟨(rootN h : Int), ⟨by omega, by omega⟩, by rw [hd_toI, hr]; rfl, fun a h1 h2 h0 => ?_⟩
   obtain ⟨j, rfl, hj⟩ := num a h1 (by omega)
   rw [hd_toI] at h0
   obtain ⟨q, hq, hql⟩ := num (rootN h : Int) (by omega) (by omega)
   have hq' : rootN h = q + 1 := by omega
   rw [hq'] at hr ⊢
   rcases Nat.lt_trichotomy j q with hjq | hjq | hjq
   ·have := (ok1_iff (by omega)).1 (rule j q hjq hql)
    exact absurd hr (this.1 (by omega)).1
   ·rw [hjq]
   ·have := (ok1_iff (by omega)).1 (rule q j hjq hj)
    exact absurd (show hN h (j + 1) = 0 by omega) (this.1 hr).1
  ·obtain ⟨j, rfl, hj⟩ := num a h1 (by omega)
   have := List.all_eq_true.1 ht j (List.mem_range.2 hj)
   rw [undN_iff] at this
   obtain ⟨k, hk, e⟩ := this
   exact it_more (hd_out (by omega)) (j := k) (by rw [it_toI, e]; rfl) (by omega)
 have t : T (toI h) := ⟨by omega, tr⟩
 refine flatB_true.2 ⟨t, (row_iff tr).2 ⟨?_, ?_⟩⟩
 ·intro i k hi hk hc
  have wi := tr.word_of hi
  have wk := tr.word_of hk
  obtain ⟨a, rfl, ha⟩ := num i wi.1 (by omega)
  obtain ⟨b, rfl, hb⟩ := num k wk.1 (by omega)
  rw [hd_toI] at hi hk
  rw [hd_toI, hd_toI] at hc
  rcases Nat.lt_trichotomy a b with hab | hab | hab
  ·have := ((ok1_iff (by omega)).1 (rule a b hab hb)).2.2 (by omega) (by omega)
   rw [Nat.add_comm 1 a] at this
   exact this.1 hc
  ·subst hab
   unfold Crs Btw Outs at hc
   omega
  ·have := ((ok1_iff (by omega)).1 (rule b a hab ha)).2.2 (by omega) (by omega)
   rw [Nat.add_comm 1 b] at this
   refine this.1 ?_
   unfold Crs Btw Outs at hc ⊢
   omega
 ·intro r h1 h2 h0 k hk hb
  have wk := tr.word_of hk
  obtain ⟨a, rfl, ha⟩ := num r h1 (by omega)
  obtain ⟨b, rfl, hbl⟩ := num k wk.1 (by omega)
  rw [hd_toI] at h0 hk hb
  unfold Btw at hb
  rcases Nat.lt_trichotomy a b with hab | hab | hab
  ·have := ((ok1_iff (by omega)).1 (rule a b hab hbl)).1 (by omega)
   omega
  ·omega
  ·have := ((ok1_iff (by omega)).1 (rule b a hab ha)).2.1 (by omega) (by omega)
   omega
theorem flatC_root {h : List Nat} (h1 : 1 ≤ h.length) (h8 : h.length ≤ 8) (c : flatC h = true) : rootI (toI h) = (rootN h : Int) := by
 have t := (flatB_true.1 (flatC_flat h1 h8 c)).1
 have hf := rootN_le h1
 have hl := toI_len h
 unfold flatC at c
 rw [Bool.and_eq_true, Nat.beq_eq] at c
 exact ((rootI_spec t).2.2 (rootN h : Int) (by omega) (by omega) (by rw [hd_toI, c.2]; rfl)).symm
end Hd
