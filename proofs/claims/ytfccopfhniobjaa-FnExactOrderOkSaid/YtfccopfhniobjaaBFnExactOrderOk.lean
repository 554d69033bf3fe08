/- Contracts of the functions that the statement FnExactOrderOk reaches: what each printed function comes to. -/
import Derived.Test.YtfccopfhniobjaaQFnExactOrderOkx1
import Derived.Test.YtfccopfhniobjaaWSized
import Derived.Test.YtfccopfhniobjaaHdA
import Derived.Test.YtfccopfhniobjaaHdG
namespace Go.Proofs.Ytfccopfhniobjaa.PrintWords
/-- The name by which the printed row calls the word. -/
abbrev sized_ints := @Go.Proofs.YtfccopfhniobjaaW.PrintWords.sized_ints
end Go.Proofs.Ytfccopfhniobjaa.PrintWords
namespace Go.Proofs.Ytfccopfhniobjaa.QFnExactOrderOk
open Go.RowKit Go.Proofs.YtfccopfhniobjaaW.PrintWords Go.Proofs.YtfccopfhniobjaaW.PrintLast Go.Proofs.YtfccopfhniobjaaW.PrintMore
set_option linter.unusedVariables false
set_option linter.unusedSimpArgs false
theorem wid {x : Int} (h : -9223372036854775808 ≤ x) (h' : x ≤ 9223372036854775807) : wrap64 x = x := by unfold wrap64; omega
theorem Ev.pos {α : Type} {c : Prop} [Decidable c] {A B : Nat → Option α} {r : α} (h : c) (e : Ev A r) : Ev (fun k => if c then A k else B k) r := by simpa only [if_pos h] using e
theorem Ev.neg {α : Type} {c : Prop} [Decidable c] {A B : Nat → Option α} {r : α} (h : ¬ c) (e : Ev B r) : Ev (fun k => if c then A k else B k) r := by simpa only [if_neg h] using e
theorem Ev.bindv {α β : Type} {o : Option α} {f : Nat → α → Option β} {a : α} {r : β} (h : o = some a) (k : Ev (fun n => f n a) r) : Ev (fun n => o.bind (f n)) r := by subst h; exact k
theorem Ev.ret {α : Type} {a r : α} (h : a = r) : Ev (fun _ => some a) r := h ▸ Ev.now a
theorem rd_hd {l : List Int} {a : Int} (h : 1 ≤ a) : rd l (a - 1) = Hd.hd l a := Hd.hd_get h
theorem rd_hd1 {l : List Int} {a : Int} (h : 0 ≤ a) : rd l a = Hd.hd l (a + 1) := by rw [← rd_hd (by omega)]; congr 1; omega
theorem mn_mx (a b : Int) : (mn a b = a ∧ mx a b = b ∧ a ≤ b) ∨ (mn a b = b ∧ mx a b = a ∧ b ≤ a) := by
 unfold mn mx
 split <;> split <;> omega
theorem h_or_i64 {a b : Nat} (ha : a < 256) (hb : b < 256) : Go.bits .or .i64 (a : Int) (b : Int) = ((a ||| b : Nat) : Int) :=
 (Go.bits_nat .i64 8 (by decide) (fun n h0 h1 => by rw [Go.IntKind.wrap_i64]; omega) a b (by omega) (by omega)).2
theorem h_shl_one {x : Nat} (h : x ≤ 7) : shl .i64 1 (x : Int) = ((2 ^ x : Nat) : Int) := by
 have : ∀ x : Nat, x < 8 → shl .i64 1 (x : Int) = ((2 ^ x : Nat) : Int) := by decide
 exact this x (by omega)
theorem h_shr_bit {v x : Nat} (h : x ≤ 64) : (Int.tmod (shr .i64 (v : Int) (x : Int)) 2 = 1) ↔ v.testBit x = true := by
 unfold shr
 rw [Int.toNat_natCast, Nat.min_eq_left (by simpa [Go.IntKind.bits] using h), Nat.testBit_eq_decide_div_mod_eq]
 have : ((v : Int) / 2 ^ x) = ((v / 2 ^ x : Nat) : Int) := by simp
 rw [this, Int.tmod_eq_emod_of_nonneg (Int.natCast_nonneg _), decide_eq_true_eq]
 omega
theorem h_shr_nat {v x : Nat} (h : x ≤ 64) : shr .i64 (v : Int) (x : Int) = ((v / 2 ^ x : Nat) : Int) := by
 unfold shr
 rw [Int.toNat_natCast, Nat.min_eq_left (by simpa [Go.IntKind.bits] using h)]
 simp
theorem h_and_i64 {a b : Nat} (ha : a < 512) (hb : b < 512) : Go.bits .and .i64 (a : Int) (b : Int) = ((a &&& b : Nat) : Int) :=
 (Go.bits_nat .i64 9 (by decide) (fun n h0 h1 => by rw [Go.IntKind.wrap_i64]; omega) a b (by omega) (by omega)).1
theorem h_rd_set {P : List Int} {i j : Int} {v : Int} (h0 : 0 ≤ i) (h1 : i < P.length) (hj : 0 ≤ j) : rd (P.set i.toNat v) j = if j = i then v else rd P j := by
 unfold rd
 rw [List.getD_eq_getElem?_getD, List.getElem?_set]
 by_cases e : j = i
 ·subst e
  rw [if_pos rfl, if_pos (by omega), if_pos rfl]; rfl
 ·rw [if_neg (by omega), if_neg e, List.getD_eq_getElem?_getD]
/-- Bytes of a code, as far as they are read. -/
def Bts (b : List Int) : Prop := b.length ≤ 2000 ∧ ∀ i : Int, 0 ≤ rd b i ∧ rd b i ≤ 255
theorem bts_rd {l : List Int} (h : ∀ x, x ∈ l → 0 ≤ x ∧ x ≤ 255) (i : Int) : 0 ≤ rd l i ∧ rd l i ≤ 255 := by
 unfold rd
 rw [List.getD_eq_getElem?_getD]
 by_cases hi : i.toNat < l.length
 ·rw [List.getElem?_eq_getElem hi]; exact h _ (List.getElem_mem hi)
 ·rw [List.getElem?_eq_none (by omega)]; simp
theorem Ev.lit {α : Type} {g : Nat → Option α} {r : α} (K : Nat) (h : ∀ m, g (m + K) = some r) : Ev g r := ⟨K, fun k hk => by obtain ⟨m, rfl⟩ := Nat.exists_eq_add_of_le' hk; exact h m⟩
theorem rd_at {l : List Int} {j : Nat} (h : j < l.length) : rd l (j : Int) = l[j] := by
 simp [rd, List.getD_eq_getElem?_getD, List.getElem?_eq_getElem h]

/-! spec_l1In -/

theorem spec_l1In_eq (a b c : Int) : spec_l1In.f a b c = some (decide (b ≤ a ∧ a ≤ c)) := by
 unfold spec_l1In.f
 by_cases h : a ≥ b
 ·rw [if_pos h]; simp [h]
 ·rw [if_neg h]; simp; intro; omega

/-! impl_OrderOk -/

theorem impl_OrderOk_eq (o : List Int) (m : Int) : impl_OrderOk.f o m = some (Hd.ordB o m) := by
 unfold impl_OrderOk.f Ord.ordO
 congr 1
 by_cases c : 1 ≤ m ∧ m ≤ 8 ∧ (o.length : Int) = m
 ·rw [if_pos c]
  refine Bool.eq_iff_iff.2 ?_
  rw [Hd.ordB_true, Hd.ord_sorted (List.mergeSort_perm o _) (Hd.sorted_le o)]
  unfold Ord.upOK
  rw [List.all_eq_true]
  constructor
  ·intro h
   refine ⟨by omega, by omega, fun k hk => ?_⟩
   have := h k (List.mem_range.2 (by omega))
   rw [List.getD_eq_getElem?_getD]; simpa using this
  ·rintro ⟨_, _, h⟩ k hk
   have := h k (by have := List.mem_range.1 hk; omega)
   rw [List.getD_eq_getElem?_getD] at this
   simpa using this
 ·rw [if_neg c]
  cases hc : Hd.ordB o m with
  | false => rfl
  | true =>
   have h := Hd.ordB_true.1 hc
   have := h.2.len
   exact absurd ⟨h.1.1, h.1.2, by omega⟩ c

/-! spec_OrderOk -/
theorem spec_OrderOk.l0.ev {x0 : List Int} {x1 : Int} {x5 : Int} {r : Bool} (h : Ev (fun k => if x5 < (x0.length : Int) then (if 0 ≤ x5 then ((spec_l1In.f (rd x0 x5) 1 x1).bind fun t106 => (if t106 = true then (spec_OrderOk.l1 k x0 x1 x5 0) else (some false))) else (none)) else ((spec_l1In.f x1 1 8).bind fun t104 => (if t104 = true then (some ((x0.length : Int) == x1)) else (some false)))) r) : Ev (fun k => spec_OrderOk.l0 k x0 x1 x5) r := Ev.step (fun _ => rfl) h
theorem spec_OrderOk.l1.ev {x0 : List Int} {x1 : Int} {x5 : Int} {x6 : Int} {r : Bool} (h : Ev (fun k => if x6 < x5 then (if 0 ≤ x6 then (if x6 < (x0.length : Int) then (if 0 ≤ x5 then (if x5 < (x0.length : Int) then (if (rd x0 x6) = (rd x0 x5) then (some false) else (spec_OrderOk.l1 k x0 x1 x5 (wrap64 (x6 + 1)))) else (none)) else (none)) else (none)) else (none)) else (spec_OrderOk.l0 k x0 x1 (wrap64 (x5 + 1)))) r) : Ev (fun k => spec_OrderOk.l1 k x0 x1 x5 x6) r := Ev.step (fun _ => rfl) h
theorem ordB_no {o : List Int} {m : Int} (h : ¬ ((1 ≤ m ∧ m ≤ 8) ∧ Hd.Perm m.toNat o)) : false = Hd.ordB o m := by
 cases hc : Hd.ordB o m with
 | false => rfl
 | true => exact absurd (Hd.ordB_true.1 hc) h
theorem spec_OrderOk_l1 {o : List Int} (hl : o.length ≤ 1048600) {m i : Int} (h0 : 0 ≤ i) (h1 : i < o.length)
  (next : (∀ a : Int, 1 ≤ a → a ≤ i → Hd.hd o a ≠ Hd.hd o (i + 1)) → Ev (fun k => spec_OrderOk.l0 k o m (i + 1)) (Hd.ordB o m)) : ∀ j : Int, j ≤ i → 0 ≤ j → (∀ a : Int, 1 ≤ a → a ≤ j → Hd.hd o a ≠ Hd.hd o (i + 1)) → Ev (fun k => spec_OrderOk.l1 k o m i j) (Hd.ordB o m) := by
 refine Hd.down ?_
 intro j hj ih j0 hno
 refine spec_OrderOk.l1.ev ?_
 rw [wid (x := i + 1) (by omega) (by omega), wid (x := j + 1) (by omega) (by omega), rd_hd1 j0, rd_hd1 h0]
 by_cases hlt : j < i
 ·refine Ev.pos hlt (Ev.pos j0 (Ev.pos (by omega) (Ev.pos h0 (Ev.pos h1 ?_))))
  by_cases e : Hd.hd o (j + 1) = Hd.hd o (i + 1)
  ·refine Ev.pos e (Ev.ret (ordB_no fun h => ?_))
   have l := h.2.len
   have := h.2.inj (j + 1) (i + 1) (by omega) (by omega) (by omega) (by omega) e
   omega
  ·refine Ev.neg e (ih hlt (by omega) fun a k1 k2 => ?_)
   by_cases e2 : a = j + 1
   ·rw [e2]; exact e
   ·exact hno a k1 (by omega)
 ·exact Ev.neg hlt (next fun a k1 k2 => hno a k1 (by omega))
theorem spec_OrderOk_l0 {o : List Int} (hl : o.length ≤ 1048600) {m : Int} : ∀ i : Int, i ≤ o.length → 0 ≤ i → (∀ a : Int, 1 ≤ a → a ≤ i → 1 ≤ Hd.hd o a ∧ Hd.hd o a ≤ m) → (∀ a b : Int, 1 ≤ a → a < b → b ≤ i → Hd.hd o a ≠ Hd.hd o b) → Ev (fun k => spec_OrderOk.l0 k o m i) (Hd.ordB o m) := by
 refine Hd.down ?_
 intro i hi ih h0 hr hd
 refine spec_OrderOk.l0.ev ?_
 by_cases hlt : i < o.length
 ·rw [rd_hd1 h0]
  refine Ev.pos hlt (Ev.pos h0 (Ev.bindv (spec_l1In_eq _ _ _) ?_))
  by_cases hin : 1 ≤ Hd.hd o (i + 1) ∧ Hd.hd o (i + 1) ≤ m
  ·refine Ev.pos (by simpa using hin) (spec_OrderOk_l1 hl h0 hlt (fun hno => ih hlt (by omega) (fun a k1 k2 => ?_) (fun a b k1 k2 k3 => ?_)) 0 h0 (by omega) (fun a k1 k2 => by omega))
   ·by_cases e : a = i + 1
    ·rw [e]; exact hin
    ·exact hr a k1 (by omega)
   ·by_cases e : b = i + 1
    ·rw [e]; exact hno a k1 (by omega)
    ·exact hd a b k1 k2 (by omega)
  ·refine Ev.neg (by simpa using hin) (Ev.ret (ordB_no fun h => hin ?_))
   have l := h.2.len
   have := h.2.rng (i + 1) (by omega) (by omega)
   omega
 ·refine Ev.neg hlt (Ev.bindv (spec_l1In_eq _ _ _) ?_)
  by_cases hm : 1 ≤ m ∧ m ≤ 8
  ·refine Ev.pos (by simpa using hm) (Ev.ret (bool_eq ?_))
   rw [beq_iff_eq, Hd.ordB_true]
   constructor
   ·intro e
    refine ⟨hm, by omega, fun a k1 k2 => ?_, fun a b k1 k2 k3 k4 e2 => ?_⟩
    ·have := hr a k1 (by omega)
     omega
    ·apply Classical.byContradiction
     intro hne
     by_cases hab : a < b
     ·exact hd a b k1 hab (by omega) e2
     ·exact hd b a k3 (by omega) (by omega) e2.symm
   ·rintro ⟨_, h⟩
    have := h.len
    omega
  ·exact Ev.neg (by simpa using hm) (Ev.ret (ordB_no fun h => hm h.1))
theorem spec_OrderOk_ev {o : List Int} (hl : o.length ≤ 1048600) (m : Int) : Ev (fun k => spec_OrderOk.f k o m) (Hd.ordB o m) := spec_OrderOk_l0 hl 0 (by omega) (by omega) (fun a k1 k2 => by omega) (fun a b k1 k2 k3 => by omega)

/-! laws_toIntS -/
theorem laws_toIntS.l0.ev {x0 : List Int} {x3 : List Int} {x4 : Int} {r : List Int} (h : Ev (fun k => if x4 < (x0.length : Int) then (if 0 ≤ x4 then (if x4 < (x3.length : Int) then (laws_toIntS.l0 k x0 (x3.set (x4 : Int).toNat (rd x0 x4)) (wrap64 (x4 + 1))) else (none)) else (none)) else (some x3)) r) : Ev (fun k => laws_toIntS.l0 k x0 x3 x4) r := Ev.step (fun _ => rfl) h
theorem laws_toIntS_l0 {l : List Int} (hl : l.length ≤ 35184372088832) : ∀ i : Int, i ≤ l.length → 0 ≤ i → Ev (fun k => laws_toIntS.l0 k l (l.take i.toNat ++ List.replicate (l.length - i.toNat) 0) i) l := by
 refine Hd.down ?_
 intro i hi ih h0
 refine laws_toIntS.l0.ev ?_
 by_cases hlt : i < l.length
 ·rw [wid (x := i + 1) (by omega) (by omega)]
  refine Ev.pos hlt (Ev.pos h0 (Ev.pos (by simp; omega) ?_))
  have next := ih hlt (by omega)
  obtain ⟨j, rfl⟩ := Int.eq_ofNat_of_zero_le h0
  have hj : j < l.length := by omega
  rw [show ((j : Int) + 1).toNat = j + 1 from by omega] at next
  simp only [Int.toNat_natCast] at *
  have e : (l.take j ++ List.replicate (l.length - j) (0 : Int)).set j (rd l j) = l.take (j + 1) ++ List.replicate (l.length - (j + 1)) 0 := by
   rw [List.set_append, if_neg (by simp; omega)]
   rw [show l.length - j = (l.length - (j + 1)) + 1 from by omega, List.replicate_succ]
   rw [show j - (l.take j).length = 0 from by simp; omega, List.set_cons_zero, List.take_succ_eq_append_getElem hj]
   simp only [rd, List.getD_eq_getElem?_getD, Int.toNat_natCast, List.getElem?_eq_getElem hj, Option.getD_some, List.append_assoc, List.singleton_append]
  rw [e]; exact next
 ·refine Ev.neg hlt (Ev.ret ?_)
  rw [show i.toNat = l.length from by omega]
  simp
theorem laws_toIntS_ev {l : List Int} (hl : l.length ≤ 1048576) : Ev (fun k => laws_toIntS.f k l) l := by
 unfold laws_toIntS.f
 refine Ev.pos (by omega) (Ev.pos (by omega) ?_)
 have := laws_toIntS_l0 (l := l) (by omega) 0 (by omega) (by omega)
 simpa using this

/-! laws_eqIntS -/
theorem laws_eqIntS.l0.ev {x0 : List Int} {x1 : List Int} {x5 : Int} {r : Bool} (h : Ev (fun k => if x5 < (x0.length : Int) then (if 0 ≤ x5 then (if x5 < (x1.length : Int) then (if (rd x0 x5) = (rd x1 x5) then (laws_eqIntS.l0 k x0 x1 (wrap64 (x5 + 1))) else (some false)) else (none)) else (none)) else (some true)) r) : Ev (fun k => laws_eqIntS.l0 k x0 x1 x5) r := Ev.step (fun _ => rfl) h
theorem laws_eqIntS_l0 {a b : List Int} (hl : a.length ≤ 4611686018427387904) (he : a.length = b.length) : ∀ i : Int, i ≤ a.length → 0 ≤ i → a.take i.toNat = b.take i.toNat → Ev (fun k => laws_eqIntS.l0 k a b i) (decide (a = b)) := by
 refine Hd.down ?_
 intro i hi ih h0 ht
 refine laws_eqIntS.l0.ev ?_
 by_cases hlt : i < a.length
 ·rw [wid (x := i + 1) (by omega) (by omega)]
  refine Ev.pos hlt (Ev.pos h0 (Ev.pos (by omega) ?_))
  obtain ⟨j, rfl⟩ := Int.eq_ofNat_of_zero_le h0
  have hj : j < a.length := by omega
  have hj2 : j < b.length := by omega
  simp only [Int.toNat_natCast] at *
  have ga : rd a j = a[j] := by simp [rd, List.getD_eq_getElem?_getD, List.getElem?_eq_getElem hj]
  have gb : rd b j = b[j] := by simp [rd, List.getD_eq_getElem?_getD, List.getElem?_eq_getElem hj2]
  by_cases e : rd a j = rd b j
  ·refine Ev.pos e (ih hlt (by omega) ?_)
   rw [show ((j : Int) + 1).toNat = j + 1 from by omega, List.take_succ_eq_append_getElem hj, List.take_succ_eq_append_getElem hj2, ht, ← ga, ← gb, e]
  ·refine Ev.neg e (Ev.ret ?_)
   have : a ≠ b := fun h => e (by rw [h])
   simp [this]
 ·refine Ev.neg hlt (Ev.ret ?_)
  rw [show i.toNat = a.length from by omega] at ht
  rw [List.take_length, he, List.take_length] at ht
  simp [ht]
theorem laws_eqIntS_ev {a b : List Int} (hl : a.length ≤ 1048576) : Ev (fun k => laws_eqIntS.f k a b) (decide (a = b)) := by
 unfold laws_eqIntS.f
 by_cases e : a.length = b.length
 ·refine Ev.pos (by omega) ?_
  exact laws_eqIntS_l0 (by omega) e 0 (by omega) (by omega) (by simp)
 ·refine Ev.neg (by omega) (Ev.ret ?_)
  have : a ≠ b := fun h => e (by rw [h])
  simp [this]


end Go.Proofs.Ytfccopfhniobjaa.QFnExactOrderOk
