/- Contracts of the functions that the statement FnYieldOf reaches: what each printed function comes to. -/
import Derived.Test.YtkicbdbplfdfgaaQFnYieldOfx6
import Derived.Test.YtkicbdbplfdfgaaWSized
import Derived.Test.YtkicbdbplfdfgaaHdA
namespace Go.Proofs.Ytkicbdbplfdfgaa.PrintWords
/-- The name by which the printed row calls the word. -/
abbrev sized_ints := @Go.Proofs.YtkicbdbplfdfgaaW.PrintWords.sized_ints
end Go.Proofs.Ytkicbdbplfdfgaa.PrintWords
namespace Go.Proofs.Ytkicbdbplfdfgaa.QFnYieldOf
open Go.RowKit Go.Proofs.YtkicbdbplfdfgaaW.PrintWords Go.Proofs.YtkicbdbplfdfgaaW.PrintLast Go.Proofs.YtkicbdbplfdfgaaW.PrintMore
set_option linter.unusedVariables false
set_option linter.unusedSimpArgs false
theorem wid {x : Int} (h : -9223372036854775808 ≤ x) (h' : x ≤ 9223372036854775807) : wrap64 x = x := by unfold wrap64; omega
theorem Ev.pos {α : Type} {c : Prop} [Decidable c] {A B : Nat → Option α} {r : α} (h : c) (e : Ev A r) : Ev (fun k => if c then A k else B k) r := by simpa only [if_pos h] using e
theorem Ev.neg {α : Type} {c : Prop} [Decidable c] {A B : Nat → Option α} {r : α} (h : ¬ c) (e : Ev B r) : Ev (fun k => if c then A k else B k) r := by simpa only [if_neg h] using e
theorem Ev.bindv {α β : Type} {o : Option α} {f : Nat → α → Option β} {a : α} {r : β} (h : o = some a) (k : Ev (fun n => f n a) r) : Ev (fun n => o.bind (f n)) r := by subst h; exact k
theorem Ev.ret {α : Type} {a r : α} (h : a = r) : Ev (fun _ => some a) r := h ▸ Ev.now a
theorem rd_hd {l : List Int} {a : Int} (h : 1 ≤ a) : rd l (a - 1) = Hd.hd l a := Hd.hd_get h
theorem rd_hd1 {l : List Int} {a : Int} (h : 0 ≤ a) : rd l a = Hd.hd l (a + 1) := by rw [← rd_hd (by omega)]; congr 1; omega
theorem mn_mx (a b : Int) : (mn a b = a ∧ mx a b = b ∧ a ≤ b) ∨ (mn a b = b ∧ mx a b = a ∧ b ≤ a) := by
 unfold mn mx
 split <;> split <;> omega
theorem h_or_i64 {a b : Nat} (ha : a < 256) (hb : b < 256) : Go.bits .or .i64 (a : Int) (b : Int) = ((a ||| b : Nat) : Int) :=
 (Go.bits_nat .i64 8 (by decide) (fun n h0 h1 => by rw [Go.IntKind.wrap_i64]; omega) a b (by omega) (by omega)).2
theorem h_shl_one {x : Nat} (h : x ≤ 7) : shl .i64 1 (x : Int) = ((2 ^ x : Nat) : Int) := by
 have : ∀ x : Nat, x < 8 → shl .i64 1 (x : Int) = ((2 ^ x : Nat) : Int) := by decide
 exact this x (by omega)
theorem h_shr_bit {v x : Nat} (h : x ≤ 64) : (Int.tmod (shr .i64 (v : Int) (x : Int)) 2 = 1) ↔ v.testBit x = true := by
 unfold shr
 rw [Int.toNat_natCast, Nat.min_eq_left (by simpa [Go.IntKind.bits] using h), Nat.testBit_eq_decide_div_mod_eq]
 have : ((v : Int) / 2 ^ x) = ((v / 2 ^ x : Nat) : Int) := by simp
 rw [this, Int.tmod_eq_emod_of_nonneg (Int.natCast_nonneg _), decide_eq_true_eq]
 omega
theorem h_shr_nat {v x : Nat} (h : x ≤ 64) : shr .i64 (v : Int) (x : Int) = ((v / 2 ^ x : Nat) : Int) := by
 unfold shr
 rw [Int.toNat_natCast, Nat.min_eq_left (by simpa [Go.IntKind.bits] using h)]
 simp
theorem h_and_i64 {a b : Nat} (ha : a < 512) (hb : b < 512) : Go.bits .and .i64 (a : Int) (b : Int) = ((a &&& b : Nat) : Int) :=
 (Go.bits_nat .i64 9 (by decide) (fun n h0 h1 => by rw [Go.IntKind.wrap_i64]; omega) a b (by omega) (by omega)).1
theorem h_rd_set {P : List Int} {i j : Int} {v : Int} (h0 : 0 ≤ i) (h1 : i < P.length) (hj : 0 ≤ j) : rd (P.set i.toNat v) j = if j = i then v else rd P j := by
 unfold rd
 rw [List.getD_eq_getElem?_getD, List.getElem?_set]
 by_cases e : j = i
 ·subst e
  rw [if_pos rfl, if_pos (by omega), if_pos rfl]; rfl
 ·rw [if_neg (by omega), if_neg e, List.getD_eq_getElem?_getD]
/-- Bytes of a code, as far as they are read. -/
def Bts (b : List Int) : Prop := b.length ≤ 2000 ∧ ∀ i : Int, 0 ≤ rd b i ∧ rd b i ≤ 255
theorem bts_rd {l : List Int} (h : ∀ x, x ∈ l → 0 ≤ x ∧ x ≤ 255) (i : Int) : 0 ≤ rd l i ∧ rd l i ≤ 255 := by
 unfold rd
 rw [List.getD_eq_getElem?_getD]
 by_cases hi : i.toNat < l.length
 ·rw [List.getElem?_eq_getElem hi]; exact h _ (List.getElem_mem hi)
 ·rw [List.getElem?_eq_none (by omega)]; simp
theorem Ev.lit {α : Type} {g : Nat → Option α} {r : α} (K : Nat) (h : ∀ m, g (m + K) = some r) : Ev g r := ⟨K, fun k hk => by obtain ⟨m, rfl⟩ := Nat.exists_eq_add_of_le' hk; exact h m⟩

/-! impl_steps -/
theorem impl_steps.l0.ev {x0 : List Int} {x1 : Int} {x7 : Int} {x8 : Int} {r : Int} (h : Ev (fun k => if x8 < x7 then (if 0 ≤ (wrap64 (x1 - 1)) then (if (wrap64 (x1 - 1)) < (x0.length : Int) then (if (rd x0 (wrap64 (x1 - 1))) = 0 then (some x8) else (impl_steps.l0 k x0 (rd x0 (wrap64 (x1 - 1))) x7 (wrap64 (x8 + 1)))) else (none)) else (none)) else (some (-1))) r) : Ev (fun k => impl_steps.l0 k x0 x1 x7 x8) r := Ev.step (fun _ => rfl) h
theorem impl_steps_l0 {l : List Int} (v : Hd.Vals l) (h8 : l.length ≤ 8) : ∀ (d : Nat) (m w : Int), 0 ≤ m → m + d = l.length → 1 ≤ w → w ≤ l.length →
  Ev (fun k => impl_steps.l0 k l w l.length m) (if Hd.it (Hd.hd l) d w = 0 then m + Hd.depF (Hd.hd l) d w else -1)
 | 0, m, w, h0, hd, h1, h2 => by
  refine impl_steps.l0.ev ?_
  rw [if_neg (show ¬ Hd.it (Hd.hd l) 0 w = 0 from fun e => by have : w = 0 := e; omega)]
  exact Ev.neg (by omega) (Ev.now _)
 | d + 1, m, w, h0, hd, h1, h2 => by
  refine impl_steps.l0.ev ?_
  rw [wid (x := w - 1) (by omega) (by omega), wid (x := m + 1) (by omega) (by omega), rd_hd h1]
  refine Ev.pos (by omega) (Ev.pos (by omega) (Ev.pos (by omega) ?_))
  by_cases hz : Hd.hd l w = 0
  ·refine Ev.pos hz (Ev.ret ?_)
   have : Hd.it (Hd.hd l) (d + 1) w = 0 := by show Hd.it (Hd.hd l) d (Hd.hd l w) = 0; rw [hz]; exact Hd.it_zero (Hd.hd_zero l) d
   rw [if_pos this, Hd.depF, if_pos hz]; simp
  ·refine Ev.neg hz ?_
   have := v w h1 h2
   have ih := impl_steps_l0 v h8 d (m + 1) (Hd.hd l w) (by omega) (by omega) (by omega) (by omega)
   have e : Hd.it (Hd.hd l) (d + 1) w = Hd.it (Hd.hd l) d (Hd.hd l w) := rfl
   rw [e, Hd.depF, if_neg hz]
   have e2 : m + ((Hd.depF (Hd.hd l) d (Hd.hd l w) + 1 : Nat) : Int) = m + 1 + (Hd.depF (Hd.hd l) d (Hd.hd l w) : Nat) := by omega
   rw [e2]; exact ih
theorem impl_steps_ev {l : List Int} (v : Hd.Vals l) (h8 : l.length ≤ 8) {w : Int} (h1 : 1 ≤ w) (h2 : w ≤ l.length) :
  Ev (fun k => impl_steps.f k l w) (if Hd.it (Hd.hd l) l.length w = 0 then (Hd.depF (Hd.hd l) l.length w : Int) else -1) := by
 have := impl_steps_l0 v h8 l.length 0 w (by omega) (by omega) h1 h2
 simp only [Int.zero_add] at this
 exact this

/-! impl_TreeOk -/
theorem impl_TreeOk.j0.ev {x0 : List Int} {x14 : Bool} {r : Bool} (h : Ev (fun k => if x14 = true then (some false) else (impl_TreeOk.l0 k x0 0 x0 (x0.length : Int) 0)) r) : Ev (fun k => impl_TreeOk.j0 k x0 x14) r := Ev.step (fun _ => rfl) h
theorem impl_TreeOk.l0.ev {x0 : List Int} {x3 : Int} {x15 : List Int} {x16 : Int} {x17 : Int} {r : Bool} (h : Ev (fun k => if x17 < x16 then (if 0 ≤ x17 then (if x17 < (x15.length : Int) then (if (rd x15 x17) < 0 then (impl_TreeOk.j2 k x0 x3 (rd x15 x17) x15 x16 x17 true) else (impl_TreeOk.j2 k x0 x3 (rd x15 x17) x15 x16 x17 (decide ((rd x15 x17) > (x0.length : Int))))) else (none)) else (none)) else (impl_TreeOk.l1 k x0 x3 (x0.length : Int) 0)) r) : Ev (fun k => impl_TreeOk.l0 k x0 x3 x15 x16 x17) r := Ev.step (fun _ => rfl) h
theorem impl_TreeOk.j2.ev {x0 : List Int} {x3 : Int} {x5 : Int} {x15 : List Int} {x16 : Int} {x17 : Int} {x28 : Bool} {r : Bool} (h : Ev (fun k => if x28 = true then (some false) else (if x5 = 0 then (impl_TreeOk.l0 k x0 (wrap64 (x3 + 1)) x15 x16 (wrap64 (x17 + 1))) else (impl_TreeOk.l0 k x0 x3 x15 x16 (wrap64 (x17 + 1))))) r) : Ev (fun k => impl_TreeOk.j2 k x0 x3 x5 x15 x16 x17 x28) r := Ev.step (fun _ => rfl) h
theorem impl_TreeOk.l1.ev {x0 : List Int} {x3 : Int} {x35 : Int} {x36 : Int} {r : Bool} (h : Ev (fun k => if x36 < x35 then ((impl_steps.f k x0 (wrap64 (x36 + 1))).bind fun t103 => (if t103 < 0 then (some false) else (impl_TreeOk.l1 k x0 x3 x35 (wrap64 (x36 + 1))))) else (some (x3 == 1))) r) : Ev (fun k => impl_TreeOk.l1 k x0 x3 x35 x36) r := Ev.step (fun _ => rfl) h
theorem impl_TreeOk_l1 {l : List Int} (v : Hd.Vals l) (h8 : l.length ≤ 8) {c : Int} (hc : c = Hd.zeros l l.length) : ∀ i : Int, i ≤ l.length → 0 ≤ i → (∀ a : Int, 1 ≤ a → a ≤ i → Hd.it (Hd.hd l) l.length a = 0) →
  Ev (fun k => impl_TreeOk.l1 k l c l.length i) (Hd.treeB l) := by
 refine Hd.down ?_
 intro i hi ih h0 hb
 refine impl_TreeOk.l1.ev ?_
 by_cases hlt : i < l.length
 ·rw [wid (x := i + 1) (by omega) (by omega)]
  refine Ev.pos hlt (Ev.bind (impl_steps_ev v h8 (by omega) (by omega)) ?_)
  by_cases hz : Hd.it (Hd.hd l) l.length (i + 1) = 0
  ·rw [if_pos hz]
   refine Ev.neg (by omega) (ih hlt (by omega) fun a h1 h2 => ?_)
   by_cases e : a = i + 1
   ·rw [e]; exact hz
   ·exact hb a h1 (by omega)
  ·rw [if_neg hz, Hd.treeB_no (fun t => hz (t.2.back _ (by omega) (by omega)))]
   exact Ev.pos (by omega) (Ev.now _)
 ·refine Ev.neg hlt (Ev.ret ?_)
  have t := Hd.T_iff h8 v (fun a h1 h2 => hb a h1 (by omega))
  by_cases e : Hd.zeros l l.length = 1
  ·rw [Hd.treeB_yes (t.2 e), hc, e]; rfl
  ·rw [Hd.treeB_no (fun x => e (t.1 x)), hc]; simp; omega
theorem impl_TreeOk_l0 {l : List Int} (h8 : l.length ≤ 8) : ∀ i : Int, i ≤ l.length → 0 ≤ i → (∀ a : Int, 1 ≤ a → a ≤ i → 0 ≤ Hd.hd l a ∧ Hd.hd l a ≤ l.length) →
  Ev (fun k => impl_TreeOk.l0 k l (Hd.zeros l i.toNat) l l.length i) (Hd.treeB l) := by
 refine Hd.down ?_
 intro i hi ih h0 hb
 refine impl_TreeOk.l0.ev ?_
 by_cases hlt : i < l.length
 ·have hz := Hd.cnt_le (fun a => decide (Hd.hd l a = 0)) i.toNat
  have hzz : Hd.zeros l (i + 1).toNat = Hd.zeros l i.toNat + if Hd.hd l (i + 1) = 0 then 1 else 0 := by
   rw [show (i + 1).toNat = i.toNat + 1 from by omega]
   show Hd.cnt _ (i.toNat + 1) = _
   rw [Hd.cnt, show ((i.toNat : Int) + 1) = i + 1 from by omega]
   simp [Hd.zeros]
  have hz' : Hd.zeros l i.toNat ≤ i.toNat := hz
  rw [rd_hd1 h0]
  refine Ev.pos hlt (Ev.pos h0 (Ev.pos hlt ?_))
  have no : ¬ (0 ≤ Hd.hd l (i + 1) ∧ Hd.hd l (i + 1) ≤ l.length) → Hd.treeB l = false := fun hn => Hd.treeB_no fun t => hn (t.vals _ (by omega) (by omega))
  by_cases hneg : Hd.hd l (i + 1) < 0
  ·refine Ev.pos hneg (impl_TreeOk.j2.ev (Ev.pos rfl (Ev.ret ?_)))
   rw [no (by omega)]
  ·refine Ev.neg hneg (impl_TreeOk.j2.ev ?_)
   by_cases hbig : Hd.hd l (i + 1) > l.length
   ·refine Ev.pos (by simpa using hbig) (Ev.ret ?_)
    rw [no (by omega)]
   ·refine Ev.neg (by simpa using hbig) ?_
    rw [wid (x := (Hd.zeros l i.toNat : Int) + 1) (by omega) (by omega), wid (x := i + 1) (by omega) (by omega)]
    have next := ih hlt (by omega) (fun a h1 h2 => by
     by_cases e : a = i + 1
     ·rw [e]; omega
     ·exact hb a h1 (by omega))
    rw [hzz] at next
    by_cases h00 : Hd.hd l (i + 1) = 0
    ·rw [if_pos h00] at next
     exact Ev.pos h00 next
    ·rw [if_neg h00] at next
     exact Ev.neg h00 next
 ·refine Ev.neg hlt ?_
  have e : i.toNat = l.length := by omega
  rw [e]
  exact impl_TreeOk_l1 (fun a h1 h2 => hb a h1 (by omega)) h8 rfl 0 (by omega) (by omega) (fun a h1 h2 => by omega)
theorem impl_TreeOk_ev (l : List Int) : Ev (fun k => impl_TreeOk.f k l) (Hd.treeB l) := by
 unfold impl_TreeOk.f
 by_cases h1 : (l.length : Int) < 1
 ·refine Ev.pos h1 (impl_TreeOk.j0.ev (Ev.pos rfl (Ev.ret ?_)))
  exact (Hd.treeB_no fun t => by have := t.2.pos; omega).symm
 ·refine Ev.neg h1 (impl_TreeOk.j0.ev ?_)
  by_cases h8 : (l.length : Int) > 8
  ·refine Ev.pos (by simpa using h8) (Ev.ret ?_)
   exact (Hd.treeB_no fun t => by have := t.1; omega).symm
  ·refine Ev.neg (by simpa using h8) ?_
   exact impl_TreeOk_l0 (by omega) 0 (by omega) (by omega) (fun a h1 h2 => by omega)

/-! laws_alive -/

theorem alive_one : Hd.treeB [0] = true := by
 have one : ∀ a : Int, 1 ≤ a → a ≤ ([0] : List Int).length → a = 1 := fun a h1 h2 => by simp at h2; omega
 exact Hd.treeB_yes ((Hd.T_iff (l := [0]) (by decide) (fun a h1 h2 => by rw [one a h1 h2]; decide) (fun a h1 h2 => by rw [one a h1 h2]; decide)).2 (by decide))
theorem alive_two : Hd.treeB [1] = false := Hd.treeB_no fun t => by
 have := t.2.not_own (a := 1) (by simp)
 exact this (by decide)
theorem laws_alive_ev : Ev (fun k => laws_alive.f k) true := by
 unfold laws_alive.f
 refine Ev.bind (impl_TreeOk_ev [0]) (Ev.pos alive_one (Ev.bind (impl_TreeOk_ev [1]) (Ev.ret ?_)))
 rw [alive_two]; rfl

/-! laws_sameInts -/
theorem laws_sameInts.l0.ev {x0 : List Int} {x1 : List Int} {x5 : Int} {r : Bool} (h : Ev (fun k => if x5 < (x0.length : Int) then (if 0 ≤ x5 then (if x5 < (x1.length : Int) then (if (rd x0 x5) = (rd x1 x5) then (laws_sameInts.l0 k x0 x1 (wrap64 (x5 + 1))) else (some false)) else (none)) else (none)) else (some true)) r) : Ev (fun k => laws_sameInts.l0 k x0 x1 x5) r := Ev.step (fun _ => rfl) h
theorem laws_sameInts_l0 {a b : List Int} (hl : a.length ≤ 4611686018427387904) (he : a.length = b.length) : ∀ i : Int, i ≤ a.length → 0 ≤ i → a.take i.toNat = b.take i.toNat → Ev (fun k => laws_sameInts.l0 k a b i) (decide (a = b)) := by
 refine Hd.down ?_
 intro i hi ih h0 ht
 refine laws_sameInts.l0.ev ?_
 by_cases hlt : i < a.length
 ·rw [wid (x := i + 1) (by omega) (by omega)]
  refine Ev.pos hlt (Ev.pos h0 (Ev.pos (by omega) ?_))
  obtain ⟨j, rfl⟩ := Int.eq_ofNat_of_zero_le h0
  have hj : j < a.length := by omega
  have hj2 : j < b.length := by omega
  simp only [Int.toNat_natCast] at *
  have ga : rd a j = a[j] := by simp [rd, List.getD_eq_getElem?_getD, List.getElem?_eq_getElem hj]
  have gb : rd b j = b[j] := by simp [rd, List.getD_eq_getElem?_getD, List.getElem?_eq_getElem hj2]
  by_cases e : rd a j = rd b j
  ·refine Ev.pos e (ih hlt (by omega) ?_)
   rw [show ((j : Int) + 1).toNat = j + 1 from by omega, List.take_succ_eq_append_getElem hj, List.take_succ_eq_append_getElem hj2, ht, ← ga, ← gb, e]
  ·refine Ev.neg e (Ev.ret ?_)
   have : a ≠ b := fun h => e (by rw [h])
   simp [this]
 ·refine Ev.neg hlt (Ev.ret ?_)
  rw [show i.toNat = a.length from by omega] at ht
  rw [List.take_length, he, List.take_length] at ht
  simp [ht]
theorem laws_sameInts_ev {a b : List Int} (hl : a.length ≤ 1048576) : Ev (fun k => laws_sameInts.f k a b) (decide (a = b)) := by
 unfold laws_sameInts.f
 by_cases e : a.length = b.length
 ·refine Ev.pos (by omega) ?_
  exact laws_sameInts_l0 (by omega) e 0 (by omega) (by omega) (by simp)
 ·refine Ev.neg (by omega) (Ev.ret ?_)
  have : a ≠ b := fun h => e (by rw [h])
  simp [this]

/-! slices_Index_int_int -/
theorem slices_Index_int_int.l0.ev {x0 : List Int} {x1 : Int} {x7 : Int} {x8 : Int} {r : Int} (h : Ev (fun k => if x8 < x7 then (if 0 ≤ x8 then (if x8 < (x0.length : Int) then (if x1 = (rd x0 x8) then (some x8) else (slices_Index_int_int.l0 k x0 x1 x7 (wrap64 (x8 + 1)))) else (none)) else (none)) else (some (-1))) r) : Ev (fun k => slices_Index_int_int.l0 k x0 x1 x7 x8) r := Ev.step (fun _ => rfl) h
theorem slices_Index_root {l : List Int} (t : Hd.T l) : ∀ i : Int, i ≤ l.length → 0 ≤ i → i < Hd.rootI l → Ev (fun k => slices_Index_int_int.l0 k l 0 l.length i) (Hd.rootI l - 1) := by
 obtain ⟨hr, hz, uq⟩ := Hd.rootI_spec t
 have h8 := t.1
 refine Hd.down ?_
 intro i hi ih h0 hlt
 refine slices_Index_int_int.l0.ev (Ev.pos (by omega) (Ev.pos h0 (Ev.pos (by omega) ?_)))
 rw [rd_hd1 h0, wid (x := i + 1) (by omega) (by omega)]
 by_cases e : 0 = Hd.hd l (i + 1)
 ·exact Ev.pos e (Ev.ret (by have := uq _ (by omega) (by omega) e.symm; omega))
 ·refine Ev.neg e (ih (by omega) (by omega) ?_)
  have : i + 1 ≠ Hd.rootI l := fun e2 => e (by rw [e2]; exact hz.symm)
  omega

/-! impl_RootOf -/

theorem impl_RootOf_ev (l : List Int) : Ev (fun k => impl_RootOf.f k l) (Hd.rootI l) := by
 unfold impl_RootOf.f
 refine Ev.bind (impl_TreeOk_ev l) ?_
 by_cases t : Hd.T l
 ·have := (Hd.rootI_spec t).1
  have h8 := t.1
  refine Ev.pos (Hd.treeB_yes t) (Ev.bind (slices_Index_root t 0 (by omega) (by omega) (by omega)) (Ev.ret ?_))
  rw [wid (x := Hd.rootI l - 1 + 1) (by omega) (by omega)]; omega
 ·rw [Hd.rootI_no t]
  exact Ev.neg (by rw [Hd.treeB_no t]; simp) (Ev.now _)

/-! impl_isWord -/

theorem impl_isWord_ev (l : List Int) (a : Int) : Ev (fun k => impl_isWord.f k l a) (wordB l a) := by
 unfold impl_isWord.f
 refine Ev.bind (impl_TreeOk_ev l) ?_
 unfold wordB
 by_cases ht : Hd.treeB l = true
 ·refine Ev.pos ht ?_
  rw [ht]
  by_cases h1 : a ≥ 1
  ·refine Ev.pos h1 (Ev.ret (bool_eq ?_)); simp; omega
  ·refine Ev.neg h1 (Ev.ret (bool_eq ?_)); simp; omega
 ·refine Ev.neg ht (Ev.ret ?_)
  rw [Bool.not_eq_true] at ht
  rw [ht]; rfl

/-! impl_under -/
theorem impl_under.l0.ev {x0 : List Int} {x1 : Int} {x2 : Int} {r : Bool} (h : Ev (fun k => if x1 = 0 then (some (x1 == x2)) else (if x1 = x2 then (some (x1 == x2)) else (if 0 ≤ (wrap64 (x1 - 1)) then (if (wrap64 (x1 - 1)) < (x0.length : Int) then (impl_under.l0 k x0 (rd x0 (wrap64 (x1 - 1))) x2) else (none)) else (none)))) r) : Ev (fun k => impl_under.l0 k x0 x1 x2) r := Ev.step (fun _ => rfl) h
theorem impl_under_l0 {l : List Int} (t : Hd.T l) (b : Int) : ∀ (k : Nat) (a : Int), 0 ≤ a → a ≤ l.length → Hd.it (Hd.hd l) k a = 0 → Ev (fun j => impl_under.l0 j l a b) (Hd.undB l a b)
 | k, a, h1, h2, e => by
  refine impl_under.l0.ev ?_
  by_cases hz : a = 0
  ·subst hz
   refine Ev.pos rfl (Ev.ret (bool_eq ?_))
   rw [Hd.undB_true]; simp
   constructor
   ·rintro rfl; exact Hd.Und.refl _ _
   ·intro u; exact (t.2.und_zero u).symm
  ·refine Ev.neg hz ?_
   by_cases hab : a = b
   ·refine Ev.pos hab (Ev.ret (bool_eq ?_))
    rw [Hd.undB_true]; simp [hab]
    exact Hd.Und.refl _ _
   ·refine Ev.neg hab ?_
    rw [wid (x := a - 1) (by omega) (by have := t.1; omega), rd_hd (by omega)]
    refine Ev.pos (by omega) (Ev.pos (by omega) ?_)
    match k, e with
    | 0, e => exact absurd e hz
    | k + 1, e =>
     have ih := impl_under_l0 t b k (Hd.hd l a) (t.2.lo a) (t.2.hi a) e
     have : Hd.undB l a b = Hd.undB l (Hd.hd l a) b := bool_eq (by
      rw [Hd.undB_true, Hd.undB_true]
      exact ⟨fun u => u.cases.elim (fun e => absurd e hab) id, fun u => u.up⟩)
     rw [this]; exact ih
theorem impl_under_ev {l : List Int} (t : Hd.T l) {a : Int} (h1 : 1 ≤ a) (h2 : a ≤ l.length) (b : Int) : Ev (fun k => impl_under.f k l a b) (Hd.undB l a b) :=
 impl_under_l0 t b l.length a (by omega) h2 (t.2.back a h1 h2)

/-! impl_YieldOf -/
theorem impl_YieldOf.l0.ev {x0 : List Int} {x1 : Int} {x5 : List Int} {x13 : Int} {x14 : Int} {r : List Int} (h : Ev (fun k => if x14 < x13 then ((impl_under.f k x0 (wrap64 (x14 + 1)) x1).bind fun t123 => (if t123 = true then (if x5.length < 17592186044416 then (impl_YieldOf.l0 k x0 x1 (x5 ++ [wrap64 (x14 + 1)]) x13 (wrap64 (x14 + 1))) else (none)) else (impl_YieldOf.l0 k x0 x1 x5 x13 (wrap64 (x14 + 1))))) else (some x5)) r) : Ev (fun k => impl_YieldOf.l0 k x0 x1 x5 x13 x14) r := Ev.step (fun _ => rfl) h
theorem impl_YieldOf_l0 {l : List Int} (t : Hd.T l) {w : Int} (hw : 1 ≤ w ∧ w ≤ (l.length : Int)) : ∀ i : Int, i ≤ l.length → 0 ≤ i → Ev (fun k => impl_YieldOf.l0 k l w (Hd.sel (fun x => Hd.undB l x w) i.toNat) l.length i) (Hd.yldL l w) := by
 have h8 := t.1
 refine Hd.down ?_
 intro i hi ih h0
 refine impl_YieldOf.l0.ev ?_
 by_cases hlt : i < l.length
 ·have next := ih hlt (by omega)
  have hs := Hd.sel_le (fun x => Hd.undB l x w) i.toNat
  rw [show (i + 1).toNat = i.toNat + 1 from by omega, Hd.sel, show ((i.toNat : Int) + 1) = i + 1 from by omega] at next
  rw [wid (x := i + 1) (by omega) (by omega)]
  refine Ev.pos hlt (Ev.bind (impl_under_ev t (by omega) (by omega) w) ?_)
  by_cases e : Hd.undB l (i + 1) w = true
  ·rw [if_pos e] at next
   exact Ev.pos e (Ev.pos (by omega) next)
  ·rw [if_neg e, List.append_nil] at next
   exact Ev.neg e next
 ·refine Ev.neg hlt (Ev.ret ?_)
  rw [show i.toNat = l.length from by omega, Hd.yldL, if_pos ⟨t, hw⟩]; rfl
theorem impl_YieldOf_ev (l : List Int) (w : Int) : Ev (fun k => impl_YieldOf.f k l w) (Hd.yldL l w) := by
 unfold impl_YieldOf.f
 refine Ev.bind (impl_isWord_ev l w) ?_
 by_cases hw : wordB l w = true
 ·have h := wordB_true.1 hw
  exact Ev.pos hw (impl_YieldOf_l0 h.1 h.2 0 (by omega) (by omega))
 ·rw [Hd.yldL, if_neg fun h => hw (wordB_true.2 h)]
  exact Ev.neg hw (Ev.now _)

/-! laws_hasInt -/
theorem laws_hasInt.l0.ev {x0 : List Int} {x1 : Int} {x5 : Int} {r : Bool} (h : Ev (fun k => if x5 < (x0.length : Int) then (if 0 ≤ x5 then (if (rd x0 x5) = x1 then (some true) else (laws_hasInt.l0 k x0 x1 (wrap64 (x5 + 1)))) else (none)) else (some false)) r) : Ev (fun k => laws_hasInt.l0 k x0 x1 x5) r := Ev.step (fun _ => rfl) h
theorem laws_hasInt_l0 {l : List Int} (hl : l.length ≤ 1048600) (x : Int) : ∀ i : Int, i ≤ l.length → 0 ≤ i → x ∉ l.take i.toNat → Ev (fun k => laws_hasInt.l0 k l x i) (decide (x ∈ l)) := by
 refine Hd.down ?_
 intro i hi ih h0 hn
 refine laws_hasInt.l0.ev ?_
 by_cases hlt : i < l.length
 ·rw [wid (x := i + 1) (by omega) (by omega)]
  obtain ⟨j, rfl⟩ := Int.eq_ofNat_of_zero_le h0
  have hj : j < l.length := by omega
  have g : rd l j = l[j] := by simp [rd, List.getD_eq_getElem?_getD, List.getElem?_eq_getElem hj]
  refine Ev.pos hlt (Ev.pos h0 ?_)
  by_cases e : rd l j = x
  ·refine Ev.pos e (Ev.ret ?_)
   have : x ∈ l := by rw [← e, g]; exact List.getElem_mem hj
   simp [this]
  ·refine Ev.neg e (ih hlt (by omega) ?_)
   rw [show ((j : Int) + 1).toNat = j + 1 from by omega, List.take_succ_eq_append_getElem hj, List.mem_append]
   rw [Int.toNat_natCast] at hn
   rintro (h | h)
   ·exact hn h
   ·rw [List.mem_singleton] at h
    exact e (by rw [g, h])
 ·refine Ev.neg hlt (Ev.ret ?_)
  rw [show i.toNat = l.length from by omega, List.take_length] at hn
  simp [hn]
theorem laws_hasInt_ev {l : List Int} (hl : l.length ≤ 1048600) (x : Int) : Ev (fun k => laws_hasInt.f k l x) (decide (x ∈ l)) := laws_hasInt_l0 hl x 0 (by omega) (by omega) (by simp)

/-! laws_ascend -/
theorem laws_ascend.l0.ev {x0 : List Int} {x3 : Int} {r : Bool} (h : Ev (fun k => if x3 < (x0.length : Int) then (if 0 ≤ (wrap64 (x3 - 1)) then (if (wrap64 (x3 - 1)) < (x0.length : Int) then (if 0 ≤ x3 then (if (rd x0 (wrap64 (x3 - 1))) ≥ (rd x0 x3) then (some false) else (laws_ascend.l0 k x0 (wrap64 (x3 + 1)))) else (none)) else (none)) else (none)) else (some true)) r) : Ev (fun k => laws_ascend.l0 k x0 x3) r := Ev.step (fun _ => rfl) h
theorem sel_asc (p : Int → Bool) : ∀ (m i : Nat), i + 1 < (Hd.sel p m).length → (Hd.sel p m).getD i 0 < (Hd.sel p m).getD (i + 1) 0
 | 0, i, h => by simp [Hd.sel] at h
 | m + 1, i, h => by
  unfold Hd.sel at h ⊢
  by_cases hp : p ((m : Int) + 1) = true
  ·rw [if_pos hp] at h ⊢
   rw [List.getD_eq_getElem?_getD, List.getD_eq_getElem?_getD]
   by_cases e : i + 1 < (Hd.sel p m).length
   ·rw [List.getElem?_append_left (by omega), List.getElem?_append_left e, ← List.getD_eq_getElem?_getD, ← List.getD_eq_getElem?_getD]
    exact sel_asc p m i e
   ·have e2 : i + 1 = (Hd.sel p m).length := by simp at h; omega
    have hi : i < (Hd.sel p m).length := by omega
    rw [List.getElem?_append_left hi, e2, List.getElem?_append_right (by omega), List.getElem?_eq_getElem hi, Nat.sub_self]
    have := (Hd.mem_sel.1 (List.getElem_mem hi)).2.1
    simp only [Option.getD_some, List.getElem?_cons_zero]
    omega
  ·rw [if_neg hp, List.append_nil] at h ⊢
   exact sel_asc p m i h
theorem laws_ascend_ev {l : List Int} (hl : l.length ≤ 1048600) (h : ∀ i : Nat, i + 1 < l.length → l.getD i 0 < l.getD (i + 1) 0) : Ev (fun k => laws_ascend.f k l) true := by
 by_cases hz : l.length = 0
 ·exact laws_ascend.l0.ev (Ev.neg (by omega) (Ev.now _))
 ·have key : ∀ i : Int, i ≤ l.length → 1 ≤ i → Ev (fun k => laws_ascend.l0 k l i) true := by
   refine Hd.down ?_
   intro i hi ih h1
   refine laws_ascend.l0.ev ?_
   by_cases hlt : i < l.length
   ·rw [wid (x := i - 1) (by omega) (by omega), wid (x := i + 1) (by omega) (by omega)]
    have := h (i - 1).toNat (by omega)
    refine Ev.pos hlt (Ev.pos (by omega) (Ev.pos (by omega) (Ev.pos (by omega) (Ev.neg ?_ (ih hlt (by omega))))))
    rw [show (i - 1).toNat + 1 = i.toNat from by omega] at this
    unfold rd; omega
   ·exact Ev.neg hlt (Ev.now _)
  exact key 1 (by omega) (by omega)

/-! spec_l20Open -/

theorem spec_l20Open_eq {l : List Int} (h : ∀ x ∈ l, (Lit.int .u8 x).wf = true) : ∃ b, spec_l20Open.f l = some (b, 0) ∧ Bts b := by
 have hb : ∀ x, x ∈ l → 0 ≤ x ∧ x ≤ 255 := fun x hx => by
  have := h x hx
  simpa [Lit.wf, IntKind.min, IntKind.max, IntKind.signed, IntKind.bits] using this
 unfold spec_l20Open.f
 by_cases hl : (l.length : Int) > 2000
 ·rw [if_pos hl, if_pos (by omega)]
  exact ⟨_, rfl, by simp; omega, bts_rd fun x hx => hb x (List.mem_of_mem_take hx)⟩
 ·rw [if_neg hl]
  exact ⟨_, rfl, by omega, bts_rd hb⟩

/-! spec_l20Rd_pick -/
theorem spec_l20Rd_pick.j0.ev {x1 : Int} {x24 : Bool} {x1000 : List Int} {x1001 : Int} {r : Int × Int} (h : Ev (fun k => if x24 = true then (some (0, x1001)) else (if (wrap64 (x1001 - 1)) < (x1000.length : Int) then (if 0 ≤ (wrap64 (x1001 - 1)) then (if x1 = 0 then (none) else (some (Int.tmod (wrap64 (rd x1000 (wrap64 (x1001 - 1)))) x1, x1001))) else (none)) else (if (x1000.length : Int) = 0 then (none) else (if 0 ≤ (Int.tmod (wrap64 (x1001 - 1)) (x1000.length : Int)) then (if (Int.tmod (wrap64 (x1001 - 1)) (x1000.length : Int)) < (x1000.length : Int) then (if 0 ≤ (Int.tmod (wrap64 ((wrap64 ((wrap64 (x1001 - 1)) * 7)) + 3)) (x1000.length : Int)) then (if (Int.tmod (wrap64 ((wrap64 ((wrap64 (x1001 - 1)) * 7)) + 3)) (x1000.length : Int)) < (x1000.length : Int) then (if x1 = 0 then (none) else (some (Int.tmod (Go.bits .xor .i64 (wrap64 ((wrap64 ((wrap64 ((wrap64 ((wrap64 (rd x1000 (Int.tmod (wrap64 (x1001 - 1)) (x1000.length : Int)))) * 131)) + (wrap64 ((wrap64 (rd x1000 (Int.tmod (wrap64 ((wrap64 ((wrap64 (x1001 - 1)) * 7)) + 3)) (x1000.length : Int)))) * 1117)))) + (wrap64 ((wrap64 (x1001 - 1)) * 29)))) + (wrap64 ((wrap64 (Int.tdiv (wrap64 (x1001 - 1)) (x1000.length : Int))) * 53)))) (wrap64 (Int.tdiv (wrap64 ((wrap64 ((wrap64 ((wrap64 ((wrap64 (rd x1000 (Int.tmod (wrap64 (x1001 - 1)) (x1000.length : Int)))) * 131)) + (wrap64 ((wrap64 (rd x1000 (Int.tmod (wrap64 ((wrap64 ((wrap64 (x1001 - 1)) * 7)) + 3)) (x1000.length : Int)))) * 1117)))) + (wrap64 ((wrap64 (x1001 - 1)) * 29)))) + (wrap64 ((wrap64 (Int.tdiv (wrap64 (x1001 - 1)) (x1000.length : Int))) * 53)))) 64))) x1, x1001))) else (none)) else (none)) else (none)) else (none))))) r) : Ev (fun k => spec_l20Rd_pick.j0 k x1 x24 x1000 x1001) r := Ev.step (fun _ => rfl) h
theorem bits_xor_nat (k : Go.IntKind) (j : Nat) (hj : j ≤ k.bits) (hk : ∀ n : Int, 0 ≤ n → n < 2 ^ j → k.wrap n = n) (a b : Nat) (ha : a < 2 ^ j) (hb : b < 2 ^ j) : Go.bits .xor k a b = ((a ^^^ b : Nat) : Int) := by
 have hp : 2 ^ j ≤ 2 ^ k.bits := Nat.pow_le_pow_right (by decide) hj
 have ha' : a % 2 ^ k.bits = a := Nat.mod_eq_of_lt (Nat.lt_of_lt_of_le ha hp)
 have hb' : b % 2 ^ k.bits = b := Nat.mod_eq_of_lt (Nat.lt_of_lt_of_le hb hp)
 simp only [Go.bits, BitVec.ofInt_natCast, BitVec.toNat_xor, BitVec.toNat_ofNat, ha', hb']
 refine hk _ (Int.natCast_nonneg _) ?_
 exact_mod_cast Nat.xor_lt_two_pow ha hb
theorem h_xor_i64 {a b : Nat} (ha : a < 2 ^ 40) (hb : b < 2 ^ 40) : Go.bits .xor .i64 (a : Int) (b : Int) = ((a ^^^ b : Nat) : Int) :=
 bits_xor_nat .i64 40 (by decide) (fun n h0 h1 => by rw [Go.IntKind.wrap_i64]; omega) a b ha hb
theorem xor_nonneg {x : Int} (h0 : 0 ≤ x) (h1 : x < 1000000000) : 0 ≤ Go.bits .xor .i64 x (Int.tdiv x 64) ∧ Go.bits .xor .i64 x (Int.tdiv x 64) < 2 ^ 40 := by
 obtain ⟨a, rfl⟩ := Int.eq_ofNat_of_zero_le h0
 have : Int.tdiv (a : Int) 64 = ((a / 64 : Nat) : Int) := by
  rw [Int.tdiv_eq_ediv_of_nonneg (by omega)]; simp
 rw [this, h_xor_i64 (by omega) (by omega)]
 have := Nat.xor_lt_two_pow (n := 40) (x := a) (y := a / 64) (by omega) (by omega)
 omega
theorem spec_l20Rd_pick_ev {b : List Int} (B : Bts b) {p : Int} (h0 : 0 ≤ p) (h1 : p ≤ 1000000) (n : Int) : ∃ r : Int, Ev (fun k => spec_l20Rd_pick.f k b p n) (r, p + 1) ∧ 0 ≤ r ∧ (1 ≤ n → r < n) := by
 unfold spec_l20Rd_pick.f
 rw [wid (x := p + 1) (by omega) (by omega)]
 by_cases hn : n < 1
 ·exact ⟨0, Ev.pos hn (spec_l20Rd_pick.j0.ev (Ev.pos rfl (Ev.now _))), by omega, by omega⟩
 by_cases hb : b.length = 0
 ·refine ⟨0, Ev.neg hn ?_, by omega, by omega⟩
  rw [show ((b.length : Int) == 0) = true from by simp [hb]]
  exact spec_l20Rd_pick.j0.ev (Ev.pos rfl (Ev.now _))
 have hlen := B.1
 have key : ∃ r : Int, Ev (fun k => spec_l20Rd_pick.j0 k n false b (p + 1)) (r, p + 1) ∧ 0 ≤ r ∧ (1 ≤ n → r < n) := by
  by_cases hlt : p < b.length
  ·refine ⟨Int.tmod (rd b p) n, spec_l20Rd_pick.j0.ev (Ev.neg (by simp) ?_), Int.tmod_nonneg _ (B.2 p).1, fun h => Int.tmod_lt_of_pos _ (by omega)⟩
   have := B.2 p
   rw [wid (x := p + 1 - 1) (by omega) (by omega), show p + 1 - 1 = p from by omega, wid (x := rd b p) (by omega) (by omega)]
   exact Ev.pos hlt (Ev.pos h0 (Ev.neg (by omega) (Ev.now _)))
  ·have t0 : 0 ≤ Int.tmod p b.length := Int.tmod_nonneg _ h0
   have t1 : Int.tmod p b.length < b.length := Int.tmod_lt_of_pos _ (by omega)
   have u0 : 0 ≤ Int.tmod (p * 7 + 3) b.length := Int.tmod_nonneg _ (by omega)
   have u1 : Int.tmod (p * 7 + 3) b.length < b.length := Int.tmod_lt_of_pos _ (by omega)
   have v0 : 0 ≤ Int.tdiv p b.length := Int.tdiv_nonneg h0 (by omega)
   have v1 : Int.tdiv p b.length ≤ p := by
    rw [Int.tdiv_eq_ediv_of_nonneg h0]
    exact Int.ediv_le_self _ h0
   have b1 := B.2 (Int.tmod p b.length)
   have b2 := B.2 (Int.tmod (p * 7 + 3) b.length)
   generalize e1 : rd b (Int.tmod p b.length) = y1 at *
   generalize e2 : rd b (Int.tmod (p * 7 + 3) b.length) = y2 at *
   have hx0 : 0 ≤ y1 * 131 + y2 * 1117 + p * 29 + Int.tdiv p b.length * 53 := by omega
   have hx1 : y1 * 131 + y2 * 1117 + p * 29 + Int.tdiv p b.length * 53 < 1000000000 := by omega
   have hx := xor_nonneg hx0 hx1
   refine ⟨Int.tmod (Go.bits .xor .i64 (y1 * 131 + y2 * 1117 + p * 29 + Int.tdiv p b.length * 53) (Int.tdiv (y1 * 131 + y2 * 1117 + p * 29 + Int.tdiv p b.length * 53) 64)) n, spec_l20Rd_pick.j0.ev (Ev.neg (by simp) ?_), Int.tmod_nonneg _ hx.1, fun h => Int.tmod_lt_of_pos _ (by omega)⟩
   have d0 : 0 ≤ Int.tdiv (y1 * 131 + y2 * 1117 + p * 29 + Int.tdiv p b.length * 53) 64 := Int.tdiv_nonneg hx0 (by omega)
   have d1 : Int.tdiv (y1 * 131 + y2 * 1117 + p * 29 + Int.tdiv p b.length * 53) 64 ≤ y1 * 131 + y2 * 1117 + p * 29 + Int.tdiv p b.length * 53 := by
    rw [Int.tdiv_eq_ediv_of_nonneg hx0]
    exact Int.ediv_le_self _ hx0
   rw [wid (x := p + 1 - 1) (by omega) (by omega), show p + 1 - 1 = p from by omega, wid (x := p * 7) (by omega) (by omega), wid (x := p * 7 + 3) (by omega) (by omega), e1, e2]
   rw [wid (x := y1) (by omega) (by omega), wid (x := y2) (by omega) (by omega), wid (x := y1 * 131) (by omega) (by omega), wid (x := y2 * 1117) (by omega) (by omega), wid (x := y1 * 131 + y2 * 1117) (by omega) (by omega), wid (x := p * 29) (by omega) (by omega), wid (x := y1 * 131 + y2 * 1117 + p * 29) (by omega) (by omega)]
   rw [wid (x := Int.tdiv p b.length) (by omega) (by omega), wid (x := Int.tdiv p b.length * 53) (by omega) (by omega), wid (x := y1 * 131 + y2 * 1117 + p * 29 + Int.tdiv p b.length * 53) (by omega) (by omega)]
   rw [wid (x := Int.tdiv (y1 * 131 + y2 * 1117 + p * 29 + Int.tdiv p b.length * 53) 64) (by omega) (by omega)]
   exact Ev.neg hlt (Ev.neg (by omega) (Ev.pos t0 (Ev.pos t1 (Ev.pos u0 (Ev.pos u1 (Ev.neg (by omega) (Ev.now _)))))))
 obtain ⟨r, e, h2, h3⟩ := key
 refine ⟨r, Ev.neg hn ?_, h2, h3⟩
 rw [show ((b.length : Int) == 0) = false from by simpa using hb]
 exact e

/-! spec_l20Rd_odd -/

theorem spec_l20Rd_odd_ev {b : List Int} (B : Bts b) {p : Int} (h0 : 0 ≤ p) (h1 : p ≤ 1000000) (n : Int) : ∃ (r : Bool) (q : Int), Ev (fun k => spec_l20Rd_odd.f k b p n) (r, q) ∧ p ≤ q ∧ q ≤ p + 1 := by
 unfold spec_l20Rd_odd.f
 by_cases hn : n > 0
 ·obtain ⟨r, e, _, _⟩ := spec_l20Rd_pick_ev B h0 h1 n
  exact ⟨_, _, Ev.pos hn (Ev.bind e (Ev.now _)), by omega, by omega⟩
 ·exact ⟨_, _, Ev.neg hn (Ev.now _), by omega, by omega⟩

/-! spec_l20Order -/
theorem spec_l20Order.l0.ev {x1 : Int} {x5 : List Int} {x6 : Int} {x7 : Int} {x1000 : List Int} {x1001 : Int} {r : List Int × Int} (h : Ev (fun k => if x7 ≤ x1 then (if x6 = 0 then ((spec_l20Rd_pick.f k x1000 x1001 x7).bind fun bt143 => ((some (([] : List Int) : List Int)).bind fun y145 => (if 0 ≤ bt143.1 then (if bt143.1 ≤ (x5.length : Int) then ((some (x5.take (bt143.1 : Int).toNat : List Int)).bind fun y148 => (if y145.length + y148.length < 17592186044416 then ((some (y145 ++ y148 : List Int)).bind fun y152 => (if y152.length < 17592186044416 then ((some (y152 ++ [x7] : List Int)).bind fun y155 => ((some (x5.drop (bt143.1 : Int).toNat : List Int)).bind fun y158 => (if y155.length + y158.length < 17592186044416 then (spec_l20Order.l0 k x1 (y155 ++ y158) x6 (wrap64 (x7 + 1)) x1000 bt143.2) else (none)))) else (none))) else (none))) else (none)) else (none)))) else ((spec_l20Rd_pick.f k x1000 x1001 3).bind fun bt165 => (if bt165.1 = 0 then ((spec_l20Rd_pick.f k x1000 bt165.2 x7).bind fun bt167 => ((some (([] : List Int) : List Int)).bind fun y169 => (if 0 ≤ bt167.1 then (if bt167.1 ≤ (x5.length : Int) then ((some (x5.take (bt167.1 : Int).toNat : List Int)).bind fun y172 => (if y169.length + y172.length < 17592186044416 then ((some (y169 ++ y172 : List Int)).bind fun y176 => (if y176.length < 17592186044416 then ((some (y176 ++ [x7] : List Int)).bind fun y179 => ((some (x5.drop (bt167.1 : Int).toNat : List Int)).bind fun y182 => (if y179.length + y182.length < 17592186044416 then (spec_l20Order.l0 k x1 (y179 ++ y182) x6 (wrap64 (x7 + 1)) x1000 bt167.2) else (none)))) else (none))) else (none))) else (none)) else (none)))) else ((some (([] : List Int) : List Int)).bind fun y189 => (if 0 ≤ (x5.length : Int) then (if (x5.length : Int) ≤ (x5.length : Int) then ((some (x5.take ((x5.length : Int) : Int).toNat : List Int)).bind fun y192 => (if y189.length + y192.length < 17592186044416 then ((some (y189 ++ y192 : List Int)).bind fun y196 => (if y196.length < 17592186044416 then ((some (y196 ++ [x7] : List Int)).bind fun y199 => ((some (x5.drop ((x5.length : Int) : Int).toNat : List Int)).bind fun y202 => (if y199.length + y202.length < 17592186044416 then (spec_l20Order.l0 k x1 (y199 ++ y202) x6 (wrap64 (x7 + 1)) x1000 bt165.2) else (none)))) else (none))) else (none))) else (none)) else (none)))))) else (some (x5, x1001))) r) : Ev (fun k => spec_l20Order.l0 k x1 x5 x6 x7 x1000 x1001) r := Ev.step (fun _ => rfl) h
/-- Numbers from 1 to many, so many of them. -/
def Ord (many : Int) (len : Nat) (o : List Int) : Prop := o.length = len ∧ ∀ x, x ∈ o → 1 ≤ x ∧ x ≤ many
theorem ord_put {many k a : Int} {o : List Int} (O : Ord many (k - 1).toNat o) (h1 : 1 ≤ k) (h2 : k ≤ many) (_h3 : 0 ≤ a) (_h4 : a < k) : Ord many (k + 1 - 1).toNat ((([] : List Int) ++ o.take a.toNat ++ [k]) ++ o.drop a.toNat) := by
 constructor
 ·have := O.1
  simp; omega
 ·intro x hx
  simp only [List.nil_append, List.mem_append, List.mem_singleton] at hx
  rcases hx with (hx | rfl) | hx
  ·exact O.2 x (List.mem_of_mem_take hx)
  ·exact ⟨h1, h2⟩
  ·exact O.2 x (List.mem_of_mem_drop hx)
theorem spec_l20Order_l0 {b : List Int} (B : Bts b) {many keep : Int} (hm : many ≤ 100) : ∀ i : Int, i ≤ many + 1 → 1 ≤ i → ∀ (o : List Int) (p : Int), Ord many (i - 1).toNat o → 0 ≤ p → p + 2 * (many + 1 - i) ≤ 900000 →
  ∃ (o' : List Int) (q : Int), Ev (fun k => spec_l20Order.l0 k many o keep i b p) (o', q) ∧ Ord many many.toNat o' ∧ p ≤ q ∧ q ≤ p + 2 * (many + 1 - i) := by
 refine Hd.down ?_
 intro i hi ih h1 o p O h0 hp
 have ol := O.1
 by_cases hlt : i ≤ many
 ·have hlen : (o.length : Int) = i - 1 := by omega
  by_cases hk : keep = 0
  ·obtain ⟨a, e, a0, a1⟩ := spec_l20Rd_pick_ev B h0 (by omega) i
   have a1 := a1 h1
   obtain ⟨o', q, e2, O2, q0, q1⟩ := ih (by omega) (by omega) _ (p + 1) (ord_put O h1 hlt a0 a1) (by omega) (by omega)
   refine ⟨o', q, spec_l20Order.l0.ev (Ev.pos hlt (Ev.pos hk (Ev.bind e ?_))), O2, by omega, by omega⟩
   rw [wid (x := i + 1) (by omega) (by omega)]
   refine Ev.bindv rfl (Ev.pos a0 (Ev.pos (by omega) (Ev.bindv rfl (Ev.pos (by simp; omega) (Ev.bindv rfl (Ev.pos (by simp; omega) (Ev.bindv rfl (Ev.bindv rfl (Ev.pos (by simp; omega) ?_)))))))))
   exact e2
  ·obtain ⟨s, es, _, _⟩ := spec_l20Rd_pick_ev B h0 (by omega) 3
   by_cases hs : s = 0
   ·obtain ⟨a, e, a0, a1⟩ := spec_l20Rd_pick_ev B (p := p + 1) (by omega) (by omega) i
    have a1 := a1 h1
    obtain ⟨o', q, e2, O2, q0, q1⟩ := ih (by omega) (by omega) _ (p + 1 + 1) (ord_put O h1 hlt a0 a1) (by omega) (by omega)
    refine ⟨o', q, spec_l20Order.l0.ev (Ev.pos hlt (Ev.neg hk (Ev.bind es (Ev.pos hs (Ev.bind e ?_))))), O2, by omega, by omega⟩
    rw [wid (x := i + 1) (by omega) (by omega)]
    refine Ev.bindv rfl (Ev.pos a0 (Ev.pos (by omega) (Ev.bindv rfl (Ev.pos (by simp; omega) (Ev.bindv rfl (Ev.pos (by simp; omega) (Ev.bindv rfl (Ev.bindv rfl (Ev.pos (by simp; omega) ?_)))))))))
    exact e2
   ·obtain ⟨o', q, e2, O2, q0, q1⟩ := ih (by omega) (by omega) _ (p + 1) (ord_put O h1 hlt (a := (o.length : Int)) (by omega) (by omega)) (by omega) (by omega)
    refine ⟨o', q, spec_l20Order.l0.ev (Ev.pos hlt (Ev.neg hk (Ev.bind es (Ev.neg hs ?_)))), O2, by omega, by omega⟩
    rw [wid (x := i + 1) (by omega) (by omega)]
    refine Ev.bindv rfl (Ev.pos (by omega) (Ev.pos (by omega) (Ev.bindv rfl (Ev.pos (by simp; omega) (Ev.bindv rfl (Ev.pos (by simp; omega) (Ev.bindv rfl (Ev.bindv rfl (Ev.pos (by simp; omega) ?_)))))))))
    exact e2
 ·refine ⟨o, p, spec_l20Order.l0.ev (Ev.neg hlt (Ev.now _)), ?_, by omega, by omega⟩
  rw [show many.toNat = (i - 1).toNat from by omega]; exact O
theorem spec_l20Order_ev {b : List Int} (B : Bts b) {p : Int} (h0 : 0 ≤ p) (h1 : p ≤ 800000) {many : Int} (hm0 : 0 ≤ many) (hm : many ≤ 100) :
  ∃ (o : List Int) (q : Int), Ev (fun k => spec_l20Order.f k b p many) (o, q) ∧ Ord many many.toNat o ∧ p ≤ q ∧ q ≤ p + 300 := by
 obtain ⟨s, es, _, _⟩ := spec_l20Rd_pick_ev B h0 (by omega) 2
 obtain ⟨o, q, e, O, q0, q1⟩ := spec_l20Order_l0 B (keep := s) hm 1 (by omega) (by omega) [] (p + 1) ⟨rfl, fun x hx => by cases hx⟩ (by omega) (by omega)
 refine ⟨o, q, ?_, O, by omega, by omega⟩
 unfold spec_l20Order.f
 exact Ev.bind es e

/-! spec_l20Tree -/
theorem spec_l20Tree.l0.ev {x1 : Int} {x5 : Int} {x6 : List Int} {x7 : List Int} {x8 : Int} {x9 : Int} {x1000 : List Int} {x1001 : Int} {r : List Int × Int} (h : Ev (fun k => if x9 < x5 then ((spec_l20Rd_pick.f k x1000 x1001 x9).bind fun bt220 => (if x8 = 1 then ((spec_l20Rd_pick.f k x1000 bt220.2 2).bind fun bt222 => (if bt222.1 = 0 then (if 0 ≤ x9 then (if x9 < (x6.length : Int) then (if 0 ≤ (wrap64 (x9 - 1)) then (if (wrap64 (x9 - 1)) < (x6.length : Int) then (if 0 ≤ (wrap64 ((rd x6 x9) - 1)) then (if (wrap64 ((rd x6 x9) - 1)) < (x7.length : Int) then (spec_l20Tree.l0 k x1 x5 x6 (x7.set ((wrap64 ((rd x6 x9) - 1)) : Int).toNat (rd x6 (wrap64 (x9 - 1)))) x8 (wrap64 (x9 + 1)) x1000 bt222.2) else (none)) else (none)) else (none)) else (none)) else (none)) else (none)) else (if 0 ≤ x9 then (if x9 < (x6.length : Int) then (if 0 ≤ bt220.1 then (if bt220.1 < (x6.length : Int) then (if 0 ≤ (wrap64 ((rd x6 x9) - 1)) then (if (wrap64 ((rd x6 x9) - 1)) < (x7.length : Int) then (spec_l20Tree.l0 k x1 x5 x6 (x7.set ((wrap64 ((rd x6 x9) - 1)) : Int).toNat (rd x6 bt220.1)) x8 (wrap64 (x9 + 1)) x1000 bt222.2) else (none)) else (none)) else (none)) else (none)) else (none)) else (none)))) else (if 0 ≤ x9 then (if x9 < (x6.length : Int) then (if 0 ≤ bt220.1 then (if bt220.1 < (x6.length : Int) then (if 0 ≤ (wrap64 ((rd x6 x9) - 1)) then (if (wrap64 ((rd x6 x9) - 1)) < (x7.length : Int) then (spec_l20Tree.l0 k x1 x5 x6 (x7.set ((wrap64 ((rd x6 x9) - 1)) : Int).toNat (rd x6 bt220.1)) x8 (wrap64 (x9 + 1)) x1000 bt220.2) else (none)) else (none)) else (none)) else (none)) else (none)) else (none)))) else ((spec_l20Rd_odd.f k x1000 x1001 x1).bind fun bt233 => (if bt233.1 = true then ((spec_l20Rd_pick.f k x1000 bt233.2 4).bind fun bt235 => (if bt235.1 = 0 then (some ((([] : List Int)), bt235.2)) else (if bt235.1 = 1 then (some ((([2, 1, 0] : List Int)), bt235.2)) else (if bt235.1 = 2 then ((spec_l20Rd_pick.f k x1000 bt235.2 x5).bind fun bt243 => (if 0 ≤ bt243.1 then (if bt243.1 < (x7.length : Int) then ((some (x7.set (bt243.1 : Int).toNat 0 : List Int)).bind fun y245 => (if y245.length < 17592186044416 then (some ((y245 ++ [0]), bt243.2)) else (none))) else (none)) else (none))) else ((some (([1, wrap64 (x5 + 1), (-1)] : List Int) : List Int)).bind fun y249 => ((spec_l20Rd_pick.f k x1000 bt235.2 3).bind fun bt252 => (if 0 ≤ bt252.1 then (if bt252.1 < (y249.length : Int) then (if 0 < (x7.length : Int) then (some ((x7.set (0 : Int).toNat (rd y249 bt252.1)), bt252.2)) else (none)) else (none)) else (none)))))))) else (some (x7, bt233.2))))) r) : Ev (fun k => spec_l20Tree.l0 k x1 x5 x6 x7 x8 x9 x1000 x1001) r := Ev.step (fun _ => rfl) h
theorem ord_rd {many : Int} {n : Nat} {o : List Int} (O : Ord many n o) {i : Int} (h0 : 0 ≤ i) (h1 : i < n) : 1 ≤ rd o i ∧ rd o i ≤ many := by
 have := O.1
 unfold rd
 rw [List.getD_eq_getElem?_getD, List.getElem?_eq_getElem (by omega)]
 exact O.2 _ (List.getElem_mem _)
theorem spec_l20Tree_l0 {b : List Int} (B : Bts b) {odd many near : Int} (hm1 : 1 ≤ many) (hm : many ≤ 8) {o : List Int} (O : Ord many many.toNat o) : ∀ i : Int, i ≤ many → 1 ≤ i → ∀ (h : List Int) (p : Int), h.length = many.toNat → 0 ≤ p → p + 2 * (many - i) ≤ 900000 →
  ∃ (h' : List Int) (q : Int), Ev (fun k => spec_l20Tree.l0 k odd many o h near i b p) (h', q) ∧ h'.length ≤ 9 ∧ p ≤ q ∧ q ≤ p + 2 * (many - i) + 4 := by
 refine Hd.down ?_
 intro i hi ih h1 h p hl h0 hp
 have ol := O.1
 by_cases hlt : i < many
 ·obtain ⟨a, e, a0, a1⟩ := spec_l20Rd_pick_ev B h0 (by omega) i
  have a1 := a1 h1
  have r1 := ord_rd O (i := i) (by omega) (by omega)
  obtain ⟨s, es, _, _⟩ := spec_l20Rd_pick_ev B (p := p + 1) (by omega) (by omega) 2
  by_cases hn : near = 1
  ·by_cases hs : s = 0
   ·obtain ⟨h', q, e2, l2, q0, q1⟩ := ih hlt (by omega) (h.set (rd o i - 1).toNat (rd o (i - 1))) (p + 1 + 1) (by simpa using hl) (by omega) (by omega)
    refine ⟨h', q, spec_l20Tree.l0.ev (Ev.pos hlt (Ev.bind e (Ev.pos hn (Ev.bind es (Ev.pos hs ?_))))), l2, by omega, by omega⟩
    rw [wid (x := i + 1) (by omega) (by omega), wid (x := i - 1) (by omega) (by omega), wid (x := rd o i - 1) (by omega) (by omega)]
    exact Ev.pos (by omega) (Ev.pos (by omega) (Ev.pos (by omega) (Ev.pos (by omega) (Ev.pos (by omega) (Ev.pos (by omega) e2)))))
   ·obtain ⟨h', q, e2, l2, q0, q1⟩ := ih hlt (by omega) (h.set (rd o i - 1).toNat (rd o a)) (p + 1 + 1) (by simpa using hl) (by omega) (by omega)
    refine ⟨h', q, spec_l20Tree.l0.ev (Ev.pos hlt (Ev.bind e (Ev.pos hn (Ev.bind es (Ev.neg hs ?_))))), l2, by omega, by omega⟩
    rw [wid (x := i + 1) (by omega) (by omega), wid (x := rd o i - 1) (by omega) (by omega)]
    exact Ev.pos (by omega) (Ev.pos (by omega) (Ev.pos (by omega) (Ev.pos (by omega) (Ev.pos (by omega) (Ev.pos (by omega) e2)))))
  ·obtain ⟨h', q, e2, l2, q0, q1⟩ := ih hlt (by omega) (h.set (rd o i - 1).toNat (rd o a)) (p + 1) (by simpa using hl) (by omega) (by omega)
   refine ⟨h', q, spec_l20Tree.l0.ev (Ev.pos hlt (Ev.bind e (Ev.neg hn ?_))), l2, by omega, by omega⟩
   rw [wid (x := i + 1) (by omega) (by omega), wid (x := rd o i - 1) (by omega) (by omega)]
   exact Ev.pos (by omega) (Ev.pos (by omega) (Ev.pos (by omega) (Ev.pos (by omega) (Ev.pos (by omega) (Ev.pos (by omega) e2)))))
 ·obtain ⟨t, q, et, q0, q1⟩ := spec_l20Rd_odd_ev B h0 (by omega) odd
  cases t with
  | false => exact ⟨h, q, spec_l20Tree.l0.ev (Ev.neg hlt (Ev.bind et (Ev.neg (by simp) (Ev.now _)))), by omega, by omega, by omega⟩
  | true =>
   obtain ⟨c, ec, _, _⟩ := spec_l20Rd_pick_ev B (p := q) (by omega) (by omega) 4
   by_cases c0 : c = 0
   ·exact ⟨_, _, spec_l20Tree.l0.ev (Ev.neg hlt (Ev.bind et (Ev.pos rfl (Ev.bind ec (Ev.pos c0 (Ev.now _)))))), by simp, by omega, by omega⟩
   by_cases c1 : c = 1
   ·exact ⟨_, _, spec_l20Tree.l0.ev (Ev.neg hlt (Ev.bind et (Ev.pos rfl (Ev.bind ec (Ev.neg c0 (Ev.pos c1 (Ev.now _))))))), by simp, by omega, by omega⟩
   by_cases c2 : c = 2
   ·obtain ⟨d, ed, d0, d1⟩ := spec_l20Rd_pick_ev B (p := q + 1) (by omega) (by omega) many
    have d1 := d1 hm1
    exact ⟨_, _, spec_l20Tree.l0.ev (Ev.neg hlt (Ev.bind et (Ev.pos rfl (Ev.bind ec (Ev.neg c0 (Ev.neg c1 (Ev.pos c2 (Ev.bind ed (Ev.pos d0 (Ev.pos (by omega) (Ev.bindv rfl (Ev.pos (by simp; omega) (Ev.now _))))))))))))), by simp; omega, by omega, by omega⟩
   ·obtain ⟨d, ed, d0, d1⟩ := spec_l20Rd_pick_ev B (p := q + 1) (by omega) (by omega) 3
    have d1 := d1 (by omega)
    exact ⟨_, _, spec_l20Tree.l0.ev (Ev.neg hlt (Ev.bind et (Ev.pos rfl (Ev.bind ec (Ev.neg c0 (Ev.neg c1 (Ev.neg c2 (Ev.bindv rfl (Ev.bind ed (Ev.pos d0 (Ev.pos (by simp; omega) (Ev.pos (by omega) (Ev.now _))))))))))))), by simp; omega, by omega, by omega⟩
theorem spec_l20Tree_ev {b : List Int} (B : Bts b) {p : Int} (h0 : 0 ≤ p) (h1 : p ≤ 700000) (odd : Int) :
  ∃ (h : List Int) (q : Int), Ev (fun k => spec_l20Tree.f k b p odd) (h, q) ∧ h.length ≤ 9 ∧ p ≤ q ∧ q ≤ p + 400 := by
 obtain ⟨m, em, m0, m1⟩ := spec_l20Rd_pick_ev B h0 (by omega) 7
 have m1 := m1 (by omega)
 obtain ⟨o, q, eo, O, q0, q1⟩ := spec_l20Order_ev B (p := p + 1) (by omega) (by omega) (many := 1 + m) (by omega) (by omega)
 obtain ⟨s, es, _, _⟩ := spec_l20Rd_pick_ev B (p := q) (by omega) (by omega) 2
 obtain ⟨h, r, e, hl, r0, r1⟩ := spec_l20Tree_l0 B (odd := odd) (near := s) (many := 1 + m) (by omega) (by omega) O 1 (by omega) (by omega) (List.replicate (1 + m).toNat 0) (q + 1) (by simp) (by omega) (by omega)
 refine ⟨h, r, ?_, hl, by omega, by omega⟩
 unfold spec_l20Tree.f
 refine Ev.bind em ?_
 rw [wid (x := 1 + m) (by omega) (by omega)]
 exact Ev.bind eo (Ev.pos (by omega) (Ev.pos (by omega) (Ev.bind es e)))

/-! spec_l20Word -/

theorem spec_l20Word_ev {b : List Int} (B : Bts b) {p : Int} (h0 : 0 ≤ p) (h1 : p ≤ 500000) :
  ∃ (h : List Int) (w q : Int), Ev (fun k => spec_l20Word.f k b p) (h, w, q) ∧ h.length ≤ 9 ∧ (-100 ≤ w ∧ w ≤ 100) ∧ p ≤ q ∧ q ≤ p + 500 := by
 unfold spec_l20Word.f
 obtain ⟨h, q, e, hl, q0, q1⟩ := spec_l20Tree_ev B h0 (by omega) 12
 have m := mn_mx (h.length : Int) 1
 obtain ⟨r, er, r0, r1⟩ := spec_l20Rd_pick_ev B (p := q) (by omega) (by omega) (mx (h.length : Int) 1)
 have r1 := r1 (by omega)
 obtain ⟨s, es, s0, s1⟩ := spec_l20Rd_pick_ev B (p := q + 1) (by omega) (by omega) 20
 have s1 := s1 (by omega)
 obtain ⟨u, eu, u0, u1⟩ := spec_l20Rd_pick_ev B (p := q + 1 + 1) (by omega) (by omega) 20
 have u1 := u1 (by omega)
 have d1 : Int.tdiv s 19 = s / 19 := Int.tdiv_eq_ediv_of_nonneg s0
 have d2 : Int.tdiv u 19 = u / 19 := Int.tdiv_eq_ediv_of_nonneg u0
 refine ⟨h, 1 + r - s / 19 * 2 + u / 19 * 9, q + 1 + 1 + 1, Ev.bind e (Ev.bind er (Ev.bind es (Ev.bind eu (Ev.ret ?_)))), hl, by omega, by omega, by omega⟩
 simp only [d1, d2]
 rw [wid (x := s / 19) (by omega) (by omega), wid (x := s / 19 * 2) (by omega) (by omega), wid (x := u / 19) (by omega) (by omega), wid (x := u / 19 * 9) (by omega) (by omega), wid (x := 1 + r) (by omega) (by omega), wid (x := 1 + r - s / 19 * 2) (by omega) (by omega), wid (x := 1 + r - s / 19 * 2 + u / 19 * 9) (by omega) (by omega)]

/-! spec_DrawYieldOf -/

theorem spec_DrawYieldOf_ev {l : List Int} (h : ∀ x ∈ l, (Lit.int .u8 x).wf = true) : ∃ (r : List Int) (w : Int), Ev (fun k => spec_DrawYieldOf.f k l) (r, w) ∧ r.length ≤ 9 ∧ (-100 ≤ w ∧ w ≤ 100) := by
 obtain ⟨b, eb, B⟩ := spec_l20Open_eq h
 obtain ⟨r, w, q, e, hl, hw, _⟩ := spec_l20Word_ev B (p := 0) (by omega) (by omega)
 unfold spec_DrawYieldOf.f
 exact ⟨r, w, Ev.bindv eb (Ev.bind e (Ev.now _)), hl, hw⟩

/-! spec_l1In -/

theorem spec_l1In_eq (a b c : Int) : spec_l1In.f a b c = some (decide (b ≤ a ∧ a ≤ c)) := by
 unfold spec_l1In.f
 by_cases h : a ≥ b
 ·rw [if_pos h]; simp [h]
 ·rw [if_neg h]; simp; intro; omega

/-! spec_TreeOk -/
theorem spec_TreeOk.l0.ev {x0 : List Int} {x3 : Int} {x4 : Int} {x5 : Int} {r : Bool} (h : Ev (fun k => if x5 < x3 then (if 0 ≤ x5 then (if x5 < (x0.length : Int) then ((spec_l1In.f (rd x0 x5) 0 x3).bind fun t276 => (if t276 = true then (spec_TreeOk.j1 k x0 x3 x4 x5 ((rd x0 x5) == (wrap64 (x5 + 1)))) else (spec_TreeOk.j1 k x0 x3 x4 x5 true))) else (none)) else (none)) else (some (x4 == 1))) r) : Ev (fun k => spec_TreeOk.l0 k x0 x3 x4 x5) r := Ev.step (fun _ => rfl) h
theorem spec_TreeOk.j1.ev {x0 : List Int} {x3 : Int} {x4 : Int} {x5 : Int} {x33 : Bool} {r : Bool} (h : Ev (fun k => if x33 = true then (some false) else (if 0 ≤ x5 then (if x5 < (x0.length : Int) then (if (rd x0 x5) = 0 then (spec_TreeOk.j2 k x0 x3 (wrap64 (x4 + 1)) x5) else (spec_TreeOk.j2 k x0 x3 x4 x5)) else (none)) else (none))) r) : Ev (fun k => spec_TreeOk.j1 k x0 x3 x4 x5 x33) r := Ev.step (fun _ => rfl) h
theorem spec_TreeOk.j2.ev {x0 : List Int} {x3 : Int} {x4 : Int} {x5 : Int} {r : Bool} (h : Ev (fun k => spec_TreeOk.l1 k x0 x3 x4 x5 (wrap64 (x5 + 1)) 0) r) : Ev (fun k => spec_TreeOk.j2 k x0 x3 x4 x5) r := Ev.step (fun _ => rfl) h
theorem spec_TreeOk.l1.ev {x0 : List Int} {x3 : Int} {x4 : Int} {x5 : Int} {x6 : Int} {x7 : Int} {r : Bool} (h : Ev (fun k => if x6 > 0 then (spec_TreeOk.j4 k x0 x3 x4 x5 x6 x7 (decide (x7 < x3))) else (spec_TreeOk.j4 k x0 x3 x4 x5 x6 x7 false)) r) : Ev (fun k => spec_TreeOk.l1 k x0 x3 x4 x5 x6 x7) r := Ev.step (fun _ => rfl) h
theorem spec_TreeOk.j4.ev {x0 : List Int} {x3 : Int} {x4 : Int} {x5 : Int} {x6 : Int} {x7 : Int} {x49 : Bool} {r : Bool} (h : Ev (fun k => if x49 = true then (if 0 ≤ (wrap64 (x6 - 1)) then (if (wrap64 (x6 - 1)) < (x0.length : Int) then ((spec_l1In.f (rd x0 (wrap64 (x6 - 1))) 0 x3).bind fun t280 => (if t280 = true then (spec_TreeOk.l1 k x0 x3 x4 x5 (rd x0 (wrap64 (x6 - 1))) (wrap64 (x7 + 1))) else (some false))) else (none)) else (none)) else (if x6 > 0 then (some false) else (spec_TreeOk.l0 k x0 x3 x4 (wrap64 (x5 + 1))))) r) : Ev (fun k => spec_TreeOk.j4 k x0 x3 x4 x5 x6 x7 x49) r := Ev.step (fun _ => rfl) h
theorem spec_TreeOk_l1 {l : List Int} (h8 : l.length ≤ 8) {c i : Int} (h0 : 0 ≤ i) (hlt : i < l.length)
  (next : Hd.it (Hd.hd l) l.length (i + 1) = 0 → Ev (fun k => spec_TreeOk.l0 k l l.length c (i + 1)) (Hd.treeB l)) :
  ∀ s : Int, s ≤ l.length → 0 ≤ s → ∀ a : Int, 0 ≤ a → a ≤ l.length → a = Hd.it (Hd.hd l) s.toNat (i + 1) → Ev (fun k => spec_TreeOk.l1 k l l.length c i a s) (Hd.treeB l) := by
 refine Hd.down ?_
 intro s hs ih h1 a ha1 ha2 ea
 refine spec_TreeOk.l1.ev ?_
 by_cases hz : a > 0
 ·refine Ev.pos hz (spec_TreeOk.j4.ev ?_)
  by_cases hsn : s < l.length
  ·rw [wid (x := a - 1) (by omega) (by omega), rd_hd (by omega), wid (x := s + 1) (by omega) (by omega)]
   refine Ev.pos (by simpa using hsn) (Ev.pos (by omega) (Ev.pos (by omega) (Ev.bindv (spec_l1In_eq _ _ _) ?_)))
   by_cases hin : 0 ≤ Hd.hd l a ∧ Hd.hd l a ≤ l.length
   ·refine Ev.pos (by simpa using hin) (ih hsn (by omega) _ hin.1 hin.2 ?_)
    rw [show (s + 1).toNat = s.toNat + 1 from by omega, Hd.it_succ, ← ea]
   ·refine Ev.neg (by simpa using hin) (Ev.ret ?_)
    exact (Hd.treeB_no fun t => hin (t.vals _ (by omega) (by omega))).symm
  ·refine Ev.neg (by simpa using hsn) (Ev.pos hz (Ev.ret ?_))
   refine (Hd.treeB_no fun t => ?_).symm
   have := t.2.back (i + 1) (by omega) (by omega)
   rw [show s.toNat = l.length from by omega, this] at ea
   omega
 ·refine Ev.neg hz (spec_TreeOk.j4.ev (Ev.neg (by simp) (Ev.neg hz ?_)))
  rw [wid (x := i + 1) (by omega) (by omega)]
  exact next (Hd.it_more (Hd.hd_zero l) (j := s.toNat) (by omega) (by omega))
theorem spec_TreeOk_l0 {l : List Int} (h8 : l.length ≤ 8) : ∀ i : Int, i ≤ l.length → 0 ≤ i → (∀ a : Int, 1 ≤ a → a ≤ i → (0 ≤ Hd.hd l a ∧ Hd.hd l a ≤ l.length) ∧ Hd.it (Hd.hd l) l.length a = 0) →
  Ev (fun k => spec_TreeOk.l0 k l l.length (Hd.zeros l i.toNat) i) (Hd.treeB l) := by
 refine Hd.down ?_
 intro i hi ih h0 hb
 refine spec_TreeOk.l0.ev ?_
 by_cases hlt : i < l.length
 ·have hz := Hd.cnt_le (fun a => decide (Hd.hd l a = 0)) i.toNat
  have hzz : Hd.zeros l (i + 1).toNat = Hd.zeros l i.toNat + if Hd.hd l (i + 1) = 0 then 1 else 0 := by
   rw [show (i + 1).toNat = i.toNat + 1 from by omega]
   show Hd.cnt _ (i.toNat + 1) = _
   rw [Hd.cnt, show ((i.toNat : Int) + 1) = i + 1 from by omega]
   simp [Hd.zeros]
  have hz' : Hd.zeros l i.toNat ≤ i.toNat := hz
  rw [rd_hd1 h0, wid (x := i + 1) (by omega) (by omega)]
  refine Ev.pos hlt (Ev.pos h0 (Ev.pos hlt (Ev.bindv (spec_l1In_eq _ _ _) ?_)))
  by_cases hin : 0 ≤ Hd.hd l (i + 1) ∧ Hd.hd l (i + 1) ≤ l.length
  ·refine Ev.pos (by simpa using hin) (spec_TreeOk.j1.ev ?_)
   by_cases hown : Hd.hd l (i + 1) = i + 1
   ·refine Ev.pos (by simpa using hown) (Ev.ret ?_)
    exact (Hd.treeB_no fun t => t.2.not_own (a := i + 1) (by omega) hown).symm
   ·refine Ev.neg (by simpa using hown) (Ev.pos h0 (Ev.pos hlt ?_))
    rw [rd_hd1 h0, wid (x := (Hd.zeros l i.toNat : Int) + 1) (by omega) (by omega)]
    have next : Hd.it (Hd.hd l) l.length (i + 1) = 0 → Ev (fun k => spec_TreeOk.l0 k l l.length (Hd.zeros l (i + 1).toNat) (i + 1)) (Hd.treeB l) := fun hit =>
     ih hlt (by omega) (fun a h1 h2 => by
      by_cases e : a = i + 1
      ·rw [e]; exact ⟨hin, hit⟩
      ·exact hb a h1 (by omega))
    rw [hzz] at next
    by_cases h00 : Hd.hd l (i + 1) = 0
    ·rw [if_pos h00] at next
     refine Ev.pos h00 (spec_TreeOk.j2.ev ?_)
     rw [wid (x := i + 1) (by omega) (by omega)]
     exact spec_TreeOk_l1 h8 h0 hlt next 0 (by omega) (by omega) (i + 1) (by omega) (by omega) rfl
    ·rw [if_neg h00] at next
     refine Ev.neg h00 (spec_TreeOk.j2.ev ?_)
     rw [wid (x := i + 1) (by omega) (by omega)]
     exact spec_TreeOk_l1 h8 h0 hlt next 0 (by omega) (by omega) (i + 1) (by omega) (by omega) rfl
  ·refine Ev.neg (by simpa using hin) (spec_TreeOk.j1.ev (Ev.pos rfl (Ev.ret ?_)))
   exact (Hd.treeB_no fun t => hin (t.vals _ (by omega) (by omega))).symm
 ·refine Ev.neg hlt (Ev.ret ?_)
  have e : i.toNat = l.length := by omega
  rw [e]
  have t := Hd.T_iff h8 (fun a h1 h2 => (hb a h1 (by omega)).1) (fun a h1 h2 => (hb a h1 (by omega)).2)
  by_cases e : Hd.zeros l l.length = 1
  ·rw [Hd.treeB_yes (t.2 e), e]; rfl
  ·rw [Hd.treeB_no (fun x => e (t.1 x))]; simp; omega
theorem spec_TreeOk_ev (l : List Int) : Ev (fun k => spec_TreeOk.f k l) (Hd.treeB l) := by
 unfold spec_TreeOk.f
 refine Ev.bindv (spec_l1In_eq _ _ _) ?_
 by_cases h : 1 ≤ (l.length : Int) ∧ (l.length : Int) ≤ 8
 ·refine Ev.pos (by simpa using h) ?_
  exact spec_TreeOk_l0 (by omega) 0 (by omega) (by omega) (fun a h1 h2 => by omega)
 ·refine Ev.neg (by simpa using h) (Ev.ret ?_)
  exact (Hd.treeB_no fun t => by have := t.1; have := t.2.pos; omega).symm

/-! spec_l2Words -/
theorem spec_l2Words.l0.ev {x0 : Int} {x3 : List Int} {x4 : Int} {r : List Int} (h : Ev (fun k => if 0 ≤ x4 then (if (shr .i64 x0 x4) > 0 then (if (Int.tmod (shr .i64 x0 x4) 2) = 1 then (if x3.length < 17592186044416 then (spec_l2Words.l0 k x0 (x3 ++ [wrap64 (x4 + 1)]) (wrap64 (x4 + 1))) else (none)) else (spec_l2Words.l0 k x0 x3 (wrap64 (x4 + 1)))) else (some x3)) else (none)) r) : Ev (fun k => spec_l2Words.l0 k x0 x3 x4) r := Ev.step (fun _ => rfl) h
theorem ysum_div {p : Int → Bool} {m j : Nat} (h : Hd.ysum p m / 2 ^ j = 0) : ∀ a : Int, (j : Int) < a → a ≤ m → p a = false := by
 intro a h1 h2
 have hb := Hd.ysum_bit p m (a - 1).toNat
 have hlt : Hd.ysum p m < 2 ^ j := by
  apply Classical.byContradiction
  intro hn
  have := Nat.div_pos (Nat.le_of_not_lt hn) (Nat.two_pow_pos j)
  omega
 have h3 : Hd.ysum p m < 2 ^ (a - 1).toNat := Nat.lt_of_lt_of_le hlt (Nat.pow_le_pow_right (by decide) (by omega))
 rw [Nat.testBit_lt_two_pow h3, decide_eq_true (show (a - 1).toNat < m by omega), Bool.true_and, show (((a - 1).toNat : Nat) : Int) + 1 = a from by omega] at hb
 exact hb.symm
theorem spec_l2Words_l0 {p : Int → Bool} {n : Nat} (h8 : n ≤ 8) : ∀ i : Int, i ≤ n → 0 ≤ i → Ev (fun k => spec_l2Words.l0 k (Hd.ysum p n : Int) (Hd.sel p i.toNat) i) (Hd.sel p n) := by
 refine Hd.down ?_
 intro i hi ih h0
 obtain ⟨j, rfl⟩ := Int.eq_ofNat_of_zero_le h0
 refine spec_l2Words.l0.ev (Ev.pos h0 ?_)
 by_cases hz : Hd.ysum p n / 2 ^ j = 0
 ·rw [h_shr_nat (by omega), hz]
  refine Ev.neg (by simp) (Ev.ret ?_)
  obtain ⟨d, hd⟩ : ∃ d, n = j + d := ⟨n - j, by omega⟩
  rw [Int.toNat_natCast, hd]
  exact (Hd.sel_more (m := j) (k := d) fun a h1 h2 => ysum_div hz a h1 (by omega)).symm
 ·have hlt : j < n := by
   apply Classical.byContradiction
   intro hn
   refine hz (Nat.div_eq_of_lt (Nat.lt_of_lt_of_le (Hd.ysum_lt p n) (Nat.pow_le_pow_right (by decide) (by omega))))
  have next := ih (by omega) (by omega)
  have hs := Hd.sel_le p j
  rw [show ((j : Int) + 1).toNat = j + 1 from by omega, Hd.sel] at next
  rw [Int.toNat_natCast]
  rw [wid (x := (j : Int) + 1) (by omega) (by omega)]
  refine Ev.pos (by rw [h_shr_nat (by omega)]; exact Int.natCast_pos.2 (Nat.pos_of_ne_zero hz)) ?_
  have bit : (Int.tmod (shr .i64 (Hd.ysum p n : Int) (j : Int)) 2 = 1) ↔ p ((j : Int) + 1) = true := by
   rw [h_shr_bit (by omega), Hd.ysum_bit, decide_eq_true hlt, Bool.true_and]
  by_cases hp : p ((j : Int) + 1) = true
  ·rw [if_pos hp] at next
   exact Ev.pos (bit.2 hp) (Ev.pos (by omega) next)
  ·rw [if_neg hp, List.append_nil] at next
   exact Ev.neg (fun h => hp (bit.1 h)) next
theorem spec_l2Words_ev {p : Int → Bool} {n : Nat} (h8 : n ≤ 8) : Ev (fun k => spec_l2Words.f k (Hd.ysum p n : Int)) (Hd.sel p n) := spec_l2Words_l0 h8 0 (by omega) (by omega)

/-! spec_l2Yield -/
theorem spec_l2Yield.l0.ev {x0 : List Int} {x1 : Int} {x5 : Int} {x6 : Int} {r : Int} (h : Ev (fun k => if x6 < (x0.length : Int) then (if 0 ≤ x6 then (if (rd x0 x6) = x1 then ((spec_l2Yield.f k x0 (wrap64 (x6 + 1))).bind fun t288 => (spec_l2Yield.l0 k x0 x1 (Go.bits .or .i64 x5 t288) (wrap64 (x6 + 1)))) else (spec_l2Yield.l0 k x0 x1 x5 (wrap64 (x6 + 1)))) else (none)) else (some x5)) r) : Ev (fun k => spec_l2Yield.l0 k x0 x1 x5 x6) r := Ev.step (fun _ => rfl) h
theorem spec_l2Yield.f.ev {l0 : List Int} {a1 : Int} {r : Int} (h : Ev (fun k => if 0 ≤ (wrap64 (a1 - 1)) then (spec_l2Yield.l0 k l0 a1 (shl .i64 1 (wrap64 (a1 - 1))) 0) else (none)) r) : Ev (fun k => spec_l2Yield.f k l0 a1) r := Ev.step (fun _ => rfl) h
theorem spec_l2Yield_l0 {l : List Int} (t : Hd.T l) {w : Int} (hw : 1 ≤ w ∧ w ≤ l.length)
  (rec : ∀ c : Int, 1 ≤ c → c ≤ l.length → Hd.hd l c = w → Ev (fun k => spec_l2Yield.f k l c) (Hd.ybits l c : Int)) :
  ∀ i : Int, i ≤ l.length → 0 ≤ i → ∀ q : Int → Bool, (∀ x, q x = true ↔ x = w ∨ ∃ c, (1 ≤ c ∧ c ≤ i) ∧ Hd.hd l c = w ∧ Hd.Und (Hd.hd l) x c) →
  Ev (fun k => spec_l2Yield.l0 k l w (Hd.ysum q l.length : Int) i) (Hd.ybits l w : Int) := by
 refine Hd.down ?_
 intro i hi ih h0 q hq
 have h8 := t.1
 refine spec_l2Yield.l0.ev ?_
 by_cases hlt : i < l.length
 ·rw [wid (x := i + 1) (by omega) (by omega), rd_hd1 h0]
  refine Ev.pos hlt (Ev.pos h0 ?_)
  by_cases hc : Hd.hd l (i + 1) = w
  ·refine Ev.pos hc (Ev.bind (rec (i + 1) (by omega) (by omega) hc) ?_)
   unfold Hd.ybits at *
   rw [h_or_i64 (Hd.ysum_le h8) (Hd.ysum_le h8), Hd.ysum_or]
   refine ih hlt (by omega) _ fun x => ?_
   rw [Bool.or_eq_true, hq, Hd.undB_true]
   constructor
   ·rintro ((e | ⟨c, h1, h2, h3⟩) | u)
    ·exact .inl e
    ·exact .inr ⟨c, ⟨h1.1, by omega⟩, h2, h3⟩
    ·exact .inr ⟨i + 1, ⟨by omega, by omega⟩, hc, u⟩
   ·rintro (e | ⟨c, h1, h2, h3⟩)
    ·exact .inl (.inl e)
    ·by_cases e : c = i + 1
     ·subst e; exact .inr h3
     ·exact .inl (.inr ⟨c, ⟨h1.1, by omega⟩, h2, h3⟩)
  ·refine Ev.neg hc (ih hlt (by omega) q fun x => ?_)
   rw [hq]
   constructor
   ·rintro (e | ⟨c, h1, h2, h3⟩)
    ·exact .inl e
    ·exact .inr ⟨c, ⟨h1.1, by omega⟩, h2, h3⟩
   ·rintro (e | ⟨c, h1, h2, h3⟩)
    ·exact .inl e
    ·by_cases e : c = i + 1
     ·subst e; exact absurd h2 hc
     ·exact .inr ⟨c, ⟨h1.1, by omega⟩, h2, h3⟩
 ·refine Ev.neg hlt (Ev.ret ?_)
  unfold Hd.ybits
  congr 1
  refine Hd.ysum_congr fun a h1 h2 => bool_eq ?_
  rw [hq, Hd.undB_true, Hd.und_child t.2 hw]
  constructor
  ·rintro (e | ⟨c, h1, h2, h3⟩)
   ·exact .inl e
   ·exact .inr ⟨c, ⟨h1.1, by omega⟩, h2, h3⟩
  ·rintro (e | ⟨c, h1, h2, h3⟩)
   ·exact .inl e
   ·exact .inr ⟨c, ⟨h1.1, by omega⟩, h2, h3⟩
theorem spec_l2Yield_all {l : List Int} (t : Hd.T l) : ∀ (d : Nat) (w : Int), 1 ≤ w → w ≤ l.length → l.length ≤ d + Hd.dep l.length (Hd.hd l) w → Ev (fun k => spec_l2Yield.f k l w) (Hd.ybits l w : Int)
 | 0, w, h1, h2, h3 => by have := t.2.dep_lt ⟨h1, h2⟩; omega
 | d + 1, w, h1, h2, h3 => by
  have h8 := t.1
  refine spec_l2Yield.f.ev ?_
  rw [wid (x := w - 1) (by omega) (by omega)]
  refine Ev.pos (by omega) ?_
  obtain ⟨v, rfl⟩ : ∃ v : Nat, w = (v : Int) + 1 := ⟨(w - 1).toNat, by omega⟩
  rw [show ((v : Int) + 1 - 1) = (v : Int) from by omega, h_shl_one (by omega), Hd.ysum_one (m := l.length) (by omega)]
  refine spec_l2Yield_l0 t ⟨h1, h2⟩ (fun c k1 k2 e => spec_l2Yield_all t d c k1 k2 ?_) 0 (by omega) (by omega) _ fun x => ?_
  ·have := t.2.dep_head (a := c) (by omega)
   rw [e] at this
   omega
  ·simp; intro c _ _; omega
theorem spec_l2Yield_ev {l : List Int} (t : Hd.T l) {w : Int} (h1 : 1 ≤ w) (h2 : w ≤ l.length) : Ev (fun k => spec_l2Yield.f k l w) (Hd.ybits l w : Int) :=
 spec_l2Yield_all t l.length w h1 h2 (by omega)
theorem ybits_at {l : List Int} (t : Hd.T l) {a w : Int} (h1 : 1 ≤ a) (h2 : a ≤ l.length) : (Int.tmod (shr .i64 (Hd.ybits l w : Int) (a - 1)) 2 = 1) ↔ Hd.undB l a w = true := by
 have h8 := t.1
 obtain ⟨v, rfl⟩ : ∃ v : Nat, a = (v : Int) + 1 := ⟨(a - 1).toNat, by omega⟩
 rw [show ((v : Int) + 1 - 1) = (v : Int) from by omega, h_shr_bit (by omega)]
 unfold Hd.ybits
 rw [Hd.ysum_bit, show decide (v < l.length) = true from by simp; omega, Bool.true_and]

/-! spec_YieldOf -/
theorem spec_YieldOf.j0.ev {x0 : List Int} {x1 : Int} {x14 : Bool} {r : List Int} (h : Ev (fun k => if x14 = true then (some (([] : List Int))) else ((spec_l2Yield.f k x0 x1).bind fun t294 => ((spec_l2Words.f k t294).bind fun t295 => (some t295)))) r) : Ev (fun k => spec_YieldOf.j0 k x0 x1 x14) r := Ev.step (fun _ => rfl) h
theorem spec_YieldOf_ev (l : List Int) (w : Int) : Ev (fun k => spec_YieldOf.f k l w) (Hd.yldL l w) := by
 unfold spec_YieldOf.f
 refine Ev.bind (spec_TreeOk_ev l) ?_
 by_cases t : Hd.T l
 ·refine Ev.pos (Hd.treeB_yes t) (Ev.bindv (spec_l1In_eq _ _ _) (spec_YieldOf.j0.ev ?_))
  by_cases hw : 1 ≤ w ∧ w ≤ (l.length : Int)
  ·rw [Hd.yldL, if_pos ⟨t, hw⟩]
   exact Ev.neg (by simpa using hw) (Ev.bind (spec_l2Yield_ev t hw.1 hw.2) (Ev.bind (spec_l2Words_ev t.1) (Ev.now _)))
  ·rw [Hd.yldL, if_neg fun h => hw h.2]
   exact Ev.pos (by simp; omega) (Ev.now _)
 ·rw [Hd.yldL, if_neg fun h => t h.1]
  exact Ev.neg (by rw [Hd.treeB_no t]; simp) (spec_YieldOf.j0.ev (Ev.pos rfl (Ev.now _)))

theorem laws_FnYieldOf.l0.ev {x3 : List Int} {x4 : Int} {x5 : List Int} {x6 : Int} {r : Bool} (h : Ev (fun k => if x6 ≤ (x3.length : Int) then ((impl_YieldOf.f k x3 x6).bind fun t313 => (laws_FnYieldOf.l1 k x3 x4 x5 x6 t313 0 0)) else ((laws_ascend.f k x5).bind fun t310 => (if t310 = true then ((laws_hasInt.f k x5 x4).bind fun t311 => (if t311 = true then ((impl_RootOf.f k x3).bind fun t312 => (some (((x5.length : Int) == (x3.length : Int)) == (t312 == x4)))) else (some false))) else (some false)))) r) : Ev (fun k => laws_FnYieldOf.l0 k x3 x4 x5 x6) r := Ev.step (fun _ => rfl) h
theorem laws_FnYieldOf.l1.ev {x3 : List Int} {x4 : Int} {x5 : List Int} {x6 : Int} {x7 : List Int} {x8 : Int} {x9 : Int} {r : Bool} (h : Ev (fun k => if x9 < (x7.length : Int) then (if 0 ≤ x9 then ((laws_hasInt.f k x5 (rd x7 x9)).bind fun t317 => (if t317 = true then (laws_FnYieldOf.l1 k x3 x4 x5 x6 x7 (wrap64 (x8 + 1)) (wrap64 (x9 + 1))) else (laws_FnYieldOf.l1 k x3 x4 x5 x6 x7 x8 (wrap64 (x9 + 1))))) else (none)) else (if x8 = 0 then (laws_FnYieldOf.l0 k x3 x4 x5 (wrap64 (x6 + 1))) else (if x8 = (x5.length : Int) then (laws_FnYieldOf.l0 k x3 x4 x5 (wrap64 (x6 + 1))) else (if x8 = (x7.length : Int) then (laws_FnYieldOf.l0 k x3 x4 x5 (wrap64 (x6 + 1))) else (some false))))) r) : Ev (fun k => laws_FnYieldOf.l1 k x3 x4 x5 x6 x7 x8 x9) r := Ev.step (fun _ => rfl) h
end Go.Proofs.Ytkicbdbplfdfgaa.QFnYieldOf
