/- Contracts of the functions that the statement FnPlaceOf reaches: what each printed function comes to. -/
import Derived.Test.YtfccopfhniobjaaQFnPlaceOfx10
import Derived.Test.YtfccopfhniobjaaWSized
import Derived.Test.YtfccopfhniobjaaHd9
import Derived.Test.YtfccopfhniobjaaHdI
namespace Go.Proofs.Ytfccopfhniobjaa.PrintWords
/-- The name by which the printed row calls the word. -/
abbrev sized_ints := @Go.Proofs.YtfccopfhniobjaaW.PrintWords.sized_ints
end Go.Proofs.Ytfccopfhniobjaa.PrintWords
namespace Go.Proofs.Ytfccopfhniobjaa.QFnPlaceOf
open Go.RowKit Go.Proofs.YtfccopfhniobjaaW.PrintWords Go.Proofs.YtfccopfhniobjaaW.PrintLast Go.Proofs.YtfccopfhniobjaaW.PrintMore
set_option linter.unusedVariables false
set_option linter.unusedSimpArgs false
theorem wid {x : Int} (h : -9223372036854775808 ≤ x) (h' : x ≤ 9223372036854775807) : wrap64 x = x := by unfold wrap64; omega
theorem Ev.pos {α : Type} {c : Prop} [Decidable c] {A B : Nat → Option α} {r : α} (h : c) (e : Ev A r) : Ev (fun k => if c then A k else B k) r := by simpa only [if_pos h] using e
theorem Ev.neg {α : Type} {c : Prop} [Decidable c] {A B : Nat → Option α} {r : α} (h : ¬ c) (e : Ev B r) : Ev (fun k => if c then A k else B k) r := by simpa only [if_neg h] using e
theorem Ev.bindv {α β : Type} {o : Option α} {f : Nat → α → Option β} {a : α} {r : β} (h : o = some a) (k : Ev (fun n => f n a) r) : Ev (fun n => o.bind (f n)) r := by subst h; exact k
theorem Ev.ret {α : Type} {a r : α} (h : a = r) : Ev (fun _ => some a) r := h ▸ Ev.now a
theorem rd_hd {l : List Int} {a : Int} (h : 1 ≤ a) : rd l (a - 1) = Hd.hd l a := Hd.hd_get h
theorem rd_hd1 {l : List Int} {a : Int} (h : 0 ≤ a) : rd l a = Hd.hd l (a + 1) := by rw [← rd_hd (by omega)]; congr 1; omega
theorem mn_mx (a b : Int) : (mn a b = a ∧ mx a b = b ∧ a ≤ b) ∨ (mn a b = b ∧ mx a b = a ∧ b ≤ a) := by
 unfold mn mx
 split <;> split <;> omega
theorem h_or_i64 {a b : Nat} (ha : a < 256) (hb : b < 256) : Go.bits .or .i64 (a : Int) (b : Int) = ((a ||| b : Nat) : Int) :=
 (Go.bits_nat .i64 8 (by decide) (fun n h0 h1 => by rw [Go.IntKind.wrap_i64]; omega) a b (by omega) (by omega)).2
theorem h_shl_one {x : Nat} (h : x ≤ 7) : shl .i64 1 (x : Int) = ((2 ^ x : Nat) : Int) := by
 have : ∀ x : Nat, x < 8 → shl .i64 1 (x : Int) = ((2 ^ x : Nat) : Int) := by decide
 exact this x (by omega)
theorem h_shr_bit {v x : Nat} (h : x ≤ 64) : (Int.tmod (shr .i64 (v : Int) (x : Int)) 2 = 1) ↔ v.testBit x = true := by
 unfold shr
 rw [Int.toNat_natCast, Nat.min_eq_left (by simpa [Go.IntKind.bits] using h), Nat.testBit_eq_decide_div_mod_eq]
 have : ((v : Int) / 2 ^ x) = ((v / 2 ^ x : Nat) : Int) := by simp
 rw [this, Int.tmod_eq_emod_of_nonneg (Int.natCast_nonneg _), decide_eq_true_eq]
 omega
theorem h_shr_nat {v x : Nat} (h : x ≤ 64) : shr .i64 (v : Int) (x : Int) = ((v / 2 ^ x : Nat) : Int) := by
 unfold shr
 rw [Int.toNat_natCast, Nat.min_eq_left (by simpa [Go.IntKind.bits] using h)]
 simp
theorem h_and_i64 {a b : Nat} (ha : a < 512) (hb : b < 512) : Go.bits .and .i64 (a : Int) (b : Int) = ((a &&& b : Nat) : Int) :=
 (Go.bits_nat .i64 9 (by decide) (fun n h0 h1 => by rw [Go.IntKind.wrap_i64]; omega) a b (by omega) (by omega)).1
theorem h_rd_set {P : List Int} {i j : Int} {v : Int} (h0 : 0 ≤ i) (h1 : i < P.length) (hj : 0 ≤ j) : rd (P.set i.toNat v) j = if j = i then v else rd P j := by
 unfold rd
 rw [List.getD_eq_getElem?_getD, List.getElem?_set]
 by_cases e : j = i
 ·subst e
  rw [if_pos rfl, if_pos (by omega), if_pos rfl]; rfl
 ·rw [if_neg (by omega), if_neg e, List.getD_eq_getElem?_getD]
/-- Bytes of a code, as far as they are read. -/
def Bts (b : List Int) : Prop := b.length ≤ 2000 ∧ ∀ i : Int, 0 ≤ rd b i ∧ rd b i ≤ 255
theorem bts_rd {l : List Int} (h : ∀ x, x ∈ l → 0 ≤ x ∧ x ≤ 255) (i : Int) : 0 ≤ rd l i ∧ rd l i ≤ 255 := by
 unfold rd
 rw [List.getD_eq_getElem?_getD]
 by_cases hi : i.toNat < l.length
 ·rw [List.getElem?_eq_getElem hi]; exact h _ (List.getElem_mem hi)
 ·rw [List.getElem?_eq_none (by omega)]; simp
theorem Ev.lit {α : Type} {g : Nat → Option α} {r : α} (K : Nat) (h : ∀ m, g (m + K) = some r) : Ev g r := ⟨K, fun k hk => by obtain ⟨m, rfl⟩ := Nat.exists_eq_add_of_le' hk; exact h m⟩
theorem rd_at {l : List Int} {j : Nat} (h : j < l.length) : rd l (j : Int) = l[j] := by
 simp [rd, List.getD_eq_getElem?_getD, List.getElem?_eq_getElem h]

/-! impl_steps -/
theorem impl_steps.l0.ev {x0 : List Int} {x1 : Int} {x7 : Int} {x8 : Int} {r : Int} (h : Ev (fun k => if x8 < x7 then (if 0 ≤ (wrap64 (x1 - 1)) then (if (wrap64 (x1 - 1)) < (x0.length : Int) then (if (rd x0 (wrap64 (x1 - 1))) = 0 then (some x8) else (impl_steps.l0 k x0 (rd x0 (wrap64 (x1 - 1))) x7 (wrap64 (x8 + 1)))) else (none)) else (none)) else (some (-1))) r) : Ev (fun k => impl_steps.l0 k x0 x1 x7 x8) r := Ev.step (fun _ => rfl) h
theorem impl_steps_l0 {l : List Int} (v : Hd.Vals l) (h8 : l.length ≤ 8) : ∀ (d : Nat) (m w : Int), 0 ≤ m → m + d = l.length → 1 ≤ w → w ≤ l.length →
  Ev (fun k => impl_steps.l0 k l w l.length m) (if Hd.it (Hd.hd l) d w = 0 then m + Hd.depF (Hd.hd l) d w else -1)
 | 0, m, w, h0, hd, h1, h2 => by
  refine impl_steps.l0.ev ?_
  rw [if_neg (show ¬ Hd.it (Hd.hd l) 0 w = 0 from fun e => by have : w = 0 := e; omega)]
  exact Ev.neg (by omega) (Ev.now _)
 | d + 1, m, w, h0, hd, h1, h2 => by
  refine impl_steps.l0.ev ?_
  rw [wid (x := w - 1) (by omega) (by omega), wid (x := m + 1) (by omega) (by omega), rd_hd h1]
  refine Ev.pos (by omega) (Ev.pos (by omega) (Ev.pos (by omega) ?_))
  by_cases hz : Hd.hd l w = 0
  ·refine Ev.pos hz (Ev.ret ?_)
   have : Hd.it (Hd.hd l) (d + 1) w = 0 := by show Hd.it (Hd.hd l) d (Hd.hd l w) = 0; rw [hz]; exact Hd.it_zero (Hd.hd_zero l) d
   rw [if_pos this, Hd.depF, if_pos hz]; simp
  ·refine Ev.neg hz ?_
   have := v w h1 h2
   have ih := impl_steps_l0 v h8 d (m + 1) (Hd.hd l w) (by omega) (by omega) (by omega) (by omega)
   have e : Hd.it (Hd.hd l) (d + 1) w = Hd.it (Hd.hd l) d (Hd.hd l w) := rfl
   rw [e, Hd.depF, if_neg hz]
   have e2 : m + ((Hd.depF (Hd.hd l) d (Hd.hd l w) + 1 : Nat) : Int) = m + 1 + (Hd.depF (Hd.hd l) d (Hd.hd l w) : Nat) := by omega
   rw [e2]; exact ih
theorem impl_steps_ev {l : List Int} (v : Hd.Vals l) (h8 : l.length ≤ 8) {w : Int} (h1 : 1 ≤ w) (h2 : w ≤ l.length) :
  Ev (fun k => impl_steps.f k l w) (if Hd.it (Hd.hd l) l.length w = 0 then (Hd.depF (Hd.hd l) l.length w : Int) else -1) := by
 have := impl_steps_l0 v h8 l.length 0 w (by omega) (by omega) h1 h2
 simp only [Int.zero_add] at this
 exact this

/-! impl_TreeOk -/
theorem impl_TreeOk.j0.ev {x0 : List Int} {x14 : Bool} {r : Bool} (h : Ev (fun k => if x14 = true then (some false) else (impl_TreeOk.l0 k x0 0 x0 (x0.length : Int) 0)) r) : Ev (fun k => impl_TreeOk.j0 k x0 x14) r := Ev.step (fun _ => rfl) h
theorem impl_TreeOk.l0.ev {x0 : List Int} {x3 : Int} {x15 : List Int} {x16 : Int} {x17 : Int} {r : Bool} (h : Ev (fun k => if x17 < x16 then (if 0 ≤ x17 then (if x17 < (x15.length : Int) then (if (rd x15 x17) < 0 then (impl_TreeOk.j2 k x0 x3 (rd x15 x17) x15 x16 x17 true) else (impl_TreeOk.j2 k x0 x3 (rd x15 x17) x15 x16 x17 (decide ((rd x15 x17) > (x0.length : Int))))) else (none)) else (none)) else (impl_TreeOk.l1 k x0 x3 (x0.length : Int) 0)) r) : Ev (fun k => impl_TreeOk.l0 k x0 x3 x15 x16 x17) r := Ev.step (fun _ => rfl) h
theorem impl_TreeOk.j2.ev {x0 : List Int} {x3 : Int} {x5 : Int} {x15 : List Int} {x16 : Int} {x17 : Int} {x28 : Bool} {r : Bool} (h : Ev (fun k => if x28 = true then (some false) else (if x5 = 0 then (impl_TreeOk.l0 k x0 (wrap64 (x3 + 1)) x15 x16 (wrap64 (x17 + 1))) else (impl_TreeOk.l0 k x0 x3 x15 x16 (wrap64 (x17 + 1))))) r) : Ev (fun k => impl_TreeOk.j2 k x0 x3 x5 x15 x16 x17 x28) r := Ev.step (fun _ => rfl) h
theorem impl_TreeOk.l1.ev {x0 : List Int} {x3 : Int} {x35 : Int} {x36 : Int} {r : Bool} (h : Ev (fun k => if x36 < x35 then ((impl_steps.f k x0 (wrap64 (x36 + 1))).bind fun t103 => (if t103 < 0 then (some false) else (impl_TreeOk.l1 k x0 x3 x35 (wrap64 (x36 + 1))))) else (some (x3 == 1))) r) : Ev (fun k => impl_TreeOk.l1 k x0 x3 x35 x36) r := Ev.step (fun _ => rfl) h
theorem impl_TreeOk_l1 {l : List Int} (v : Hd.Vals l) (h8 : l.length ≤ 8) {c : Int} (hc : c = Hd.zeros l l.length) : ∀ i : Int, i ≤ l.length → 0 ≤ i → (∀ a : Int, 1 ≤ a → a ≤ i → Hd.it (Hd.hd l) l.length a = 0) →
  Ev (fun k => impl_TreeOk.l1 k l c l.length i) (Hd.treeB l) := by
 refine Hd.down ?_
 intro i hi ih h0 hb
 refine impl_TreeOk.l1.ev ?_
 by_cases hlt : i < l.length
 ·rw [wid (x := i + 1) (by omega) (by omega)]
  refine Ev.pos hlt (Ev.bind (impl_steps_ev v h8 (by omega) (by omega)) ?_)
  by_cases hz : Hd.it (Hd.hd l) l.length (i + 1) = 0
  ·rw [if_pos hz]
   refine Ev.neg (by omega) (ih hlt (by omega) fun a h1 h2 => ?_)
   by_cases e : a = i + 1
   ·rw [e]; exact hz
   ·exact hb a h1 (by omega)
  ·rw [if_neg hz, Hd.treeB_no (fun t => hz (t.2.back _ (by omega) (by omega)))]
   exact Ev.pos (by omega) (Ev.now _)
 ·refine Ev.neg hlt (Ev.ret ?_)
  have t := Hd.T_iff h8 v (fun a h1 h2 => hb a h1 (by omega))
  by_cases e : Hd.zeros l l.length = 1
  ·rw [Hd.treeB_yes (t.2 e), hc, e]; rfl
  ·rw [Hd.treeB_no (fun x => e (t.1 x)), hc]; simp; omega
theorem impl_TreeOk_l0 {l : List Int} (h8 : l.length ≤ 8) : ∀ i : Int, i ≤ l.length → 0 ≤ i → (∀ a : Int, 1 ≤ a → a ≤ i → 0 ≤ Hd.hd l a ∧ Hd.hd l a ≤ l.length) →
  Ev (fun k => impl_TreeOk.l0 k l (Hd.zeros l i.toNat) l l.length i) (Hd.treeB l) := by
 refine Hd.down ?_
 intro i hi ih h0 hb
 refine impl_TreeOk.l0.ev ?_
 by_cases hlt : i < l.length
 ·have hz := Hd.cnt_le (fun a => decide (Hd.hd l a = 0)) i.toNat
  have hzz : Hd.zeros l (i + 1).toNat = Hd.zeros l i.toNat + if Hd.hd l (i + 1) = 0 then 1 else 0 := by
   rw [show (i + 1).toNat = i.toNat + 1 from by omega]
   show Hd.cnt _ (i.toNat + 1) = _
   rw [Hd.cnt, show ((i.toNat : Int) + 1) = i + 1 from by omega]
   simp [Hd.zeros]
  have hz' : Hd.zeros l i.toNat ≤ i.toNat := hz
  rw [rd_hd1 h0]
  refine Ev.pos hlt (Ev.pos h0 (Ev.pos hlt ?_))
  have no : ¬ (0 ≤ Hd.hd l (i + 1) ∧ Hd.hd l (i + 1) ≤ l.length) → Hd.treeB l = false := fun hn => Hd.treeB_no fun t => hn (t.vals _ (by omega) (by omega))
  by_cases hneg : Hd.hd l (i + 1) < 0
  ·refine Ev.pos hneg (impl_TreeOk.j2.ev (Ev.pos rfl (Ev.ret ?_)))
   rw [no (by omega)]
  ·refine Ev.neg hneg (impl_TreeOk.j2.ev ?_)
   by_cases hbig : Hd.hd l (i + 1) > l.length
   ·refine Ev.pos (by simpa using hbig) (Ev.ret ?_)
    rw [no (by omega)]
   ·refine Ev.neg (by simpa using hbig) ?_
    rw [wid (x := (Hd.zeros l i.toNat : Int) + 1) (by omega) (by omega), wid (x := i + 1) (by omega) (by omega)]
    have next := ih hlt (by omega) (fun a h1 h2 => by
     by_cases e : a = i + 1
     ·rw [e]; omega
     ·exact hb a h1 (by omega))
    rw [hzz] at next
    by_cases h00 : Hd.hd l (i + 1) = 0
    ·rw [if_pos h00] at next
     exact Ev.pos h00 next
    ·rw [if_neg h00] at next
     exact Ev.neg h00 next
 ·refine Ev.neg hlt ?_
  have e : i.toNat = l.length := by omega
  rw [e]
  exact impl_TreeOk_l1 (fun a h1 h2 => hb a h1 (by omega)) h8 rfl 0 (by omega) (by omega) (fun a h1 h2 => by omega)
theorem impl_TreeOk_ev (l : List Int) : Ev (fun k => impl_TreeOk.f k l) (Hd.treeB l) := by
 unfold impl_TreeOk.f
 by_cases h1 : (l.length : Int) < 1
 ·refine Ev.pos h1 (impl_TreeOk.j0.ev (Ev.pos rfl (Ev.ret ?_)))
  exact (Hd.treeB_no fun t => by have := t.2.pos; omega).symm
 ·refine Ev.neg h1 (impl_TreeOk.j0.ev ?_)
  by_cases h8 : (l.length : Int) > 8
  ·refine Ev.pos (by simpa using h8) (Ev.ret ?_)
   exact (Hd.treeB_no fun t => by have := t.1; omega).symm
  ·refine Ev.neg (by simpa using h8) ?_
   exact impl_TreeOk_l0 (by omega) 0 (by omega) (by omega) (fun a h1 h2 => by omega)

/-! laws_alive -/

theorem alive_one : Hd.treeB [0] = true := by
 have one : ∀ a : Int, 1 ≤ a → a ≤ ([0] : List Int).length → a = 1 := fun a h1 h2 => by simp at h2; omega
 exact Hd.treeB_yes ((Hd.T_iff (l := [0]) (by decide) (fun a h1 h2 => by rw [one a h1 h2]; decide) (fun a h1 h2 => by rw [one a h1 h2]; decide)).2 (by decide))
theorem alive_two : Hd.treeB [1] = false := Hd.treeB_no fun t => by
 have := t.2.not_own (a := 1) (by simp)
 exact this (by decide)
theorem laws_alive_ev : Ev (fun k => laws_alive.f k) true := by
 unfold laws_alive.f
 refine Ev.bind (impl_TreeOk_ev [0]) (Ev.pos alive_one (Ev.bind (impl_TreeOk_ev [1]) (Ev.ret ?_)))
 rw [alive_two]; rfl

/-! laws_sameInts -/
theorem laws_sameInts.l0.ev {x0 : List Int} {x1 : List Int} {x5 : Int} {r : Bool} (h : Ev (fun k => if x5 < (x0.length : Int) then (if 0 ≤ x5 then (if x5 < (x1.length : Int) then (if (rd x0 x5) = (rd x1 x5) then (laws_sameInts.l0 k x0 x1 (wrap64 (x5 + 1))) else (some false)) else (none)) else (none)) else (some true)) r) : Ev (fun k => laws_sameInts.l0 k x0 x1 x5) r := Ev.step (fun _ => rfl) h
theorem laws_sameInts_l0 {a b : List Int} (hl : a.length ≤ 4611686018427387904) (he : a.length = b.length) : ∀ i : Int, i ≤ a.length → 0 ≤ i → a.take i.toNat = b.take i.toNat → Ev (fun k => laws_sameInts.l0 k a b i) (decide (a = b)) := by
 refine Hd.down ?_
 intro i hi ih h0 ht
 refine laws_sameInts.l0.ev ?_
 by_cases hlt : i < a.length
 ·rw [wid (x := i + 1) (by omega) (by omega)]
  refine Ev.pos hlt (Ev.pos h0 (Ev.pos (by omega) ?_))
  obtain ⟨j, rfl⟩ := Int.eq_ofNat_of_zero_le h0
  have hj : j < a.length := by omega
  have hj2 : j < b.length := by omega
  simp only [Int.toNat_natCast] at *
  have ga : rd a j = a[j] := by simp [rd, List.getD_eq_getElem?_getD, List.getElem?_eq_getElem hj]
  have gb : rd b j = b[j] := by simp [rd, List.getD_eq_getElem?_getD, List.getElem?_eq_getElem hj2]
  by_cases e : rd a j = rd b j
  ·refine Ev.pos e (ih hlt (by omega) ?_)
   rw [show ((j : Int) + 1).toNat = j + 1 from by omega, List.take_succ_eq_append_getElem hj, List.take_succ_eq_append_getElem hj2, ht, ← ga, ← gb, e]
  ·refine Ev.neg e (Ev.ret ?_)
   have : a ≠ b := fun h => e (by rw [h])
   simp [this]
 ·refine Ev.neg hlt (Ev.ret ?_)
  rw [show i.toNat = a.length from by omega] at ht
  rw [List.take_length, he, List.take_length] at ht
  simp [ht]
theorem laws_sameInts_ev {a b : List Int} (hl : a.length ≤ 1048576) : Ev (fun k => laws_sameInts.f k a b) (decide (a = b)) := by
 unfold laws_sameInts.f
 by_cases e : a.length = b.length
 ·refine Ev.pos (by omega) ?_
  exact laws_sameInts_l0 (by omega) e 0 (by omega) (by omega) (by simp)
 ·refine Ev.neg (by omega) (Ev.ret ?_)
  have : a ≠ b := fun h => e (by rw [h])
  simp [this]

/-! impl_CountRows -/
theorem impl_CountRows.j0.ev {x0 : Int} {x10 : Bool} {r : Int} (h : Ev (fun k => if x10 = true then (some (-1)) else (if x0 = 0 then (some 1) else (impl_CountRows.l0 k x0 0 1))) r) : Ev (fun k => impl_CountRows.j0 k x0 x10) r := Ev.step (fun _ => rfl) h
theorem impl_CountRows.l0.ev {x0 : Int} {x3 : Int} {x4 : Int} {r : Int} (h : Ev (fun k => if x4 ≤ x0 then ((impl_CountFlat.f k x4).bind fun t114 => ((impl_CountRows.f k (wrap64 (x0 - x4))).bind fun t115 => (impl_CountRows.l0 k x0 (wrap64 (x3 + (wrap64 (t114 * t115)))) (wrap64 (x4 + 1))))) else (some x3)) r) : Ev (fun k => impl_CountRows.l0 k x0 x3 x4) r := Ev.step (fun _ => rfl) h
theorem impl_CountRows.f.ev {a0 : Int} {r : Int} (h : Ev (fun k => if a0 < 0 then (impl_CountRows.j0 k a0 true) else (impl_CountRows.j0 k a0 (decide (a0 > 6)))) r) : Ev (fun k => impl_CountRows.f k a0) r := Ev.step (fun _ => rfl) h
theorem impl_CountFlat.j0.ev {x0 : Int} {x10 : Bool} {r : Int} (h : Ev (fun k => if x10 = true then (some (-1)) else (impl_CountFlat.l0 k x0 0 x0 0)) r) : Ev (fun k => impl_CountFlat.j0 k x0 x10) r := Ev.step (fun _ => rfl) h
theorem impl_CountFlat.l0.ev {x0 : Int} {x3 : Int} {x11 : Int} {x12 : Int} {r : Int} (h : Ev (fun k => if x12 < x11 then ((impl_CountRows.f k x12).bind fun t116 => ((impl_CountRows.f k (wrap64 ((wrap64 (x0 - 1)) - x12))).bind fun t117 => (impl_CountFlat.l0 k x0 (wrap64 (x3 + (wrap64 (t116 * t117)))) x11 (wrap64 (x12 + 1))))) else (some x3)) r) : Ev (fun k => impl_CountFlat.l0 k x0 x3 x11 x12) r := Ev.step (fun _ => rfl) h
theorem impl_CountFlat.f.ev {a0 : Int} {r : Int} (h : Ev (fun k => if a0 < 1 then (impl_CountFlat.j0 k a0 true) else (impl_CountFlat.j0 k a0 (decide (a0 > 6)))) r) : Ev (fun k => impl_CountFlat.f k a0) r := Ev.step (fun _ => rfl) h
set_option maxRecDepth 100000 in
theorem impl_CountRows_in {a : Int} (h0 : 0 ≤ a) (h1 : a ≤ 6) : Ev (fun k => impl_CountRows.f k a) (rowsN a) := by
 have h : a = 0 ∨ a = 1 ∨ a = 2 ∨ a = 3 ∨ a = 4 ∨ a = 5 ∨ a = 6 := by omega
 rcases h with rfl | rfl | rfl | rfl | rfl | rfl | rfl
 ·exact Ev.lit 80 fun m => by kernel_rfl
 ·exact Ev.lit 80 fun m => by kernel_rfl
 ·exact Ev.lit 80 fun m => by kernel_rfl
 ·exact Ev.lit 80 fun m => by kernel_rfl
 ·exact Ev.lit 80 fun m => by kernel_rfl
 ·exact Ev.lit 80 fun m => by kernel_rfl
 ·exact Ev.lit 80 fun m => by kernel_rfl
theorem impl_CountRows_ev (a : Int) : Ev (fun k => impl_CountRows.f k a) (rowsN a) := by
 by_cases h : 0 ≤ a ∧ a ≤ 6
 ·exact impl_CountRows_in h.1 h.2
 ·rw [rowsN_out h]
  refine impl_CountRows.f.ev ?_
  by_cases h0 : a < 0
  ·exact Ev.pos h0 (impl_CountRows.j0.ev (Ev.pos rfl (Ev.now _)))
  ·exact Ev.neg h0 (impl_CountRows.j0.ev (Ev.pos (by simp; omega) (Ev.now _)))

/-! impl_CountFlat -/

set_option maxRecDepth 100000 in
theorem impl_CountFlat_in {a : Int} (h0 : 1 ≤ a) (h1 : a ≤ 6) : Ev (fun k => impl_CountFlat.f k a) (flatN a) := by
 have h : a = 1 ∨ a = 2 ∨ a = 3 ∨ a = 4 ∨ a = 5 ∨ a = 6 := by omega
 rcases h with rfl | rfl | rfl | rfl | rfl | rfl
 ·exact Ev.lit 80 fun m => by kernel_rfl
 ·exact Ev.lit 80 fun m => by kernel_rfl
 ·exact Ev.lit 80 fun m => by kernel_rfl
 ·exact Ev.lit 80 fun m => by kernel_rfl
 ·exact Ev.lit 80 fun m => by kernel_rfl
 ·exact Ev.lit 80 fun m => by kernel_rfl
theorem impl_CountFlat_ev (a : Int) : Ev (fun k => impl_CountFlat.f k a) (flatN a) := by
 by_cases h : 1 ≤ a ∧ a ≤ 6
 ·exact impl_CountFlat_in h.1 h.2
 ·rw [flatN_out h]
  refine impl_CountFlat.f.ev ?_
  by_cases h0 : a < 1
  ·exact Ev.pos h0 (impl_CountFlat.j0.ev (Ev.pos rfl (Ev.now _)))
  ·exact Ev.neg h0 (impl_CountFlat.j0.ev (Ev.pos (by simp; omega) (Ev.now _)))

/-! impl_joined -/
theorem impl_joined.l0.ev {x0 : List Int} {x1 : List Int} {x2 : Int} {x3 : Int} {x9 : List Int} {x16 : List Int} {x17 : Int} {x18 : Int} {r : List Int} (h : Ev (fun k => if x18 < x17 then (if 0 ≤ x18 then (if x18 < (x16.length : Int) then (if (rd x16 x18) = 0 then (if x9.length < 17592186044416 then (impl_joined.l0 k x0 x1 x2 x3 (x9 ++ [x3]) x16 x17 (wrap64 (x18 + 1))) else (none)) else (if x9.length < 17592186044416 then (impl_joined.l0 k x0 x1 x2 x3 (x9 ++ [rd x16 x18]) x16 x17 (wrap64 (x18 + 1))) else (none))) else (none)) else (none)) else (if x2 > 0 then (if x9.length < 17592186044416 then (impl_joined.j1 k x0 x1 x2 x3 (x9 ++ [0])) else (none)) else (impl_joined.j1 k x0 x1 x2 x3 x9))) r) : Ev (fun k => impl_joined.l0 k x0 x1 x2 x3 x9 x16 x17 x18) r := Ev.step (fun _ => rfl) h
theorem impl_joined.j1.ev {x0 : List Int} {x1 : List Int} {x2 : Int} {x3 : Int} {x9 : List Int} {r : List Int} (h : Ev (fun k => impl_joined.l1 k x3 x9 (wrap64 ((x0.length : Int) + x2)) x1 (x1.length : Int) 0) r) : Ev (fun k => impl_joined.j1 k x0 x1 x2 x3 x9) r := Ev.step (fun _ => rfl) h
theorem impl_joined.l1.ev {x3 : Int} {x9 : List Int} {x12 : Int} {x39 : List Int} {x40 : Int} {x41 : Int} {r : List Int} (h : Ev (fun k => if x41 < x40 then (if 0 ≤ x41 then (if x41 < (x39.length : Int) then (if (rd x39 x41) = 0 then (if x9.length < 17592186044416 then (impl_joined.l1 k x3 (x9 ++ [x3]) x12 x39 x40 (wrap64 (x41 + 1))) else (none)) else (if x9.length < 17592186044416 then (impl_joined.l1 k x3 (x9 ++ [wrap64 ((rd x39 x41) + x12)]) x12 x39 x40 (wrap64 (x41 + 1))) else (none))) else (none)) else (none)) else (some x9)) r) : Ev (fun k => impl_joined.l1 k x3 x9 x12 x39 x40 x41) r := Ev.step (fun _ => rfl) h
theorem rd_toI (a : List Nat) (j : Nat) : rd (Hd.toI a) (j : Int) = ((a.getD j 0 : Nat) : Int) := Hd.toI_getD a j
theorem take_map {α β : Type} {a : List α} {j : Nat} (d : α) (g : α → β) (h : j < a.length) : (a.take (j + 1)).map g = (a.take j).map g ++ [g (a.getD j d)] := by
 rw [List.take_succ_eq_append_getElem h, List.map_append, List.getD_eq_getElem?_getD, List.getElem?_eq_getElem h]; rfl
theorem toI_app (a b : List Nat) : Hd.toI (a ++ b) = Hd.toI a ++ Hd.toI b := List.map_append
/-- A row of small numbers. -/
def Small (a : List Nat) : Prop := a.length ≤ 6 ∧ ∀ y, y ∈ a → y ≤ 6
theorem Small.at {a : List Nat} (s : Small a) {j : Nat} (h : j < a.length) : a.getD j 0 ≤ 6 := by
 rw [List.getD_eq_getElem?_getD, List.getElem?_eq_getElem h]; exact s.2 _ (List.getElem_mem h)
theorem impl_joined_l1 {b out : List Nat} (sb : Small b) {word sh : Nat} (hw : word ≤ 6) (hs : sh ≤ 7) (ho : out.length ≤ 100) : ∀ i : Int, i ≤ (b.length : Int) → 0 ≤ i →
  Ev (fun k => impl_joined.l1 k word (Hd.toI (out ++ (b.take i.toNat).map (fun h => if h = 0 then word else h + sh))) sh (Hd.toI b) b.length i) (Hd.toI (out ++ b.map (fun h => if h = 0 then word else h + sh))) := by
 have tl := Hd.toI_len b
 have hb := sb.1
 refine Hd.down ?_
 intro i hi ih h0
 obtain ⟨j, rfl⟩ := Int.eq_ofNat_of_zero_le h0
 refine impl_joined.l1.ev ?_
 rw [Int.toNat_natCast]
 by_cases hlt : (j : Int) < b.length
 ·have next := ih hlt (by omega)
  rw [show ((j : Int) + 1).toNat = j + 1 from by omega, take_map 0 _ (by omega), ← List.append_assoc, toI_app] at next
  have hx := sb.at (j := j) (by omega)
  have hol : (Hd.toI (out ++ (b.take j).map (fun h => if h = 0 then word else h + sh))).length < 17592186044416 := by
   rw [Hd.toI_len]; simp; omega
  rw [wid (x := (j : Int) + 1) (by omega) (by omega), rd_toI]
  generalize b.getD j 0 = x at next hx
  rw [wid (x := (x : Int) + (sh : Int)) (by omega) (by omega)]
  refine Ev.pos hlt (Ev.pos h0 (Ev.pos (by omega) ?_))
  by_cases c : x = 0
  ·rw [if_pos c] at next
   exact Ev.pos (by omega) (Ev.pos hol next)
  ·rw [if_neg c] at next
   refine Ev.neg (by omega) (Ev.pos hol ?_)
   simpa [Hd.toI] using next
 ·refine Ev.neg hlt (Ev.ret ?_)
  rw [List.take_of_length_le (by omega)]
theorem impl_joined_ev {a b : List Nat} (sa : Small a) (sb : Small b) {word skip : Nat} (hw : word ≤ 6) (hs : skip ≤ 1) : Ev (fun k => impl_joined.f k (Hd.toI a) (Hd.toI b) skip word) (Hd.toI (Hd.joinN a b skip word)) := by
 have tl := Hd.toI_len a
 have ha := sa.1
 have main : ∀ i : Int, i ≤ (a.length : Int) → 0 ≤ i → Ev (fun k => impl_joined.l0 k (Hd.toI a) (Hd.toI b) skip word (Hd.toI ((a.take i.toNat).map (fun h => if h = 0 then word else h))) (Hd.toI a) (a.length : Int) i) (Hd.toI (Hd.joinN a b skip word)) := by
  refine Hd.down ?_
  intro i hi ih h0
  obtain ⟨j, rfl⟩ := Int.eq_ofNat_of_zero_le h0
  refine impl_joined.l0.ev ?_
  rw [Int.toNat_natCast]
  have hol : (Hd.toI ((a.take j).map (fun h => if h = 0 then word else h))).length < 17592186044416 := by
   rw [Hd.toI_len]; simp; omega
  by_cases hlt : (j : Int) < a.length
  ·have next := ih hlt (by omega)
   rw [show ((j : Int) + 1).toNat = j + 1 from by omega, take_map 0 _ (by omega), toI_app] at next
   rw [wid (x := (j : Int) + 1) (by omega) (by omega), rd_toI]
   generalize a.getD j 0 = x at next
   refine Ev.pos hlt (Ev.pos h0 (Ev.pos (by omega) ?_))
   by_cases c : x = 0
   ·rw [if_pos c] at next
    exact Ev.pos (by omega) (Ev.pos hol next)
   ·rw [if_neg c] at next
    exact Ev.neg (by omega) (Ev.pos hol next)
  ·refine Ev.neg hlt ?_
   rw [List.take_of_length_le (by omega)] at hol ⊢
   have e12 : wrap64 (((Hd.toI a).length : Int) + (skip : Int)) = ((a.length + skip : Nat) : Int) := by rw [wid (by omega) (by omega), tl]; omega
   by_cases c : (skip : Int) > 0
   ·refine Ev.pos c (Ev.pos hol (impl_joined.j1.ev ?_))
    have L := impl_joined_l1 (out := a.map (fun h => if h = 0 then word else h) ++ [0]) sb (word := word) (sh := a.length + skip) hw (by omega) (by simp; omega) 0 (by omega) (by omega)
    rw [Int.toNat_zero, List.take_zero, List.map_nil, List.append_nil, toI_app] at L
    rw [e12, Hd.toI_len]
    have e : a.map (fun h => if h = 0 then word else h) ++ [0] ++ b.map (fun h => if h = 0 then word else h + (a.length + skip)) = Hd.joinN a b skip word := by
     rw [Hd.joinN, if_neg (by omega), List.append_assoc]
    rw [e] at L
    exact L
   ·refine Ev.neg c (impl_joined.j1.ev ?_)
    have L := impl_joined_l1 (out := a.map (fun h => if h = 0 then word else h)) sb (word := word) (sh := a.length + skip) hw (by omega) (by simp; omega) 0 (by omega) (by omega)
    rw [Int.toNat_zero, List.take_zero, List.map_nil, List.append_nil] at L
    rw [e12, Hd.toI_len]
    have e : a.map (fun h => if h = 0 then word else h) ++ b.map (fun h => if h = 0 then word else h + (a.length + skip)) = Hd.joinN a b skip word := by
     rw [Hd.joinN, if_pos (by omega), List.nil_append]
    rw [e] at L
    exact L
 have m := main 0 (by omega) (by omega)
 rw [Int.toNat_zero, List.take_zero, List.map_nil] at m
 unfold impl_joined.f
 rw [tl]
 exact m

/-! impl_rows -/
theorem impl_rows.l0.ev {x0 : Int} {x3 : List (List Int)} {x4 : Int} {r : (List (List Int))} (h : Ev (fun k => if x4 ≤ x0 then ((impl_rows.f k (wrap64 (x0 - x4))).bind fun t150 => ((impl_flats.f k x4).bind fun t153 => (impl_rows.l1 k x0 x3 x4 t150 t153 (t153.length : Int) 0))) else (some x3)) r) : Ev (fun k => impl_rows.l0 k x0 x3 x4) r := Ev.step (fun _ => rfl) h
theorem impl_rows.l1.ev {x0 : Int} {x3 : List (List Int)} {x4 : Int} {x5 : List (List Int)} {x25 : List (List Int)} {x26 : Int} {x27 : Int} {r : (List (List Int))} (h : Ev (fun k => if x27 < x26 then (if 0 ≤ x27 then (if x27 < (x25.length : Int) then (impl_rows.l2 k x0 x3 x4 x5 (rd_L1 x25 x27) x25 x26 x27 x5 (x5.length : Int) 0) else (none)) else (none)) else (impl_rows.l0 k x0 x3 (wrap64 (x4 + 1)))) r) : Ev (fun k => impl_rows.l1 k x0 x3 x4 x5 x25 x26 x27) r := Ev.step (fun _ => rfl) h
theorem impl_rows.l2.ev {x0 : Int} {x3 : List (List Int)} {x4 : Int} {x5 : List (List Int)} {x7 : List Int} {x25 : List (List Int)} {x26 : Int} {x27 : Int} {x31 : List (List Int)} {x32 : Int} {x33 : Int} {r : (List (List Int))} (h : Ev (fun k => if x33 < x32 then (if 0 ≤ x33 then (if x33 < (x31.length : Int) then ((impl_joined.f k x7 (rd_L1 x31 x33) 0 0).bind fun t158 => (if x3.length < 5864062014805 then (impl_rows.l2 k x0 (x3 ++ [t158]) x4 x5 x7 x25 x26 x27 x31 x32 (wrap64 (x33 + 1))) else (none))) else (none)) else (none)) else (impl_rows.l1 k x0 x3 x4 x5 x25 x26 (wrap64 (x27 + 1)))) r) : Ev (fun k => impl_rows.l2 k x0 x3 x4 x5 x7 x25 x26 x27 x31 x32 x33) r := Ev.step (fun _ => rfl) h
theorem impl_rows.f.ev {a0 : Int} {r : (List (List Int))} (h : Ev (fun k => if a0 = 0 then (some (([(([] : List Int))] : List (List Int)))) else (impl_rows.l0 k a0 (([] : List (List Int))) 1)) r) : Ev (fun k => impl_rows.f k a0) r := Ev.step (fun _ => rfl) h
theorem impl_flats.l0.ev {x0 : Int} {x3 : List (List Int)} {x10 : Int} {x11 : Int} {r : (List (List Int))} (h : Ev (fun k => if x11 < x10 then ((impl_rows.f k x11).bind fun t167 => (impl_flats.l1 k x0 x3 x11 x10 x11 t167 (t167.length : Int) 0)) else (some x3)) r) : Ev (fun k => impl_flats.l0 k x0 x3 x10 x11) r := Ev.step (fun _ => rfl) h
theorem impl_flats.l1.ev {x0 : Int} {x3 : List (List Int)} {x4 : Int} {x10 : Int} {x11 : Int} {x15 : List (List Int)} {x16 : Int} {x17 : Int} {r : (List (List Int))} (h : Ev (fun k => if x17 < x16 then (if 0 ≤ x17 then (if x17 < (x15.length : Int) then ((impl_rows.f k (wrap64 ((wrap64 (x0 - 1)) - x4))).bind fun t171 => (impl_flats.l2 k x0 x3 x4 (rd_L1 x15 x17) x10 x11 x15 x16 x17 t171 (t171.length : Int) 0)) else (none)) else (none)) else (impl_flats.l0 k x0 x3 x10 (wrap64 (x11 + 1)))) r) : Ev (fun k => impl_flats.l1 k x0 x3 x4 x10 x11 x15 x16 x17) r := Ev.step (fun _ => rfl) h
theorem impl_flats.l2.ev {x0 : Int} {x3 : List (List Int)} {x4 : Int} {x6 : List Int} {x10 : Int} {x11 : Int} {x15 : List (List Int)} {x16 : Int} {x17 : Int} {x25 : List (List Int)} {x26 : Int} {x27 : Int} {r : (List (List Int))} (h : Ev (fun k => if x27 < x26 then (if 0 ≤ x27 then (if x27 < (x25.length : Int) then ((impl_joined.f k x6 (rd_L1 x25 x27) 1 (wrap64 (x4 + 1))).bind fun t175 => (if x3.length < 5864062014805 then (impl_flats.l2 k x0 (x3 ++ [t175]) x4 x6 x10 x11 x15 x16 x17 x25 x26 (wrap64 (x27 + 1))) else (none))) else (none)) else (none)) else (impl_flats.l1 k x0 x3 x4 x10 x11 x15 x16 (wrap64 (x17 + 1)))) r) : Ev (fun k => impl_flats.l2 k x0 x3 x4 x6 x10 x11 x15 x16 x17 x25 x26 x27) r := Ev.step (fun _ => rfl) h
theorem impl_flats.f.ev {a0 : Int} {r : (List (List Int))} (h : Ev (fun k => impl_flats.l0 k a0 (([] : List (List Int))) a0 0) r) : Ev (fun k => impl_flats.f k a0) r := Ev.step (fun _ => rfl) h
-- (with impl_flats)

/-! impl_flats -/

def RL (x : List (List Nat)) : List (List Int) := x.map Hd.toI
theorem RL_len (x : List (List Nat)) : (RL x).length = x.length := List.length_map _
theorem RL_app (a b : List (List Nat)) : RL (a ++ b) = RL a ++ RL b := List.map_append
theorem rd_RL (xs : List (List Nat)) (j : Nat) : rd_L1 (RL xs) (j : Int) = Hd.toI (xs.getD j []) := by
 simp only [rd_L1, RL, List.getD_eq_getElem?_getD, List.getElem?_map, Int.toNat_natCast]
 cases xs[j]? <;> rfl
theorem getD_memL {α : Type} {l : List α} {i : Nat} {d : α} (h : i < l.length) : l.getD i d ∈ l := by
 rw [List.getD_eq_getElem?_getD, List.getElem?_eq_getElem h]; exact List.getElem_mem h
theorem take_flat {α β : Type} {a : List α} {j : Nat} (d : α) (g : α → List β) (h : j < a.length) : (a.take (j + 1)).flatMap g = (a.take j).flatMap g ++ g (a.getD j d) := by
 rw [List.take_succ_eq_append_getElem h, List.flatMap_append, List.getD_eq_getElem?_getD, List.getElem?_eq_getElem h]; simp
theorem take_flat_le {α β : Type} (a : List α) (j : Nat) (g : α → List β) : ((a.take j).flatMap g).length ≤ (a.flatMap g).length := by
 have := congrArg (fun q => (q.flatMap g).length) (List.take_append_drop j a)
 simp only [List.flatMap_append, List.length_append] at this
 omega
theorem range_flat {β : Type} (m : Nat) (g : Nat → List β) : (List.range (m + 1)).flatMap g = (List.range m).flatMap g ++ g m := by
 rw [List.range_succ, List.flatMap_append]; simp
theorem range_flat_le {β : Type} {m n : Nat} (h : m ≤ n) (g : Nat → List β) : ((List.range m).flatMap g).length ≤ ((List.range n).flatMap g).length := by
 obtain ⟨c, rfl⟩ := Nat.exists_eq_add_of_le h
 induction c with
 | zero => exact Nat.le_refl _
 | succ c ih =>
  have := ih (by omega)
  rw [← Nat.add_assoc, range_flat, List.length_append]; omega
def AllSmall (x : List (List Nat)) : Prop := ∀ y, y ∈ x → Small y
theorem small_F {n : Nat} (h : n ≤ 6) : AllSmall (Hd.tF n) := fun y hy => by
 have := (Hd.t_sizes n h).2.2.1 y hy
 exact ⟨by omega, this.2⟩
theorem small_R {n : Nat} (h : n ≤ 6) : AllSmall (Hd.tR n) := fun y hy => by
 have := (Hd.t_sizes n h).2.2.2 y hy
 exact ⟨by omega, this.2⟩
theorem impl_flats_l2 {n left j : Nat} {one : List Nat} {others acc : List (List Nat)} {x15 : List (List Int)} {x10 x11 x16 : Int} {r : List (List Int)} (hleft : left ≤ 5) (hj : j ≤ 2000) (so : Small one) (sos : AllSmall others)
  (hB : (acc ++ others.map fun o => Hd.joinN one o 1 (left + 1)).length ≤ 2000)
  (next : Ev (fun k => impl_flats.l1 k n (RL (acc ++ others.map fun o => Hd.joinN one o 1 (left + 1))) left x10 x11 x15 x16 ((j + 1 : Nat) : Int)) r) :
  ∀ i : Int, i ≤ (others.length : Int) → 0 ≤ i → Ev (fun k => impl_flats.l2 k n (RL (acc ++ (others.take i.toNat).map fun o => Hd.joinN one o 1 (left + 1))) left (Hd.toI one) x10 x11 x15 x16 j (RL others) others.length i) r := by
 have tl := RL_len others
 rw [List.length_append, List.length_map] at hB
 refine Hd.down ?_
 intro i hi ih h0
 obtain ⟨q, rfl⟩ := Int.eq_ofNat_of_zero_le h0
 refine impl_flats.l2.ev ?_
 rw [Int.toNat_natCast]
 by_cases hlt : (q : Int) < others.length
 ·have nx := ih hlt (by omega)
  rw [show ((q : Int) + 1).toNat = q + 1 from by omega, take_map [] _ (by omega), ← List.append_assoc, RL_app] at nx
  have hol : (RL (acc ++ (others.take q).map fun o => Hd.joinN one o 1 (left + 1))).length < 5864062014805 := by
   rw [RL_len]; simp; omega
  have J := impl_joined_ev so (sos (others.getD q []) (getD_memL (by omega))) (word := left + 1) (skip := 1) (by omega) (by omega)
  rw [wid (x := (q : Int) + 1) (by omega) (by omega), wid (x := (left : Int) + 1) (by omega) (by omega), rd_RL]
  exact Ev.pos hlt (Ev.pos h0 (Ev.pos (by omega) (Ev.bind J (Ev.pos hol nx))))
 ·refine Ev.neg hlt ?_
  rw [List.take_of_length_le (by omega), wid (x := (j : Int) + 1) (by omega) (by omega)]
  exact next
theorem impl_flats_l1 {n left : Nat} {ones others acc : List (List Nat)} {r : List (List Int)} (hn : n ≤ 6) (hleft : left < n) (hones : AllSmall ones) (hlen : ones.length ≤ 1000) (sos : AllSmall others)
  (hR : Ev (fun k => impl_rows.f k ((n - 1 - left : Nat) : Int)) (RL others))
  (hB : (acc ++ ones.flatMap fun one => others.map fun o => Hd.joinN one o 1 (left + 1)).length ≤ 2000)
  (next : Ev (fun k => impl_flats.l0 k n (RL (acc ++ ones.flatMap fun one => others.map fun o => Hd.joinN one o 1 (left + 1))) n ((left + 1 : Nat) : Int)) r) :
  ∀ i : Int, i ≤ (ones.length : Int) → 0 ≤ i → Ev (fun k => impl_flats.l1 k n (RL (acc ++ (ones.take i.toNat).flatMap fun one => others.map fun o => Hd.joinN one o 1 (left + 1))) left n left (RL ones) ones.length i) r := by
 have tl := RL_len ones
 rw [List.length_append] at hB
 refine Hd.down ?_
 intro i hi ih h0
 obtain ⟨q, rfl⟩ := Int.eq_ofNat_of_zero_le h0
 refine impl_flats.l1.ev ?_
 rw [Int.toNat_natCast]
 by_cases hlt : (q : Int) < ones.length
 ·have nx := ih hlt (by omega)
  have hq : q < ones.length := by omega
  have hle := take_flat_le ones (q + 1) fun one => others.map fun o => Hd.joinN one o 1 (left + 1)
  rw [take_flat [] _ hq] at hle
  rw [show ((q : Int) + 1).toNat = q + 1 from by omega, take_flat [] _ hq, ← List.append_assoc, show (q : Int) + 1 = ((q + 1 : Nat) : Int) from by omega] at nx
  have L2 := impl_flats_l2 (j := q) (x10 := n) (x11 := left) (x15 := RL ones) (x16 := ones.length) (by omega) (by omega) (hones (ones.getD q []) (getD_memL hq)) sos (by rw [List.length_append, List.length_append]; rw [List.length_append] at hle; omega) nx 0 (by omega) (by omega)
  rw [Int.toNat_zero, List.take_zero, List.map_nil, List.append_nil] at L2
  rw [wid (x := (n : Int) - 1) (by omega) (by omega), wid (x := (n : Int) - 1 - (left : Int)) (by omega) (by omega), show (n : Int) - 1 - (left : Int) = ((n - 1 - left : Nat) : Int) by omega, rd_RL]
  refine Ev.pos hlt (Ev.pos h0 (Ev.pos (by omega) (Ev.bind hR ?_)))
  rw [RL_len]
  exact L2
 ·refine Ev.neg hlt ?_
  rw [List.take_of_length_le (by omega), wid (x := (left : Int) + 1) (by omega) (by omega)]
  exact next
theorem impl_flats_step {n : Nat} (hn : n ≤ 6) (hR : ∀ m, m < n → Ev (fun k => impl_rows.f k (m : Int)) (RL (Hd.tR m))) : Ev (fun k => impl_flats.f k (n : Int)) (RL (Hd.tF n)) := by
 have hsz := (Hd.t_sizes n hn).1
 have main : ∀ i : Int, i ≤ (n : Int) → 0 ≤ i → Ev (fun k => impl_flats.l0 k n (RL ((List.range i.toNat).flatMap fun left => (Hd.tR left).flatMap fun one => (Hd.tR (n - 1 - left)).map fun other => Hd.joinN one other 1 (left + 1))) n i) (RL (Hd.tF n)) := by
  refine Hd.down ?_
  intro i hi ih h0
  obtain ⟨q, rfl⟩ := Int.eq_ofNat_of_zero_le h0
  refine impl_flats.l0.ev ?_
  rw [Int.toNat_natCast]
  by_cases hlt : (q : Int) < n
  ·have nx := ih hlt (by omega)
   have hle := range_flat_le (m := q + 1) (n := n) (by omega) fun left => (Hd.tR left).flatMap fun one => (Hd.tR (n - 1 - left)).map fun other => Hd.joinN one other 1 (left + 1)
   rw [show ((List.range n).flatMap fun left => (Hd.tR left).flatMap fun one => (Hd.tR (n - 1 - left)).map fun other => Hd.joinN one other 1 (left + 1)) = Hd.tF n from Hd.tF_step n hn, range_flat] at hle
   rw [show ((q : Int) + 1).toNat = q + 1 from by omega, range_flat, show (q : Int) + 1 = ((q + 1 : Nat) : Int) from by omega] at nx
   have L1 := impl_flats_l1 hn (by omega) (small_R (n := q) (by omega)) ((Hd.t_sizes q (by omega)).2.1) (small_R (n := n - 1 - q) (by omega)) (hR _ (by omega)) (by omega) nx 0 (by omega) (by omega)
   rw [Int.toNat_zero, List.take_zero, List.flatMap_nil, List.append_nil] at L1
   refine Ev.pos hlt (Ev.bind (hR q (by omega)) ?_)
   rw [RL_len]
   exact L1
  ·refine Ev.neg hlt (Ev.ret ?_)
   rw [show q = n by omega]
   exact congrArg RL (Hd.tF_step n hn)
 refine impl_flats.f.ev ?_
 exact main 0 (by omega) (by omega)
theorem impl_rows_l2 {n j q5 : Nat} {one : List Nat} {others acc : List (List Nat)} {x5 x25 : List (List Int)} {x26 : Int} {r : List (List Int)} (hj : j ≤ 2000) (so : Small one) (sos : AllSmall others)
  (hB : (acc ++ others.map fun o => Hd.joinN one o 0 0).length ≤ 2000)
  (next : Ev (fun k => impl_rows.l1 k n (RL (acc ++ others.map fun o => Hd.joinN one o 0 0)) q5 x5 x25 x26 ((j + 1 : Nat) : Int)) r) :
  ∀ i : Int, i ≤ (others.length : Int) → 0 ≤ i → Ev (fun k => impl_rows.l2 k n (RL (acc ++ (others.take i.toNat).map fun o => Hd.joinN one o 0 0)) q5 x5 (Hd.toI one) x25 x26 j (RL others) others.length i) r := by
 have tl := RL_len others
 rw [List.length_append, List.length_map] at hB
 refine Hd.down ?_
 intro i hi ih h0
 obtain ⟨q, rfl⟩ := Int.eq_ofNat_of_zero_le h0
 refine impl_rows.l2.ev ?_
 rw [Int.toNat_natCast]
 by_cases hlt : (q : Int) < others.length
 ·have nx := ih hlt (by omega)
  rw [show ((q : Int) + 1).toNat = q + 1 from by omega, take_map [] _ (by omega), ← List.append_assoc, RL_app] at nx
  have hol : (RL (acc ++ (others.take q).map fun o => Hd.joinN one o 0 0)).length < 5864062014805 := by
   rw [RL_len]; simp; omega
  have J := impl_joined_ev so (sos (others.getD q []) (getD_memL (by omega))) (word := 0) (skip := 0) (by omega) (by omega)
  rw [wid (x := (q : Int) + 1) (by omega) (by omega), rd_RL]
  exact Ev.pos hlt (Ev.pos h0 (Ev.pos (by omega) (Ev.bind J (Ev.pos hol nx))))
 ·refine Ev.neg hlt ?_
  rw [List.take_of_length_le (by omega), wid (x := (j : Int) + 1) (by omega) (by omega)]
  exact next
theorem impl_rows_l1 {n q5 : Nat} {ones others acc : List (List Nat)} {r : List (List Int)} (h5 : q5 ≤ 6) (hones : AllSmall ones) (hlen : ones.length ≤ 1000) (sos : AllSmall others)
  (hB : (acc ++ ones.flatMap fun one => others.map fun o => Hd.joinN one o 0 0).length ≤ 2000)
  (next : Ev (fun k => impl_rows.l0 k n (RL (acc ++ ones.flatMap fun one => others.map fun o => Hd.joinN one o 0 0)) ((q5 + 1 : Nat) : Int)) r) :
  ∀ i : Int, i ≤ (ones.length : Int) → 0 ≤ i → Ev (fun k => impl_rows.l1 k n (RL (acc ++ (ones.take i.toNat).flatMap fun one => others.map fun o => Hd.joinN one o 0 0)) q5 (RL others) (RL ones) ones.length i) r := by
 have tl := RL_len ones
 rw [List.length_append] at hB
 refine Hd.down ?_
 intro i hi ih h0
 obtain ⟨q, rfl⟩ := Int.eq_ofNat_of_zero_le h0
 refine impl_rows.l1.ev ?_
 rw [Int.toNat_natCast]
 by_cases hlt : (q : Int) < ones.length
 ·have nx := ih hlt (by omega)
  have hq : q < ones.length := by omega
  have hle := take_flat_le ones (q + 1) fun one => others.map fun o => Hd.joinN one o 0 0
  rw [take_flat [] _ hq] at hle
  rw [show ((q : Int) + 1).toNat = q + 1 from by omega, take_flat [] _ hq, ← List.append_assoc, show (q : Int) + 1 = ((q + 1 : Nat) : Int) from by omega] at nx
  have L2 := impl_rows_l2 (j := q) (x5 := RL others) (x25 := RL ones) (x26 := ones.length) (by omega) (hones (ones.getD q []) (getD_memL hq)) sos (by rw [List.length_append, List.length_append]; rw [List.length_append] at hle; omega) nx 0 (by omega) (by omega)
  rw [Int.toNat_zero, List.take_zero, List.map_nil, List.append_nil] at L2
  rw [rd_RL]
  refine Ev.pos hlt (Ev.pos h0 (Ev.pos (by omega) ?_))
  rw [RL_len]
  exact L2
 ·refine Ev.neg hlt ?_
  rw [List.take_of_length_le (by omega), wid (x := (q5 : Int) + 1) (by omega) (by omega)]
  exact next
theorem impl_rows_step {n : Nat} (hn : n ≤ 5) (hF : ∀ m, m ≤ n → Ev (fun k => impl_flats.f k (m : Int)) (RL (Hd.tF m))) (hR : ∀ m, m < n → Ev (fun k => impl_rows.f k (m : Int)) (RL (Hd.tR m))) : Ev (fun k => impl_rows.f k (n : Int)) (RL (Hd.tR n)) := by
 refine impl_rows.f.ev ?_
 by_cases h0 : n = 0
 ·subst h0; exact Ev.pos rfl (Ev.now _)
 refine Ev.neg (by omega) ?_
 have hsz := (Hd.t_sizes n (by omega)).2.1
 have main : ∀ i : Int, i ≤ (n : Int) → 0 ≤ i → Ev (fun k => impl_rows.l0 k n (RL ((List.range i.toNat).flatMap fun j => (Hd.tF (j + 1)).flatMap fun one => (Hd.tR (n - (j + 1))).map fun other => Hd.joinN one other 0 0)) (i + 1)) (RL (Hd.tR n)) := by
  refine Hd.down ?_
  intro i hi ih h0
  obtain ⟨q, rfl⟩ := Int.eq_ofNat_of_zero_le h0
  refine impl_rows.l0.ev ?_
  rw [Int.toNat_natCast]
  by_cases hlt : (q : Int) < n
  ·have nx := ih hlt (by omega)
   have hle := range_flat_le (m := q + 1) (n := n) (by omega) fun j => (Hd.tF (j + 1)).flatMap fun one => (Hd.tR (n - (j + 1))).map fun other => Hd.joinN one other 0 0
   rw [show ((List.range n).flatMap fun j => (Hd.tF (j + 1)).flatMap fun one => (Hd.tR (n - (j + 1))).map fun other => Hd.joinN one other 0 0) = Hd.tR n from Hd.tR_step n (by omega) hn, range_flat] at hle
   rw [show ((q : Int) + 1).toNat = q + 1 from by omega, range_flat, show (q : Int) + 1 + 1 = ((q + 1 + 1 : Nat) : Int) from by omega] at nx
   have L1 := impl_rows_l1 (by omega) (small_F (n := q + 1) (by omega)) ((Hd.t_sizes (q + 1) (by omega)).1) (small_R (n := n - (q + 1)) (by omega)) (by omega) nx 0 (by omega) (by omega)
   rw [Int.toNat_zero, List.take_zero, List.flatMap_nil, List.append_nil] at L1
   rw [wid (x := (n : Int) - ((q : Int) + 1)) (by omega) (by omega), show (n : Int) - ((q : Int) + 1) = ((n - (q + 1) : Nat) : Int) by omega, show (q : Int) + 1 = ((q + 1 : Nat) : Int) by omega]
   refine Ev.pos (by omega) (Ev.bind (hR _ (by omega)) (Ev.bind (hF _ (by omega)) ?_))
   rw [RL_len]
   exact L1
  ·refine Ev.neg (by omega) (Ev.ret ?_)
   rw [show q = n by omega]
   exact congrArg RL (Hd.tR_step n (by omega) hn)
 exact main 0 (by omega) (by omega)
theorem impl_both_ev : ∀ n : Nat, (n ≤ 5 → Ev (fun k => impl_rows.f k (n : Int)) (RL (Hd.tR n))) ∧ (n ≤ 6 → Ev (fun k => impl_flats.f k (n : Int)) (RL (Hd.tF n))) := by
 intro n
 induction n using Nat.strongRecOn with
 | _ n ih =>
  have F : n ≤ 6 → Ev (fun k => impl_flats.f k (n : Int)) (RL (Hd.tF n)) := fun h => impl_flats_step h fun m hm => (ih m hm).1 (by omega)
  exact ⟨fun h => impl_rows_step h (fun m hm => by
   by_cases e : m = n
   ·subst e; exact F (by omega)
   ·exact (ih m (by omega)).2 (by omega)) fun m hm => (ih m hm).1 (by omega), F⟩
theorem impl_flats_ev {n : Nat} (h : n ≤ 6) : Ev (fun k => impl_flats.f k (n : Int)) (RL (Hd.tF n)) := (impl_both_ev n).2 h

/-! impl_FlatAt -/

theorem tF_len {n : Nat} (h0 : 1 ≤ n) (h1 : n ≤ 6) : (Hd.tF n).length = Hd.cF n := by
 have h : n = 1 ∨ n = 2 ∨ n = 3 ∨ n = 4 ∨ n = 5 ∨ n = 6 := by omega
 rcases h with rfl | rfl | rfl | rfl | rfl | rfl <;> decide +kernel
theorem cF_eq' {a : Nat} (h0 : 1 ≤ a) (h1 : a ≤ 6) : flatN (a : Int) = (Hd.cF a : Int) := by
 have h : a = 1 ∨ a = 2 ∨ a = 3 ∨ a = 4 ∨ a = 5 ∨ a = 6 := by omega
 rcases h with rfl | rfl | rfl | rfl | rfl | rfl <;> rfl
/-- What FlatAt answers. -/
def flatAtI (a b : Int) : List Int × Bool := if 0 ≤ b ∧ b < flatN a then (Hd.toI ((Hd.tF a.toNat).getD b.toNat []), true) else ([], false)
theorem impl_FlatAt_ev (a b : Int) : Ev (fun k => impl_FlatAt.f k a b) (flatAtI a b) := by
 unfold impl_FlatAt.f flatAtI
 by_cases c : b < 0
 ·rw [if_neg (fun h => by omega)]
  exact Ev.pos c (Ev.now _)
 refine Ev.neg c (Ev.bind (impl_CountFlat_ev a) ?_)
 by_cases c2 : b ≥ flatN a
 ·rw [if_neg (fun h => by omega)]
  exact Ev.pos c2 (Ev.now _)
 rw [if_pos ⟨by omega, by omega⟩]
 have hr : 1 ≤ a ∧ a ≤ 6 := by
  by_cases h : 1 ≤ a ∧ a ≤ 6
  ·exact h
  ·rw [flatN_out h] at c2; omega
 obtain ⟨n, rfl⟩ : ∃ n : Nat, a = n := ⟨a.toNat, by omega⟩
 obtain ⟨m, rfl⟩ : ∃ m : Nat, b = m := ⟨b.toNat, by omega⟩
 have hl := tF_len (n := n) (by omega) (by omega)
 have hc := cF_eq' (a := n) (by omega) (by omega)
 have tl := RL_len (Hd.tF n)
 refine Ev.neg c2 (Ev.bind (impl_flats_ev (n := n) (by omega)) (Ev.pos (by omega) (Ev.pos (by omega) (Ev.ret ?_))))
 rw [rd_RL, Int.toNat_natCast, Int.toNat_natCast]

/-! impl_under -/
theorem impl_under.l0.ev {x0 : List Int} {x1 : Int} {x2 : Int} {r : Bool} (h : Ev (fun k => if x1 = 0 then (some (x1 == x2)) else (if x1 = x2 then (some (x1 == x2)) else (if 0 ≤ (wrap64 (x1 - 1)) then (if (wrap64 (x1 - 1)) < (x0.length : Int) then (impl_under.l0 k x0 (rd x0 (wrap64 (x1 - 1))) x2) else (none)) else (none)))) r) : Ev (fun k => impl_under.l0 k x0 x1 x2) r := Ev.step (fun _ => rfl) h
theorem impl_under_l0 {l : List Int} (t : Hd.T l) (b : Int) : ∀ (k : Nat) (a : Int), 0 ≤ a → a ≤ l.length → Hd.it (Hd.hd l) k a = 0 → Ev (fun j => impl_under.l0 j l a b) (Hd.undB l a b)
 | k, a, h1, h2, e => by
  refine impl_under.l0.ev ?_
  by_cases hz : a = 0
  ·subst hz
   refine Ev.pos rfl (Ev.ret (bool_eq ?_))
   rw [Hd.undB_true]; simp
   constructor
   ·rintro rfl; exact Hd.Und.refl _ _
   ·intro u; exact (t.2.und_zero u).symm
  ·refine Ev.neg hz ?_
   by_cases hab : a = b
   ·refine Ev.pos hab (Ev.ret (bool_eq ?_))
    rw [Hd.undB_true]; simp [hab]
    exact Hd.Und.refl _ _
   ·refine Ev.neg hab ?_
    rw [wid (x := a - 1) (by omega) (by have := t.1; omega), rd_hd (by omega)]
    refine Ev.pos (by omega) (Ev.pos (by omega) ?_)
    match k, e with
    | 0, e => exact absurd e hz
    | k + 1, e =>
     have ih := impl_under_l0 t b k (Hd.hd l a) (t.2.lo a) (t.2.hi a) e
     have : Hd.undB l a b = Hd.undB l (Hd.hd l a) b := bool_eq (by
      rw [Hd.undB_true, Hd.undB_true]
      exact ⟨fun u => u.cases.elim (fun e => absurd e hab) id, fun u => u.up⟩)
     rw [this]; exact ih
theorem impl_under_ev {l : List Int} (t : Hd.T l) {a : Int} (h1 : 1 ≤ a) (h2 : a ≤ l.length) (b : Int) : Ev (fun k => impl_under.f k l a b) (Hd.undB l a b) :=
 impl_under_l0 t b l.length a (by omega) h2 (t.2.back a h1 h2)

/-! impl_flat -/
theorem impl_flat.l0.ev {x0 : List Int} {x9 : Int} {x10 : Int} {r : Bool} (h : Ev (fun k => if x10 < x9 then (impl_flat.l1 k x0 x10 0 (x0.length : Int) (-1) x9 x10 (x0.length : Int) 0) else (some true)) r) : Ev (fun k => impl_flat.l0 k x0 x9 x10) r := Ev.step (fun _ => rfl) h
theorem impl_flat.l1.ev {x0 : List Int} {x3 : Int} {x4 : Int} {x5 : Int} {x6 : Int} {x9 : Int} {x10 : Int} {x16 : Int} {x17 : Int} {r : Bool} (h : Ev (fun k => if x17 < x16 then ((impl_under.f k x0 (wrap64 (x17 + 1)) (wrap64 (x3 + 1))).bind fun t187 => (if t187 = true then (impl_flat.l1 k x0 x3 (wrap64 (x4 + 1)) (mn x5 x17) (mx x6 x17) x9 x10 x16 (wrap64 (x17 + 1))) else (impl_flat.l1 k x0 x3 x4 x5 x6 x9 x10 x16 (wrap64 (x17 + 1))))) else (if (wrap64 ((wrap64 (x6 - x5)) + 1)) = x4 then (impl_flat.l0 k x0 x9 (wrap64 (x10 + 1))) else (some false))) r) : Ev (fun k => impl_flat.l1 k x0 x3 x4 x5 x6 x9 x10 x16 x17) r := Ev.step (fun _ => rfl) h
theorem impl_flat_l1 {l : List Int} (t : Hd.T l) {w : Int} (h1 : 1 ≤ w) (h2 : w ≤ l.length)
  (next : Hd.rowM (Hd.ybits l w) = true → Ev (fun k => impl_flat.l0 k l l.length w) (Hd.flatB l)) : ∀ i : Int, i ≤ l.length → 0 ≤ i →
  Ev (fun k => impl_flat.l1 k l (w - 1) (Hd.mmN (Hd.ybits l w).testBit l.length i.toNat).1 (Hd.mmN (Hd.ybits l w).testBit l.length i.toNat).2.1 (Hd.mmN (Hd.ybits l w).testBit l.length i.toNat).2.2 l.length (w - 1) l.length i) (Hd.flatB l) := by
 have h8 := t.1
 refine Hd.down ?_
 intro i hi ih h0
 refine impl_flat.l1.ev ?_
 have bd := Hd.mmN_bd (Hd.ybits l w).testBit l.length i.toNat
 by_cases hlt : i < l.length
 ·have nx := ih hlt (by omega)
  rw [show (i + 1).toNat = i.toNat + 1 from by omega] at nx
  rw [wid (x := i + 1) (by omega) (by omega), wid (x := w - 1 + 1) (by omega) (by omega), show w - 1 + 1 = w from by omega]
  refine Ev.pos hlt (Ev.bind (impl_under_ev t (by omega) (by omega) w) ?_)
  have bit : (Hd.ybits l w).testBit i.toNat = Hd.undB l (i + 1) w := by
   unfold Hd.ybits
   rw [Hd.ysum_bit, decide_eq_true (show i.toNat < l.length by omega), Bool.true_and]
   congr 1; omega
  rw [Hd.mmN, bit, show ((i.toNat : Nat) : Int) = i from by omega] at nx
  rw [wid (x := (Hd.mmN (Hd.ybits l w).testBit l.length i.toNat).1 + 1) (by omega) (by omega)]
  by_cases hu : Hd.undB l (i + 1) w = true
  ·rw [if_pos hu] at nx
   exact Ev.pos hu nx
  ·rw [if_neg hu] at nx
   exact Ev.neg hu nx
 ·have e : i.toNat = l.length := by omega
  rw [e] at bd ⊢
  have hp := t.2.pos
  have row := Hd.mmN_row l.length (by omega) (Hd.ybits l w) (Hd.ysum_lt _ _) (Hd.ybits_pos h1 h2)
  generalize Hd.mmN (Hd.ybits l w).testBit l.length l.length = mm at *
  rw [wid (x := mm.2.2 - mm.2.1) (by omega) (by omega), wid (x := mm.2.2 - mm.2.1 + 1) (by omega) (by omega), wid (x := w - 1 + 1) (by omega) (by omega), show w - 1 + 1 = w from by omega]
  refine Ev.neg hlt ?_
  by_cases hr : Hd.rowM (Hd.ybits l w) = true
  ·rw [hr] at row
   exact Ev.pos (by simpa using row) (next hr)
  ·rw [Bool.not_eq_true] at hr
   rw [hr] at row
   refine Ev.neg (by simpa using row) (Ev.ret ?_)
   cases hc : Hd.flatB l with
   | false => rfl
   | true =>
    have := (Hd.row_masks t).1 (Hd.flatB_true.1 hc).2 w h1 h2
    rw [hr] at this; cases this
theorem impl_flat_l0 {l : List Int} (t : Hd.T l) : ∀ i : Int, i ≤ l.length → 0 ≤ i → (∀ w : Int, 1 ≤ w → w ≤ i → Hd.rowM (Hd.ybits l w) = true) → Ev (fun k => impl_flat.l0 k l l.length i) (Hd.flatB l) := by
 have h8 := t.1
 refine Hd.down ?_
 intro i hi ih h0 hall
 refine impl_flat.l0.ev ?_
 by_cases hlt : i < l.length
 ·refine Ev.pos hlt ?_
  have := impl_flat_l1 t (w := i + 1) (by omega) (by omega) (fun hr => ih hlt (by omega) (fun w k1 k2 => by
   by_cases e : w = i + 1
   ·rw [e]; exact hr
   ·exact hall w k1 (by omega))) 0 (by omega) (by omega)
  rw [show i + 1 - 1 = i from by omega] at this
  exact this
 ·refine Ev.neg hlt (Ev.ret ?_)
  exact (Hd.flatB_true.2 ⟨t, (Hd.row_masks t).2 fun w k1 k2 => hall w k1 (by omega)⟩).symm
theorem impl_flat_ev {l : List Int} (t : Hd.T l) : Ev (fun k => impl_flat.f k l) (Hd.flatB l) := impl_flat_l0 t 0 (by omega) (by omega) (fun w k1 k2 => by omega)

/-! impl_FlatOk -/

theorem impl_FlatOk_ev (l : List Int) : Ev (fun k => impl_FlatOk.f k l) (Hd.flatB l) := by
 unfold impl_FlatOk.f
 refine Ev.bind (impl_TreeOk_ev l) ?_
 by_cases t : Hd.T l
 ·exact Ev.pos (Hd.treeB_yes t) (Ev.bind (impl_flat_ev t) (Ev.now _))
 ·refine Ev.neg (by rw [Hd.treeB_no t]; simp) (Ev.ret ?_)
  cases hc : Hd.flatB l with
  | false => rfl
  | true => exact absurd (Hd.flatB_true.1 hc).1 t

/-! impl_PlaceOf -/

theorem idxR_none {h : List Int} : ∀ {zs : List (List Int)} {i : Int}, h ∉ zs → Plc.idxR h zs i = -1
 | [], _, _ => rfl
 | z :: zs, i, hn => by
  rw [Plc.idxR, if_neg (fun e => hn (by simp [e])), idxR_none (fun e => hn (by simp [e]))]
theorem idxR_some {h : List Int} : ∀ {zs : List (List Int)} {i : Int} {r : Nat}, zs[r]? = some h → (∀ j, j < r → zs[j]? ≠ some h) → Plc.idxR h zs i = i + r
 | [], i, r, e, _ => by simp at e
 | z :: zs, i, 0, e, _ => by
  have : z = h := by simpa using e
  rw [Plc.idxR, if_pos this]; simp
 | z :: zs, i, r + 1, e, hn => by
  have h0 : z ≠ h := fun c => hn 0 (by omega) (by simp [c])
  rw [Plc.idxR, if_neg h0, idxR_some (r := r) (by simpa using e) (fun j hj => by have := hn (j + 1) (by omega); simpa using this)]
  push_cast; omega
theorem idx_F {n r : Nat} {h : List Nat} (hn : n ≤ 6) (e : (Hd.tF n)[r]? = some h) : Plc.idxR (Hd.toI h) (RL (Hd.tF n)) 0 = r := by
 rw [idxR_some (r := r)]
 ·omega
 ·rw [RL, List.getElem?_map, e]; rfl
 ·intro j hj c
  rw [RL, List.getElem?_map] at c
  cases hz : (Hd.tF n)[j]? with
  | none => rw [hz] at c; cases c
  | some z =>
   rw [hz] at c
   have := Hd.toI_inj (Option.some.inj c)
   subst this
   have a := Hd.rank_at hn hz
   have b := Hd.rank_at hn e
   rw [a] at b
   have := Option.some.inj b
   omega
noncomputable def placeI (l : List Int) : Int := if Hd.flatB l = true ∧ l.length ≤ 6 then Plc.idxR l (RL (Hd.tF l.length)) 0 else -1
theorem impl_PlaceOf_ev (l : List Int) : Ev (fun k => impl_PlaceOf.f k l) (placeI l) := by
 unfold impl_PlaceOf.f placeI
 refine Ev.bind (impl_FlatOk_ev l) ?_
 by_cases f : Hd.flatB l = true
 ·refine Ev.pos f ?_
  by_cases h6 : l.length ≤ 6
  ·rw [if_pos ⟨f, h6⟩]
   exact Ev.pos h6 (Ev.bind (impl_flats_ev h6) (Ev.now _))
  ·rw [if_neg (fun c => h6 c.2)]
   exact Ev.neg h6 (Ev.now _)
 ·rw [if_neg (fun c => f c.1)]
  exact Ev.neg f (Ev.now _)

/-! spec_l1In -/

theorem spec_l1In_eq (a b c : Int) : spec_l1In.f a b c = some (decide (b ≤ a ∧ a ≤ c)) := by
 unfold spec_l1In.f
 by_cases h : a ≥ b
 ·rw [if_pos h]; simp [h]
 ·rw [if_neg h]; simp; intro; omega

/-! spec_TreeOk -/
theorem spec_TreeOk.l0.ev {x0 : List Int} {x3 : Int} {x4 : Int} {x5 : Int} {r : Bool} (h : Ev (fun k => if x5 < x3 then (if 0 ≤ x5 then (if x5 < (x0.length : Int) then ((spec_l1In.f (rd x0 x5) 0 x3).bind fun t199 => (if t199 = true then (spec_TreeOk.j1 k x0 x3 x4 x5 ((rd x0 x5) == (wrap64 (x5 + 1)))) else (spec_TreeOk.j1 k x0 x3 x4 x5 true))) else (none)) else (none)) else (some (x4 == 1))) r) : Ev (fun k => spec_TreeOk.l0 k x0 x3 x4 x5) r := Ev.step (fun _ => rfl) h
theorem spec_TreeOk.j1.ev {x0 : List Int} {x3 : Int} {x4 : Int} {x5 : Int} {x33 : Bool} {r : Bool} (h : Ev (fun k => if x33 = true then (some false) else (if 0 ≤ x5 then (if x5 < (x0.length : Int) then (if (rd x0 x5) = 0 then (spec_TreeOk.j2 k x0 x3 (wrap64 (x4 + 1)) x5) else (spec_TreeOk.j2 k x0 x3 x4 x5)) else (none)) else (none))) r) : Ev (fun k => spec_TreeOk.j1 k x0 x3 x4 x5 x33) r := Ev.step (fun _ => rfl) h
theorem spec_TreeOk.j2.ev {x0 : List Int} {x3 : Int} {x4 : Int} {x5 : Int} {r : Bool} (h : Ev (fun k => spec_TreeOk.l1 k x0 x3 x4 x5 (wrap64 (x5 + 1)) 0) r) : Ev (fun k => spec_TreeOk.j2 k x0 x3 x4 x5) r := Ev.step (fun _ => rfl) h
theorem spec_TreeOk.l1.ev {x0 : List Int} {x3 : Int} {x4 : Int} {x5 : Int} {x6 : Int} {x7 : Int} {r : Bool} (h : Ev (fun k => if x6 > 0 then (spec_TreeOk.j4 k x0 x3 x4 x5 x6 x7 (decide (x7 < x3))) else (spec_TreeOk.j4 k x0 x3 x4 x5 x6 x7 false)) r) : Ev (fun k => spec_TreeOk.l1 k x0 x3 x4 x5 x6 x7) r := Ev.step (fun _ => rfl) h
theorem spec_TreeOk.j4.ev {x0 : List Int} {x3 : Int} {x4 : Int} {x5 : Int} {x6 : Int} {x7 : Int} {x49 : Bool} {r : Bool} (h : Ev (fun k => if x49 = true then (if 0 ≤ (wrap64 (x6 - 1)) then (if (wrap64 (x6 - 1)) < (x0.length : Int) then ((spec_l1In.f (rd x0 (wrap64 (x6 - 1))) 0 x3).bind fun t203 => (if t203 = true then (spec_TreeOk.l1 k x0 x3 x4 x5 (rd x0 (wrap64 (x6 - 1))) (wrap64 (x7 + 1))) else (some false))) else (none)) else (none)) else (if x6 > 0 then (some false) else (spec_TreeOk.l0 k x0 x3 x4 (wrap64 (x5 + 1))))) r) : Ev (fun k => spec_TreeOk.j4 k x0 x3 x4 x5 x6 x7 x49) r := Ev.step (fun _ => rfl) h
theorem spec_TreeOk_l1 {l : List Int} (h8 : l.length ≤ 8) {c i : Int} (h0 : 0 ≤ i) (hlt : i < l.length)
  (next : Hd.it (Hd.hd l) l.length (i + 1) = 0 → Ev (fun k => spec_TreeOk.l0 k l l.length c (i + 1)) (Hd.treeB l)) :
  ∀ s : Int, s ≤ l.length → 0 ≤ s → ∀ a : Int, 0 ≤ a → a ≤ l.length → a = Hd.it (Hd.hd l) s.toNat (i + 1) → Ev (fun k => spec_TreeOk.l1 k l l.length c i a s) (Hd.treeB l) := by
 refine Hd.down ?_
 intro s hs ih h1 a ha1 ha2 ea
 refine spec_TreeOk.l1.ev ?_
 by_cases hz : a > 0
 ·refine Ev.pos hz (spec_TreeOk.j4.ev ?_)
  by_cases hsn : s < l.length
  ·rw [wid (x := a - 1) (by omega) (by omega), rd_hd (by omega), wid (x := s + 1) (by omega) (by omega)]
   refine Ev.pos (by simpa using hsn) (Ev.pos (by omega) (Ev.pos (by omega) (Ev.bindv (spec_l1In_eq _ _ _) ?_)))
   by_cases hin : 0 ≤ Hd.hd l a ∧ Hd.hd l a ≤ l.length
   ·refine Ev.pos (by simpa using hin) (ih hsn (by omega) _ hin.1 hin.2 ?_)
    rw [show (s + 1).toNat = s.toNat + 1 from by omega, Hd.it_succ, ← ea]
   ·refine Ev.neg (by simpa using hin) (Ev.ret ?_)
    exact (Hd.treeB_no fun t => hin (t.vals _ (by omega) (by omega))).symm
  ·refine Ev.neg (by simpa using hsn) (Ev.pos hz (Ev.ret ?_))
   refine (Hd.treeB_no fun t => ?_).symm
   have := t.2.back (i + 1) (by omega) (by omega)
   rw [show s.toNat = l.length from by omega, this] at ea
   omega
 ·refine Ev.neg hz (spec_TreeOk.j4.ev (Ev.neg (by simp) (Ev.neg hz ?_)))
  rw [wid (x := i + 1) (by omega) (by omega)]
  exact next (Hd.it_more (Hd.hd_zero l) (j := s.toNat) (by omega) (by omega))
theorem spec_TreeOk_l0 {l : List Int} (h8 : l.length ≤ 8) : ∀ i : Int, i ≤ l.length → 0 ≤ i → (∀ a : Int, 1 ≤ a → a ≤ i → (0 ≤ Hd.hd l a ∧ Hd.hd l a ≤ l.length) ∧ Hd.it (Hd.hd l) l.length a = 0) →
  Ev (fun k => spec_TreeOk.l0 k l l.length (Hd.zeros l i.toNat) i) (Hd.treeB l) := by
 refine Hd.down ?_
 intro i hi ih h0 hb
 refine spec_TreeOk.l0.ev ?_
 by_cases hlt : i < l.length
 ·have hz := Hd.cnt_le (fun a => decide (Hd.hd l a = 0)) i.toNat
  have hzz : Hd.zeros l (i + 1).toNat = Hd.zeros l i.toNat + if Hd.hd l (i + 1) = 0 then 1 else 0 := by
   rw [show (i + 1).toNat = i.toNat + 1 from by omega]
   show Hd.cnt _ (i.toNat + 1) = _
   rw [Hd.cnt, show ((i.toNat : Int) + 1) = i + 1 from by omega]
   simp [Hd.zeros]
  have hz' : Hd.zeros l i.toNat ≤ i.toNat := hz
  rw [rd_hd1 h0, wid (x := i + 1) (by omega) (by omega)]
  refine Ev.pos hlt (Ev.pos h0 (Ev.pos hlt (Ev.bindv (spec_l1In_eq _ _ _) ?_)))
  by_cases hin : 0 ≤ Hd.hd l (i + 1) ∧ Hd.hd l (i + 1) ≤ l.length
  ·refine Ev.pos (by simpa using hin) (spec_TreeOk.j1.ev ?_)
   by_cases hown : Hd.hd l (i + 1) = i + 1
   ·refine Ev.pos (by simpa using hown) (Ev.ret ?_)
    exact (Hd.treeB_no fun t => t.2.not_own (a := i + 1) (by omega) hown).symm
   ·refine Ev.neg (by simpa using hown) (Ev.pos h0 (Ev.pos hlt ?_))
    rw [rd_hd1 h0, wid (x := (Hd.zeros l i.toNat : Int) + 1) (by omega) (by omega)]
    have next : Hd.it (Hd.hd l) l.length (i + 1) = 0 → Ev (fun k => spec_TreeOk.l0 k l l.length (Hd.zeros l (i + 1).toNat) (i + 1)) (Hd.treeB l) := fun hit =>
     ih hlt (by omega) (fun a h1 h2 => by
      by_cases e : a = i + 1
      ·rw [e]; exact ⟨hin, hit⟩
      ·exact hb a h1 (by omega))
    rw [hzz] at next
    by_cases h00 : Hd.hd l (i + 1) = 0
    ·rw [if_pos h00] at next
     refine Ev.pos h00 (spec_TreeOk.j2.ev ?_)
     rw [wid (x := i + 1) (by omega) (by omega)]
     exact spec_TreeOk_l1 h8 h0 hlt next 0 (by omega) (by omega) (i + 1) (by omega) (by omega) rfl
    ·rw [if_neg h00] at next
     refine Ev.neg h00 (spec_TreeOk.j2.ev ?_)
     rw [wid (x := i + 1) (by omega) (by omega)]
     exact spec_TreeOk_l1 h8 h0 hlt next 0 (by omega) (by omega) (i + 1) (by omega) (by omega) rfl
  ·refine Ev.neg (by simpa using hin) (spec_TreeOk.j1.ev (Ev.pos rfl (Ev.ret ?_)))
   exact (Hd.treeB_no fun t => hin (t.vals _ (by omega) (by omega))).symm
 ·refine Ev.neg hlt (Ev.ret ?_)
  have e : i.toNat = l.length := by omega
  rw [e]
  have t := Hd.T_iff h8 (fun a h1 h2 => (hb a h1 (by omega)).1) (fun a h1 h2 => (hb a h1 (by omega)).2)
  by_cases e : Hd.zeros l l.length = 1
  ·rw [Hd.treeB_yes (t.2 e), e]; rfl
  ·rw [Hd.treeB_no (fun x => e (t.1 x))]; simp; omega
theorem spec_TreeOk_ev (l : List Int) : Ev (fun k => spec_TreeOk.f k l) (Hd.treeB l) := by
 unfold spec_TreeOk.f
 refine Ev.bindv (spec_l1In_eq _ _ _) ?_
 by_cases h : 1 ≤ (l.length : Int) ∧ (l.length : Int) ≤ 8
 ·refine Ev.pos (by simpa using h) ?_
  exact spec_TreeOk_l0 (by omega) 0 (by omega) (by omega) (fun a h1 h2 => by omega)
 ·refine Ev.neg (by simpa using h) (Ev.ret ?_)
  exact (Hd.treeB_no fun t => by have := t.1; have := t.2.pos; omega).symm

/-! spec_l3Row -/
theorem spec_l3Row.l0.ev {x0 : Int} {r : Bool} (h : Ev (fun k => if (Int.tmod x0 2) = 0 then (spec_l3Row.l0 k (wrap64 (Int.tdiv x0 2))) else (some ((Go.bits .and .i64 x0 (wrap64 (x0 + 1))) == 0))) r) : Ev (fun k => spec_l3Row.l0 k x0) r := Ev.step (fun _ => rfl) h
theorem spec_l3Row_all : ∀ (d s : Nat), s < 256 → s ≠ 0 → s ≤ d → Ev (fun k => spec_l3Row.l0 k (s : Int)) (Hd.rowM s)
 | 0, s, _, h0, h => by omega
 | d + 1, s, hs, h0, h => by
  refine spec_l3Row.l0.ev ?_
  have e1 : Int.tmod (s : Int) 2 = ((s % 2 : Nat) : Int) := by rw [Int.tmod_eq_emod_of_nonneg (by omega)]; simp
  have e2 : Int.tdiv (s : Int) 2 = ((s / 2 : Nat) : Int) := by rw [Int.tdiv_eq_ediv_of_nonneg (by omega)]; simp
  rw [e1, e2, wid (x := ((s / 2 : Nat) : Int)) (by omega) (by omega), wid (x := (s : Int) + 1) (by omega) (by omega)]
  by_cases h2 : s % 2 = 0
  ·rw [← Hd.rowM_even s hs h2]
   exact Ev.pos (by omega) (spec_l3Row_all d (s / 2) (by omega) (by omega) (by omega))
  ·refine Ev.neg (by omega) (Ev.ret ?_)
   rw [← Hd.rowM_odd s hs (by omega), show ((s : Int) + 1) = ((s + 1 : Nat) : Int) from by omega, h_and_i64 (by omega) (by omega)]
   exact bool_eq (by simp only [beq_iff_eq]; omega)
theorem spec_l3Row_ev {s : Nat} (hs : s < 256) (h0 : s ≠ 0) : Ev (fun k => spec_l3Row.f k (s : Int)) (Hd.rowM s) := spec_l3Row_all s s hs h0 (by omega)

/-! spec_l2Yield -/
theorem spec_l2Yield.l0.ev {x0 : List Int} {x1 : Int} {x5 : Int} {x6 : Int} {r : Int} (h : Ev (fun k => if x6 < (x0.length : Int) then (if 0 ≤ x6 then (if (rd x0 x6) = x1 then ((spec_l2Yield.f k x0 (wrap64 (x6 + 1))).bind fun t205 => (spec_l2Yield.l0 k x0 x1 (Go.bits .or .i64 x5 t205) (wrap64 (x6 + 1)))) else (spec_l2Yield.l0 k x0 x1 x5 (wrap64 (x6 + 1)))) else (none)) else (some x5)) r) : Ev (fun k => spec_l2Yield.l0 k x0 x1 x5 x6) r := Ev.step (fun _ => rfl) h
theorem spec_l2Yield.f.ev {l0 : List Int} {a1 : Int} {r : Int} (h : Ev (fun k => if 0 ≤ (wrap64 (a1 - 1)) then (spec_l2Yield.l0 k l0 a1 (shl .i64 1 (wrap64 (a1 - 1))) 0) else (none)) r) : Ev (fun k => spec_l2Yield.f k l0 a1) r := Ev.step (fun _ => rfl) h
theorem spec_l2Yield_l0 {l : List Int} (t : Hd.T l) {w : Int} (hw : 1 ≤ w ∧ w ≤ l.length)
  (rec : ∀ c : Int, 1 ≤ c → c ≤ l.length → Hd.hd l c = w → Ev (fun k => spec_l2Yield.f k l c) (Hd.ybits l c : Int)) :
  ∀ i : Int, i ≤ l.length → 0 ≤ i → ∀ q : Int → Bool, (∀ x, q x = true ↔ x = w ∨ ∃ c, (1 ≤ c ∧ c ≤ i) ∧ Hd.hd l c = w ∧ Hd.Und (Hd.hd l) x c) →
  Ev (fun k => spec_l2Yield.l0 k l w (Hd.ysum q l.length : Int) i) (Hd.ybits l w : Int) := by
 refine Hd.down ?_
 intro i hi ih h0 q hq
 have h8 := t.1
 refine spec_l2Yield.l0.ev ?_
 by_cases hlt : i < l.length
 ·rw [wid (x := i + 1) (by omega) (by omega), rd_hd1 h0]
  refine Ev.pos hlt (Ev.pos h0 ?_)
  by_cases hc : Hd.hd l (i + 1) = w
  ·refine Ev.pos hc (Ev.bind (rec (i + 1) (by omega) (by omega) hc) ?_)
   unfold Hd.ybits at *
   rw [h_or_i64 (Hd.ysum_le h8) (Hd.ysum_le h8), Hd.ysum_or]
   refine ih hlt (by omega) _ fun x => ?_
   rw [Bool.or_eq_true, hq, Hd.undB_true]
   constructor
   ·rintro ((e | ⟨c, h1, h2, h3⟩) | u)
    ·exact .inl e
    ·exact .inr ⟨c, ⟨h1.1, by omega⟩, h2, h3⟩
    ·exact .inr ⟨i + 1, ⟨by omega, by omega⟩, hc, u⟩
   ·rintro (e | ⟨c, h1, h2, h3⟩)
    ·exact .inl (.inl e)
    ·by_cases e : c = i + 1
     ·subst e; exact .inr h3
     ·exact .inl (.inr ⟨c, ⟨h1.1, by omega⟩, h2, h3⟩)
  ·refine Ev.neg hc (ih hlt (by omega) q fun x => ?_)
   rw [hq]
   constructor
   ·rintro (e | ⟨c, h1, h2, h3⟩)
    ·exact .inl e
    ·exact .inr ⟨c, ⟨h1.1, by omega⟩, h2, h3⟩
   ·rintro (e | ⟨c, h1, h2, h3⟩)
    ·exact .inl e
    ·by_cases e : c = i + 1
     ·subst e; exact absurd h2 hc
     ·exact .inr ⟨c, ⟨h1.1, by omega⟩, h2, h3⟩
 ·refine Ev.neg hlt (Ev.ret ?_)
  unfold Hd.ybits
  congr 1
  refine Hd.ysum_congr fun a h1 h2 => bool_eq ?_
  rw [hq, Hd.undB_true, Hd.und_child t.2 hw]
  constructor
  ·rintro (e | ⟨c, h1, h2, h3⟩)
   ·exact .inl e
   ·exact .inr ⟨c, ⟨h1.1, by omega⟩, h2, h3⟩
  ·rintro (e | ⟨c, h1, h2, h3⟩)
   ·exact .inl e
   ·exact .inr ⟨c, ⟨h1.1, by omega⟩, h2, h3⟩
theorem spec_l2Yield_all {l : List Int} (t : Hd.T l) : ∀ (d : Nat) (w : Int), 1 ≤ w → w ≤ l.length → l.length ≤ d + Hd.dep l.length (Hd.hd l) w → Ev (fun k => spec_l2Yield.f k l w) (Hd.ybits l w : Int)
 | 0, w, h1, h2, h3 => by have := t.2.dep_lt ⟨h1, h2⟩; omega
 | d + 1, w, h1, h2, h3 => by
  have h8 := t.1
  refine spec_l2Yield.f.ev ?_
  rw [wid (x := w - 1) (by omega) (by omega)]
  refine Ev.pos (by omega) ?_
  obtain ⟨v, rfl⟩ : ∃ v : Nat, w = (v : Int) + 1 := ⟨(w - 1).toNat, by omega⟩
  rw [show ((v : Int) + 1 - 1) = (v : Int) from by omega, h_shl_one (by omega), Hd.ysum_one (m := l.length) (by omega)]
  refine spec_l2Yield_l0 t ⟨h1, h2⟩ (fun c k1 k2 e => spec_l2Yield_all t d c k1 k2 ?_) 0 (by omega) (by omega) _ fun x => ?_
  ·have := t.2.dep_head (a := c) (by omega)
   rw [e] at this
   omega
  ·simp; intro c _ _; omega
theorem spec_l2Yield_ev {l : List Int} (t : Hd.T l) {w : Int} (h1 : 1 ≤ w) (h2 : w ≤ l.length) : Ev (fun k => spec_l2Yield.f k l w) (Hd.ybits l w : Int) :=
 spec_l2Yield_all t l.length w h1 h2 (by omega)
theorem ybits_at {l : List Int} (t : Hd.T l) {a w : Int} (h1 : 1 ≤ a) (h2 : a ≤ l.length) : (Int.tmod (shr .i64 (Hd.ybits l w : Int) (a - 1)) 2 = 1) ↔ Hd.undB l a w = true := by
 have h8 := t.1
 obtain ⟨v, rfl⟩ : ∃ v : Nat, a = (v : Int) + 1 := ⟨(a - 1).toNat, by omega⟩
 rw [show ((v : Int) + 1 - 1) = (v : Int) from by omega, h_shr_bit (by omega)]
 unfold Hd.ybits
 rw [Hd.ysum_bit, show decide (v < l.length) = true from by simp; omega, Bool.true_and]

/-! spec_FlatOk -/
theorem spec_FlatOk.l0.ev {x0 : List Int} {x3 : Int} {r : Bool} (h : Ev (fun k => if x3 ≤ (x0.length : Int) then ((spec_TreeOk.f k x0).bind fun t206 => (spec_FlatOk.j1 k x0 x3 t206)) else (spec_FlatOk.j1 k x0 x3 false)) r) : Ev (fun k => spec_FlatOk.l0 k x0 x3) r := Ev.step (fun _ => rfl) h
theorem spec_FlatOk.j1.ev {x0 : List Int} {x3 : Int} {x11 : Bool} {r : Bool} (h : Ev (fun k => if x11 = true then ((spec_l2Yield.f k x0 x3).bind fun t208 => ((spec_l3Row.f k t208).bind fun t209 => (if t209 = true then (spec_FlatOk.l0 k x0 (wrap64 (x3 + 1))) else (some false)))) else ((spec_TreeOk.f k x0).bind fun t207 => (some t207))) r) : Ev (fun k => spec_FlatOk.j1 k x0 x3 x11) r := Ev.step (fun _ => rfl) h
theorem spec_FlatOk_l0 {l : List Int} (t : Hd.T l) : ∀ i : Int, i ≤ (l.length : Int) + 1 → 1 ≤ i → (∀ w : Int, 1 ≤ w → w < i → Hd.rowM (Hd.ybits l w) = true) → Ev (fun k => spec_FlatOk.l0 k l i) (Hd.flatB l) := by
 have h8 := t.1
 refine Hd.down ?_
 intro i hi ih h1 hall
 refine spec_FlatOk.l0.ev ?_
 by_cases hle : i ≤ (l.length : Int)
 ·refine Ev.pos hle (Ev.bind (spec_TreeOk_ev l) (spec_FlatOk.j1.ev (Ev.pos (Hd.treeB_yes t) (Ev.bind (spec_l2Yield_ev t h1 hle) (Ev.bind (spec_l3Row_ev (Hd.ysum_le h8) (Hd.ybits_pos h1 hle)) ?_)))))
  rw [wid (x := i + 1) (by omega) (by omega)]
  by_cases hr : Hd.rowM (Hd.ybits l i) = true
  ·refine Ev.pos hr (ih (by omega) (by omega) fun w k1 k2 => ?_)
   by_cases e : w = i
   ·rw [e]; exact hr
   ·exact hall w k1 (by omega)
  ·refine Ev.neg hr (Ev.ret ?_)
   cases hc : Hd.flatB l with
   | false => rfl
   | true => exact absurd ((Hd.row_masks t).1 (Hd.flatB_true.1 hc).2 i h1 hle) hr
 ·refine Ev.neg hle (spec_FlatOk.j1.ev (Ev.neg (by simp) (Ev.bind (spec_TreeOk_ev l) (Ev.ret ?_))))
  rw [Hd.treeB_yes t]
  exact (Hd.flatB_true.2 ⟨t, (Hd.row_masks t).2 fun w k1 k2 => hall w k1 (by omega)⟩).symm
theorem spec_FlatOk_ev (l : List Int) : Ev (fun k => spec_FlatOk.f k l) (Hd.flatB l) := by
 unfold spec_FlatOk.f
 by_cases t : Hd.T l
 ·exact spec_FlatOk_l0 t 1 (by omega) (by omega) (fun w k1 k2 => by omega)
 ·have hf : Hd.flatB l = Hd.treeB l := by
   rw [Hd.treeB_no t]
   cases hc : Hd.flatB l with
   | false => rfl
   | true => exact absurd (Hd.flatB_true.1 hc).1 t
  rw [hf]
  have hn : ¬ Hd.treeB l = true := by rw [Hd.treeB_no t]; simp
  refine spec_FlatOk.l0.ev ?_
  by_cases hl : (1 : Int) ≤ l.length
  ·exact Ev.pos hl (Ev.bind (spec_TreeOk_ev l) (spec_FlatOk.j1.ev (Ev.neg hn (Ev.bind (spec_TreeOk_ev l) (Ev.now _)))))
  ·exact Ev.neg hl (spec_FlatOk.j1.ev (Ev.neg (by simp) (Ev.bind (spec_TreeOk_ev l) (Ev.now _))))

/-! spec_l4Rows -/
theorem spec_l4Rows.l0.ev {x0 : Int} {x3 : Int} {x4 : Int} {r : Int} (h : Ev (fun k => if x4 ≤ x0 then ((spec_l4Flat.f k x4).bind fun t212 => ((spec_l4Rows.f k (wrap64 (x0 - x4))).bind fun t213 => (spec_l4Rows.l0 k x0 (wrap64 (x3 + (wrap64 (t212 * t213)))) (wrap64 (x4 + 1))))) else (some x3)) r) : Ev (fun k => spec_l4Rows.l0 k x0 x3 x4) r := Ev.step (fun _ => rfl) h
theorem spec_l4Rows.f.ev {a0 : Int} {r : Int} (h : Ev (fun k => if a0 = 0 then (some 1) else (spec_l4Rows.l0 k a0 0 1)) r) : Ev (fun k => spec_l4Rows.f k a0) r := Ev.step (fun _ => rfl) h
theorem spec_l4Flat.l0.ev {x0 : Int} {x3 : Int} {x4 : Int} {r : Int} (h : Ev (fun k => if x4 < x0 then ((spec_l4Rows.f k x4).bind fun t210 => ((spec_l4Rows.f k (wrap64 ((wrap64 (x0 - 1)) - x4))).bind fun t211 => (spec_l4Flat.l0 k x0 (wrap64 (x3 + (wrap64 (t210 * t211)))) (wrap64 (x4 + 1))))) else (some x3)) r) : Ev (fun k => spec_l4Flat.l0 k x0 x3 x4) r := Ev.step (fun _ => rfl) h
theorem spec_l4Flat.f.ev {a0 : Int} {r : Int} (h : Ev (fun k => spec_l4Flat.l0 k a0 0 0) r) : Ev (fun k => spec_l4Flat.f k a0) r := Ev.step (fun _ => rfl) h
set_option maxRecDepth 100000 in
theorem spec_l4Rows_in {a : Int} (h0 : 0 ≤ a) (h1 : a ≤ 6) : Ev (fun k => spec_l4Rows.f k a) (rowsN a) := by
 have h : a = 0 ∨ a = 1 ∨ a = 2 ∨ a = 3 ∨ a = 4 ∨ a = 5 ∨ a = 6 := by omega
 rcases h with rfl | rfl | rfl | rfl | rfl | rfl | rfl
 ·exact Ev.lit 80 fun m => by kernel_rfl
 ·exact Ev.lit 80 fun m => by kernel_rfl
 ·exact Ev.lit 80 fun m => by kernel_rfl
 ·exact Ev.lit 80 fun m => by kernel_rfl
 ·exact Ev.lit 80 fun m => by kernel_rfl
 ·exact Ev.lit 80 fun m => by kernel_rfl
 ·exact Ev.lit 80 fun m => by kernel_rfl

/-! spec_l4Flat -/

set_option maxRecDepth 100000 in
theorem spec_l4Flat_in {a : Int} (h0 : 1 ≤ a) (h1 : a ≤ 6) : Ev (fun k => spec_l4Flat.f k a) (flatN a) := by
 have h : a = 1 ∨ a = 2 ∨ a = 3 ∨ a = 4 ∨ a = 5 ∨ a = 6 := by omega
 rcases h with rfl | rfl | rfl | rfl | rfl | rfl
 ·exact Ev.lit 80 fun m => by kernel_rfl
 ·exact Ev.lit 80 fun m => by kernel_rfl
 ·exact Ev.lit 80 fun m => by kernel_rfl
 ·exact Ev.lit 80 fun m => by kernel_rfl
 ·exact Ev.lit 80 fun m => by kernel_rfl
 ·exact Ev.lit 80 fun m => by kernel_rfl

/-! spec_l4RowRank -/
theorem spec_l4RowRank.l0.ev {x0 : List Int} {x1 : Int} {x2 : Int} {x3 : Int} {x9 : Int} {r : Int} (h : Ev (fun k => if 0 ≤ (wrap64 (x9 - 1)) then (if (wrap64 (x9 - 1)) < (x0.length : Int) then (if (rd x0 (wrap64 (x9 - 1))) = x3 then (spec_l4RowRank.l1 k x0 x1 x2 x3 x9 x1) else (spec_l4RowRank.l0 k x0 x1 x2 x3 (wrap64 (x9 + 1)))) else (none)) else (none)) r) : Ev (fun k => spec_l4RowRank.l0 k x0 x1 x2 x3 x9) r := Ev.step (fun _ => rfl) h
theorem spec_l4RowRank.j2.ev {x0 : List Int} {x1 : Int} {x2 : Int} {x3 : Int} {x9 : Int} {x10 : Int} {r : Int} (h : Ev (fun k => spec_l4RowRank.l2 k x0 x1 x2 x3 x9 x10 0 x1) r) : Ev (fun k => spec_l4RowRank.j2 k x0 x1 x2 x3 x9 x10) r := Ev.step (fun _ => rfl) h
theorem spec_l4RowRank.l2.ev {x0 : List Int} {x1 : Int} {x2 : Int} {x3 : Int} {x9 : Int} {x10 : Int} {x11 : Int} {x12 : Int} {r : Int} (h : Ev (fun k => if x12 < x10 then ((spec_l4Flat.f k (wrap64 ((wrap64 (x12 - x1)) + 1))).bind fun t216 => ((spec_l4Rows.f k (wrap64 (x2 - x12))).bind fun t217 => (spec_l4RowRank.l2 k x0 x1 x2 x3 x9 x10 (wrap64 (x11 + (wrap64 (t216 * t217)))) (wrap64 (x12 + 1))))) else ((spec_l4TreeRank.f k x0 x1 x10 x9).bind fun t218 => ((spec_l4Rows.f k (wrap64 (x2 - x10))).bind fun t219 => ((spec_l4RowRank.f k x0 (wrap64 (x10 + 1)) x2 x3).bind fun t220 => (some (wrap64 ((wrap64 (x11 + (wrap64 (t218 * t219)))) + t220))))))) r) : Ev (fun k => spec_l4RowRank.l2 k x0 x1 x2 x3 x9 x10 x11 x12) r := Ev.step (fun _ => rfl) h
theorem spec_l4RowRank.l1.ev {x0 : List Int} {x1 : Int} {x2 : Int} {x3 : Int} {x9 : Int} {x10 : Int} {r : Int} (h : Ev (fun k => if x10 < x2 then ((spec_l2Yield.f k x0 x9).bind fun t215 => (if 0 ≤ x10 then (if (Int.tmod (shr .i64 t215 x10) 2) = 1 then (spec_l4RowRank.l1 k x0 x1 x2 x3 x9 (wrap64 (x10 + 1))) else (spec_l4RowRank.j2 k x0 x1 x2 x3 x9 x10)) else (none))) else (spec_l4RowRank.j2 k x0 x1 x2 x3 x9 x10)) r) : Ev (fun k => spec_l4RowRank.l1 k x0 x1 x2 x3 x9 x10) r := Ev.step (fun _ => rfl) h
theorem spec_l4RowRank.f.ev {l0 : List Int} {a1 : Int} {a2 : Int} {a3 : Int} {r : Int} (h : Ev (fun k => if a1 > a2 then (some 0) else (spec_l4RowRank.l0 k l0 a1 a2 a3 a1)) r) : Ev (fun k => spec_l4RowRank.f k l0 a1 a2 a3) r := Ev.step (fun _ => rfl) h
theorem spec_l4TreeRank.l0.ev {x0 : List Int} {x1 : Int} {x2 : Int} {x3 : Int} {x9 : Int} {x10 : Int} {r : Int} (h : Ev (fun k => if x10 < x3 then ((spec_l4Rows.f k (wrap64 (x10 - x1))).bind fun t221 => ((spec_l4Rows.f k (wrap64 (x2 - x10))).bind fun t222 => (spec_l4TreeRank.l0 k x0 x1 x2 x3 (wrap64 (x9 + (wrap64 (t221 * t222)))) (wrap64 (x10 + 1))))) else ((spec_l4RowRank.f k x0 x1 (wrap64 (x3 - 1)) x3).bind fun t223 => ((spec_l4Rows.f k (wrap64 (x2 - x3))).bind fun t224 => ((spec_l4RowRank.f k x0 (wrap64 (x3 + 1)) x2 x3).bind fun t225 => (some (wrap64 ((wrap64 (x9 + (wrap64 (t223 * t224)))) + t225))))))) r) : Ev (fun k => spec_l4TreeRank.l0 k x0 x1 x2 x3 x9 x10) r := Ev.step (fun _ => rfl) h
theorem spec_l4TreeRank.f.ev {l0 : List Int} {a1 : Int} {a2 : Int} {a3 : Int} {r : Int} (h : Ev (fun k => spec_l4TreeRank.l0 k l0 a1 a2 a3 0 a1) r) : Ev (fun k => spec_l4TreeRank.f k l0 a1 a2 a3) r := Ev.step (fun _ => rfl) h
theorem cF_eq {a : Nat} (h0 : 1 ≤ a) (h1 : a ≤ 6) : flatN (a : Int) = (Hd.cF a : Int) := by
 have h : a = 1 ∨ a = 2 ∨ a = 3 ∨ a = 4 ∨ a = 5 ∨ a = 6 := by omega
 rcases h with rfl | rfl | rfl | rfl | rfl | rfl <;> rfl
theorem cR_eq {a : Nat} (h1 : a ≤ 6) : rowsN (a : Int) = (Hd.cR a : Int) := by
 have h : a = 0 ∨ a = 1 ∨ a = 2 ∨ a = 3 ∨ a = 4 ∨ a = 5 ∨ a = 6 := by omega
 rcases h with rfl | rfl | rfl | rfl | rfl | rfl | rfl <;> rfl
theorem l4Flat_nat {a : Nat} (h0 : 1 ≤ a) (h1 : a ≤ 6) : Ev (fun k => spec_l4Flat.f k (a : Int)) (Hd.cF a : Int) := by
 have := spec_l4Flat_in (a := (a : Int)) (by omega) (by omega)
 rwa [cF_eq h0 h1] at this
theorem l4Rows_nat {a : Nat} (h1 : a ≤ 6) : Ev (fun k => spec_l4Rows.f k (a : Int)) (Hd.cR a : Int) := by
 have := spec_l4Rows_in (a := (a : Int)) (by omega) (by omega)
 rwa [cR_eq h1] at this
theorem cF_le (a : Nat) : Hd.cF a ≤ 728 := by unfold Hd.cF; split <;> omega
theorem cR_le (a : Nat) : Hd.cR a ≤ 1428 := by unfold Hd.cR; split <;> omega
theorem rd_hN {h : List Nat} {a : Nat} (h1 : 1 ≤ a) : rd (Hd.toI h) ((a : Int) - 1) = (Hd.hN h a : Int) := by
 rw [rd_hd (by omega), Hd.hd_toI]
theorem fst_le (h : List Nat) (head : Nat) : ∀ f a, a ≤ Hd.fstN h head f a ∧ Hd.fstN h head f a ≤ a + f
 | 0, a => by rw [Hd.fstN]; omega
 | f + 1, a => by
  have := fst_le h head f (a + 1)
  rw [Hd.fstN]
  split <;> omega
theorem end_le (h : List Nat) (first : Nat) : ∀ f e, e ≤ Hd.endN h first f e ∧ Hd.endN h first f e ≤ e + f
 | 0, e => by rw [Hd.endN]; omega
 | f + 1, e => by
  have := end_le h first f (e + 1)
  rw [Hd.endN]
  split <;> omega
theorem rank_l0 {h : List Nat} (h6 : h.length ≤ 6) {lo hi head : Nat} {r : Int} : ∀ f a, 1 ≤ a → a + f ≤ h.length → Hd.hN h (Hd.fstN h head f a) = head → Ev (fun k => spec_l4RowRank.l1 k (Hd.toI h) lo hi head (Hd.fstN h head f a : Nat) lo) r → Ev (fun k => spec_l4RowRank.l0 k (Hd.toI h) lo hi head a) r
 | 0, a, h1, h2, he, e => by
  have tl := Hd.toI_len h
  rw [Hd.fstN] at he e
  refine spec_l4RowRank.l0.ev ?_
  rw [wid (x := (a : Int) - 1) (by omega) (by omega), rd_hN h1]
  exact Ev.pos (by omega) (Ev.pos (by omega) (Ev.pos (by omega) e))
 | f + 1, a, h1, h2, he, e => by
  have tl := Hd.toI_len h
  refine spec_l4RowRank.l0.ev ?_
  rw [wid (x := (a : Int) - 1) (by omega) (by omega), rd_hN h1, wid (x := (a : Int) + 1) (by omega) (by omega)]
  refine Ev.pos (by omega) (Ev.pos (by omega) ?_)
  rw [Hd.fstN] at he e
  by_cases c : Hd.hN h a = head
  ·rw [if_pos (by rw [Nat.beq_eq]; exact c)] at e
   exact Ev.pos (by omega) e
  ·rw [if_neg (by rw [Nat.beq_eq]; exact c)] at he e
   exact Ev.neg (by omega) (rank_l0 h6 f (a + 1) (by omega) (by omega) he e)
theorem rank_l1 {h : List Nat} (t : Hd.T (Hd.toI h)) (h6 : h.length ≤ 6) {lo hi head first : Nat} (hf : 1 ≤ first ∧ first ≤ h.length) (hhi : hi ≤ h.length) {r : Int} : ∀ f e, e + f = hi → Ev (fun k => spec_l4RowRank.j2 k (Hd.toI h) lo hi head first (Hd.endN h first f e : Nat)) r → Ev (fun k => spec_l4RowRank.l1 k (Hd.toI h) lo hi head first e) r
 | 0, e, he, n => by
  rw [Hd.endN] at n
  exact spec_l4RowRank.l1.ev (Ev.neg (by omega) n)
 | f + 1, e, he, n => by
  have tl := Hd.toI_len h
  refine spec_l4RowRank.l1.ev (Ev.pos (by omega) (Ev.bind (spec_l2Yield_ev t (by omega) (by omega)) (Ev.pos (by omega) ?_)))
  have hb := ybits_at t (a := (e : Int) + 1) (w := (first : Int)) (by omega) (by omega)
  rw [show (e : Int) + 1 - 1 = (e : Int) by omega, Hd.undB_true, show (e : Int) + 1 = ((e + 1 : Nat) : Int) by omega, Hd.und_N t (f := 8) (by omega) (by omega) hf.1] at hb
  rw [wid (x := (e : Int) + 1) (by omega) (by omega)]
  rw [Hd.endN] at n
  by_cases c : Hd.undN h 8 (e + 1) first = true
  ·rw [if_pos c] at n
   exact Ev.pos (hb.2 c) (rank_l1 t h6 hf hhi f (e + 1) (by omega) n)
  ·rw [if_neg c] at n
   exact Ev.neg (fun x => c (hb.1 x)) n
theorem rank_l2 {h : List Nat} {lo hi head first e : Nat} (h6 : hi ≤ 6) (hlo : 1 ≤ lo) (heh : e ≤ hi) {r : Int} {S : Nat} (hS : S ≤ 100000) : ∀ c kk acc, kk + c = e → lo ≤ kk → acc + Hd.plSumR lo hi c kk = S → Ev (fun k => spec_l4RowRank.l2 k (Hd.toI h) lo hi head first e (S : Nat) e) r → Ev (fun k => spec_l4RowRank.l2 k (Hd.toI h) lo hi head first e (acc : Nat) kk) r
 | 0, kk, acc, hk, hl, ha, n => by
  rw [Hd.plSumR] at ha
  rw [show kk = e by omega, show acc = S by omega]; exact n
 | c + 1, kk, acc, hk, hl, ha, n => by
  rw [Hd.plSumR] at ha
  have f1 := cF_le (kk - lo + 1)
  have f2 := cR_le (hi - kk)
  have f3 : Hd.cF (kk - lo + 1) * Hd.cR (hi - kk) ≤ 100000 := by omega
  have hF := l4Flat_nat (a := kk - lo + 1) (by omega) (by omega)
  have hR := l4Rows_nat (a := hi - kk) (by omega)
  have nx := rank_l2 h6 hlo heh hS c (kk + 1) (acc + Hd.cF (kk - lo + 1) * Hd.cR (hi - kk)) (by omega) (by omega) (by omega) n
  have em : ((Hd.cF (kk - lo + 1) : Nat) : Int) * ((Hd.cR (hi - kk) : Nat) : Int) = ((Hd.cF (kk - lo + 1) * Hd.cR (hi - kk) : Nat) : Int) := by push_cast; rfl
  refine spec_l4RowRank.l2.ev ?_
  rw [wid (x := (kk : Int) - lo) (by omega) (by omega), wid (x := (kk : Int) - lo + 1) (by omega) (by omega), wid (x := (hi : Int) - kk) (by omega) (by omega), show (kk : Int) - lo + 1 = ((kk - lo + 1 : Nat) : Int) by omega, show (hi : Int) - kk = ((hi - kk : Nat) : Int) by omega, wid (x := (kk : Int) + 1) (by omega) (by omega)]
  refine Ev.pos (by omega) (Ev.bind hF (Ev.bind hR ?_))
  rw [em]
  generalize Hd.cF (kk - lo + 1) * Hd.cR (hi - kk) = z at f3 nx ha
  rw [wid (x := (z : Int)) (by omega) (by omega), wid (x := (acc : Int) + (z : Int)) (by omega) (by omega)]
  exact nx
theorem rank_t0 {h : List Nat} {lo hi root : Nat} (h6 : hi ≤ 6) (hlo : 1 ≤ lo) (heh : root ≤ hi) {r : Int} {S : Nat} (hS : S ≤ 100000) : ∀ c kk acc, kk + c = root → lo ≤ kk → acc + Hd.plSumT lo hi c kk = S → Ev (fun k => spec_l4TreeRank.l0 k (Hd.toI h) lo hi root (S : Nat) root) r → Ev (fun k => spec_l4TreeRank.l0 k (Hd.toI h) lo hi root (acc : Nat) kk) r
 | 0, kk, acc, hk, hl, ha, n => by
  rw [Hd.plSumT] at ha
  rw [show kk = root by omega, show acc = S by omega]; exact n
 | c + 1, kk, acc, hk, hl, ha, n => by
  rw [Hd.plSumT] at ha
  have f3 : Hd.cR (kk - lo) * Hd.cR (hi - kk) ≤ 100000 := by omega
  have hF := l4Rows_nat (a := kk - lo) (by omega)
  have hR := l4Rows_nat (a := hi - kk) (by omega)
  have nx := rank_t0 h6 hlo heh hS c (kk + 1) (acc + Hd.cR (kk - lo) * Hd.cR (hi - kk)) (by omega) (by omega) (by omega) n
  have em : ((Hd.cR (kk - lo) : Nat) : Int) * ((Hd.cR (hi - kk) : Nat) : Int) = ((Hd.cR (kk - lo) * Hd.cR (hi - kk) : Nat) : Int) := by push_cast; rfl
  refine spec_l4TreeRank.l0.ev ?_
  rw [wid (x := (kk : Int) - lo) (by omega) (by omega), wid (x := (hi : Int) - kk) (by omega) (by omega), show (kk : Int) - lo = ((kk - lo : Nat) : Int) by omega, show (hi : Int) - kk = ((hi - kk : Nat) : Int) by omega, wid (x := (kk : Int) + 1) (by omega) (by omega)]
  refine Ev.pos (by omega) (Ev.bind hF (Ev.bind hR ?_))
  rw [em]
  generalize Hd.cR (kk - lo) * Hd.cR (hi - kk) = z at f3 nx ha
  rw [wid (x := (z : Int)) (by omega) (by omega), wid (x := (acc : Int) + (z : Int)) (by omega) (by omega)]
  exact nx
theorem rank_both {h : List Nat} (t : Hd.T (Hd.toI h)) (h6 : h.length ≤ 6) : ∀ f : Nat,
  (∀ lo hi head r, Hd.rkRow f h lo hi head = some r → 1 ≤ lo → hi ≤ h.length → lo ≤ hi + 1 → Ev (fun k => spec_l4RowRank.f k (Hd.toI h) lo hi head) (r : Int)) ∧
  (∀ lo hi root r, Hd.rkTree f h lo hi root = some r → 1 ≤ lo → hi ≤ h.length → Ev (fun k => spec_l4TreeRank.f k (Hd.toI h) lo hi root) (r : Int))
 | 0 => ⟨fun _ _ _ _ e => by simp [Hd.rkRow] at e, fun _ _ _ _ e => by simp [Hd.rkTree] at e⟩
 | f + 1 => by
  obtain ⟨ihR, ihT⟩ := rank_both t h6 f
  refine ⟨fun lo hi head r e h1 h2 h3 => ?_, fun lo hi root r e h1 h2 => ?_⟩
  ·rw [Hd.rkRow] at e
   refine spec_l4RowRank.f.ev ?_
   by_cases c : hi < lo
   ·rw [if_pos c] at e
    obtain rfl := Option.some.inj e
    exact Ev.pos (by omega) (Ev.now _)
   rw [if_neg c] at e
   refine Ev.neg (by omega) ?_
   have hfst := fst_le h head (hi - lo) lo
   by_cases c2 : Nat.beq (Hd.hN h (Hd.fstN h head (hi - lo) lo)) head = true
   ·rw [if_pos c2] at e
    rw [Nat.beq_eq] at c2
    refine rank_l0 h6 (hi - lo) lo h1 (by omega) c2 ?_
    generalize Hd.fstN h head (hi - lo) lo = first at e hfst
    refine rank_l1 t h6 (by omega) h2 (hi - lo) lo (by omega) ?_
    have hend := end_le h first (hi - lo) lo
    generalize Hd.endN h first (hi - lo) lo = en at e hend
    obtain ⟨tt, ht, e⟩ := Option.bind_eq_some_iff.1 e
    obtain ⟨u, hu, e⟩ := Option.bind_eq_some_iff.1 e
    by_cases c3 : Hd.plSumR lo hi (en - lo) lo + tt * Hd.cR (hi - en) + u ≤ 100000
    ·rw [if_pos c3] at e
     obtain rfl := Option.some.inj e
     have T1 := ihT lo en first tt ht h1 (by omega)
     have R1 := ihR (en + 1) hi head u hu (by omega) h2 (by omega)
     have C1 := l4Rows_nat (a := hi - en) (by omega)
     refine spec_l4RowRank.j2.ev ?_
     refine rank_l2 (S := Hd.plSumR lo hi (en - lo) lo) (by omega) h1 (by omega) (by omega) (en - lo) lo 0 (by omega) (Nat.le_refl _) (Nat.zero_add _) ?_
     refine spec_l4RowRank.l2.ev (Ev.neg (by omega) (Ev.bind T1 ?_))
     rw [wid (x := (hi : Int) - en) (by omega) (by omega), show (hi : Int) - en = ((hi - en : Nat) : Int) by omega, wid (x := (en : Int) + 1) (by omega) (by omega), show (en : Int) + 1 = ((en + 1 : Nat) : Int) by omega]
     refine Ev.bind C1 (Ev.bind R1 (Ev.ret ?_))
     have em : ((tt : Nat) : Int) * ((Hd.cR (hi - en) : Nat) : Int) = ((tt * Hd.cR (hi - en) : Nat) : Int) := by push_cast; rfl
     rw [em]
     generalize tt * Hd.cR (hi - en) = z at c3
     generalize Hd.plSumR lo hi (en - lo) lo = y at c3
     rw [wid (x := (z : Int)) (by omega) (by omega), wid (x := (y : Int) + z) (by omega) (by omega), wid (by omega) (by omega)]
     push_cast; rfl
    ·rw [if_neg c3] at e; cases e
   ·rw [if_neg c2] at e; cases e
  ·rw [Hd.rkTree] at e
   refine spec_l4TreeRank.f.ev ?_
   by_cases c : lo ≤ root ∧ root ≤ hi
   ·rw [if_pos c] at e
    obtain ⟨tt, ht, e⟩ := Option.bind_eq_some_iff.1 e
    obtain ⟨u, hu, e⟩ := Option.bind_eq_some_iff.1 e
    by_cases c3 : Hd.plSumT lo hi (root - lo) lo + tt * Hd.cR (hi - root) + u ≤ 100000
    ·rw [if_pos c3] at e
     obtain rfl := Option.some.inj e
     have T1 := ihR lo (root - 1) root tt ht h1 (by omega) (by omega)
     have R1 := ihR (root + 1) hi root u hu (by omega) h2 (by omega)
     have C1 := l4Rows_nat (a := hi - root) (by omega)
     refine rank_t0 (S := Hd.plSumT lo hi (root - lo) lo) (by omega) h1 (by omega) (by omega) (root - lo) lo 0 (by omega) (Nat.le_refl _) (Nat.zero_add _) ?_
     refine spec_l4TreeRank.l0.ev (Ev.neg (by omega) ?_)
     rw [wid (x := (root : Int) - 1) (by omega) (by omega), show (root : Int) - 1 = ((root - 1 : Nat) : Int) by omega, wid (x := (hi : Int) - root) (by omega) (by omega), show (hi : Int) - root = ((hi - root : Nat) : Int) by omega, wid (x := (root : Int) + 1) (by omega) (by omega), show (root : Int) + 1 = ((root + 1 : Nat) : Int) by omega]
     refine Ev.bind T1 (Ev.bind C1 (Ev.bind R1 (Ev.ret ?_)))
     have em : ((tt : Nat) : Int) * ((Hd.cR (hi - root) : Nat) : Int) = ((tt * Hd.cR (hi - root) : Nat) : Int) := by push_cast; rfl
     rw [em]
     generalize tt * Hd.cR (hi - root) = z at c3
     generalize Hd.plSumT lo hi (root - lo) lo = y at c3
     rw [wid (x := (z : Int)) (by omega) (by omega), wid (x := (y : Int) + z) (by omega) (by omega), wid (by omega) (by omega)]
     push_cast; rfl
    ·rw [if_neg c3] at e; cases e
   ·rw [if_neg c] at e; cases e

/-! spec_l4TreeRank -/

-- (with spec_l4RowRank)

/-! spec_RootOf -/
theorem spec_RootOf.l0.ev {x0 : List Int} {x3 : Int} {r : Int} (h : Ev (fun k => if x3 < (x0.length : Int) then ((spec_TreeOk.f k x0).bind fun t226 => (spec_RootOf.j1 k x0 x3 t226)) else (spec_RootOf.j1 k x0 x3 false)) r) : Ev (fun k => spec_RootOf.l0 k x0 x3) r := Ev.step (fun _ => rfl) h
theorem spec_RootOf.j1.ev {x0 : List Int} {x3 : Int} {x11 : Bool} {r : Int} (h : Ev (fun k => if x11 = true then (if 0 ≤ x3 then (if x3 < (x0.length : Int) then (if (rd x0 x3) = 0 then (some (wrap64 (x3 + 1))) else (spec_RootOf.l0 k x0 (wrap64 (x3 + 1)))) else (none)) else (none)) else (some (-1))) r) : Ev (fun k => spec_RootOf.j1 k x0 x3 x11) r := Ev.step (fun _ => rfl) h
theorem spec_RootOf_l0 {l : List Int} (t : Hd.T l) : ∀ i : Int, i ≤ l.length → 0 ≤ i → i < Hd.rootI l → Ev (fun k => spec_RootOf.l0 k l i) (Hd.rootI l) := by
 obtain ⟨hr, hz, uq⟩ := Hd.rootI_spec t
 have h8 := t.1
 refine Hd.down ?_
 intro i hi ih h0 hlt
 refine spec_RootOf.l0.ev (Ev.pos (by omega) (Ev.bind (spec_TreeOk_ev l) (spec_RootOf.j1.ev (Ev.pos (Hd.treeB_yes t) (Ev.pos h0 (Ev.pos (by omega) ?_))))))
 rw [rd_hd1 h0, wid (x := i + 1) (by omega) (by omega)]
 by_cases e : Hd.hd l (i + 1) = 0
 ·exact Ev.pos e (Ev.ret (uq _ (by omega) (by omega) e))
 ·refine Ev.neg e (ih (by omega) (by omega) ?_)
  have : i + 1 ≠ Hd.rootI l := fun e2 => e (by rw [e2]; exact hz)
  omega
theorem spec_RootOf_ev (l : List Int) : Ev (fun k => spec_RootOf.f k l) (Hd.rootI l) := by
 unfold spec_RootOf.f
 by_cases t : Hd.T l
 ·have := (Hd.rootI_spec t).1
  exact spec_RootOf_l0 t 0 (by omega) (by omega) (by omega)
 ·rw [Hd.rootI_no t]
  refine spec_RootOf.l0.ev ?_
  by_cases hl : (0 : Int) < l.length
  ·exact Ev.pos hl (Ev.bind (spec_TreeOk_ev l) (spec_RootOf.j1.ev (Ev.neg (by rw [Hd.treeB_no t]; simp) (Ev.now _))))
  ·exact Ev.neg hl (spec_RootOf.j1.ev (Ev.neg (by simp) (Ev.now _)))

/-! spec_PlaceOf -/
theorem spec_PlaceOf.j0.ev {x0 : List Int} {x10 : Bool} {r : Int} (h : Ev (fun k => if x10 = true then (some (-1)) else ((spec_RootOf.f k x0).bind fun t229 => ((spec_l4TreeRank.f k x0 1 (x0.length : Int) t229).bind fun t230 => (some t230)))) r) : Ev (fun k => spec_PlaceOf.j0 k x0 x10) r := Ev.step (fun _ => rfl) h
theorem root_N {h : List Nat} (t : Hd.T (Hd.toI h)) {r : Nat} (e : Hd.rankN h = some r) : Hd.rootI (Hd.toI h) = (Hd.rootN h : Int) := by
 have hp := t.2.pos
 rw [Hd.toI_len] at hp
 have hfst := fst_le h 0 (h.length - 1) 1
 obtain ⟨q1, q2, q3⟩ := Hd.rootI_spec t
 have hz : Hd.hN h (Hd.rootN h) = 0 := by
  obtain ⟨q, hq⟩ : ∃ q : Nat, Hd.rootI (Hd.toI h) = (q : Int) := ⟨(Hd.rootI (Hd.toI h)).toNat, by omega⟩
  rw [hq, Hd.toI_len] at q1
  rw [hq, Hd.hd_toI] at q2
  -- the search finds it
  have find : ∀ f a, a ≤ q → q ≤ a + f → Hd.hN h (Hd.fstN h 0 f a) = 0 := by
   intro f
   induction f with
   | zero => intro a h1 h2; rw [Hd.fstN, show a = q by omega]; omega
   | succ f ih =>
    intro a h1 h2
    rw [Hd.fstN]
    by_cases c : Hd.hN h a = 0
    ·rw [if_pos (by rw [Nat.beq_eq]; exact c)]; exact c
    ·rw [if_neg (by rw [Nat.beq_eq]; exact c)]
     have : a ≠ q := fun e => c (by rw [e]; omega)
     exact ih (a + 1) (by omega) (by omega)
  exact find (h.length - 1) 1 (by omega) (by omega)
 have := q3 (Hd.rootN h : Int) (by unfold Hd.rootN; omega) (by rw [Hd.toI_len]; unfold Hd.rootN; omega) (by rw [Hd.hd_toI, hz]; rfl)
 exact this.symm
theorem spec_PlaceOf_ev (l : List Int) : Ev (fun k => spec_PlaceOf.f k l) (placeI l) := by
 unfold spec_PlaceOf.f placeI
 refine Ev.bind (spec_FlatOk_ev l) ?_
 by_cases f : Hd.flatB l = true
 ·refine Ev.pos f ?_
  by_cases h6 : l.length ≤ 6
  ·rw [if_pos ⟨f, h6⟩]
   refine spec_PlaceOf.j0.ev (Ev.neg (by simp; omega) ?_)
   have t := (Hd.flatB_true.1 f).1
   obtain ⟨h, r, rfl, hr, hF⟩ := Hd.flat_place f h6
   rw [Hd.toI_len] at h6 ⊢
   rw [idx_F h6 hF]
   have RT := (rank_both t h6 16).2 1 h.length (Hd.rootN h) r hr (by omega) (Nat.le_refl _)
   refine Ev.bind (spec_RootOf_ev _) ?_
   rw [root_N t hr]
   exact Ev.bind RT (Ev.now _)
  ·rw [if_neg (fun c => h6 c.2)]
   exact spec_PlaceOf.j0.ev (Ev.pos (by simp; omega) (Ev.now _))
 ·rw [if_neg (fun c => f c.1)]
  exact Ev.neg f (spec_PlaceOf.j0.ev (Ev.pos rfl (Ev.now _)))

/-! spec_l20Open -/

theorem spec_l20Open_eq {l : List Int} (h : ∀ x ∈ l, (Lit.int .u8 x).wf = true) : ∃ b, spec_l20Open.f l = some (b, 0) ∧ Bts b := by
 have hb : ∀ x, x ∈ l → 0 ≤ x ∧ x ≤ 255 := fun x hx => by
  have := h x hx
  simpa [Lit.wf, IntKind.min, IntKind.max, IntKind.signed, IntKind.bits] using this
 unfold spec_l20Open.f
 by_cases hl : (l.length : Int) > 2000
 ·rw [if_pos hl, if_pos (by omega)]
  exact ⟨_, rfl, by simp; omega, bts_rd fun x hx => hb x (List.mem_of_mem_take hx)⟩
 ·rw [if_neg hl]
  exact ⟨_, rfl, by omega, bts_rd hb⟩

/-! spec_l20Rd_pick -/
theorem spec_l20Rd_pick.j0.ev {x1 : Int} {x24 : Bool} {x1000 : List Int} {x1001 : Int} {r : Int × Int} (h : Ev (fun k => if x24 = true then (some (0, x1001)) else (if (wrap64 (x1001 - 1)) < (x1000.length : Int) then (if 0 ≤ (wrap64 (x1001 - 1)) then (if x1 = 0 then (none) else (some (Int.tmod (wrap64 (rd x1000 (wrap64 (x1001 - 1)))) x1, x1001))) else (none)) else (if (x1000.length : Int) = 0 then (none) else (if 0 ≤ (Int.tmod (wrap64 (x1001 - 1)) (x1000.length : Int)) then (if (Int.tmod (wrap64 (x1001 - 1)) (x1000.length : Int)) < (x1000.length : Int) then (if 0 ≤ (Int.tmod (wrap64 ((wrap64 ((wrap64 (x1001 - 1)) * 7)) + 3)) (x1000.length : Int)) then (if (Int.tmod (wrap64 ((wrap64 ((wrap64 (x1001 - 1)) * 7)) + 3)) (x1000.length : Int)) < (x1000.length : Int) then (if x1 = 0 then (none) else (some (Int.tmod (Go.bits .xor .i64 (wrap64 ((wrap64 ((wrap64 ((wrap64 ((wrap64 (rd x1000 (Int.tmod (wrap64 (x1001 - 1)) (x1000.length : Int)))) * 131)) + (wrap64 ((wrap64 (rd x1000 (Int.tmod (wrap64 ((wrap64 ((wrap64 (x1001 - 1)) * 7)) + 3)) (x1000.length : Int)))) * 1117)))) + (wrap64 ((wrap64 (x1001 - 1)) * 29)))) + (wrap64 ((wrap64 (Int.tdiv (wrap64 (x1001 - 1)) (x1000.length : Int))) * 53)))) (wrap64 (Int.tdiv (wrap64 ((wrap64 ((wrap64 ((wrap64 ((wrap64 (rd x1000 (Int.tmod (wrap64 (x1001 - 1)) (x1000.length : Int)))) * 131)) + (wrap64 ((wrap64 (rd x1000 (Int.tmod (wrap64 ((wrap64 ((wrap64 (x1001 - 1)) * 7)) + 3)) (x1000.length : Int)))) * 1117)))) + (wrap64 ((wrap64 (x1001 - 1)) * 29)))) + (wrap64 ((wrap64 (Int.tdiv (wrap64 (x1001 - 1)) (x1000.length : Int))) * 53)))) 64))) x1, x1001))) else (none)) else (none)) else (none)) else (none))))) r) : Ev (fun k => spec_l20Rd_pick.j0 k x1 x24 x1000 x1001) r := Ev.step (fun _ => rfl) h
theorem bits_xor_nat (k : Go.IntKind) (j : Nat) (hj : j ≤ k.bits) (hk : ∀ n : Int, 0 ≤ n → n < 2 ^ j → k.wrap n = n) (a b : Nat) (ha : a < 2 ^ j) (hb : b < 2 ^ j) : Go.bits .xor k a b = ((a ^^^ b : Nat) : Int) := by
 have hp : 2 ^ j ≤ 2 ^ k.bits := Nat.pow_le_pow_right (by decide) hj
 have ha' : a % 2 ^ k.bits = a := Nat.mod_eq_of_lt (Nat.lt_of_lt_of_le ha hp)
 have hb' : b % 2 ^ k.bits = b := Nat.mod_eq_of_lt (Nat.lt_of_lt_of_le hb hp)
 simp only [Go.bits, BitVec.ofInt_natCast, BitVec.toNat_xor, BitVec.toNat_ofNat, ha', hb']
 refine hk _ (Int.natCast_nonneg _) ?_
 exact_mod_cast Nat.xor_lt_two_pow ha hb
theorem h_xor_i64 {a b : Nat} (ha : a < 2 ^ 40) (hb : b < 2 ^ 40) : Go.bits .xor .i64 (a : Int) (b : Int) = ((a ^^^ b : Nat) : Int) :=
 bits_xor_nat .i64 40 (by decide) (fun n h0 h1 => by rw [Go.IntKind.wrap_i64]; omega) a b ha hb
theorem xor_nonneg {x : Int} (h0 : 0 ≤ x) (h1 : x < 1000000000) : 0 ≤ Go.bits .xor .i64 x (Int.tdiv x 64) ∧ Go.bits .xor .i64 x (Int.tdiv x 64) < 2 ^ 40 := by
 obtain ⟨a, rfl⟩ := Int.eq_ofNat_of_zero_le h0
 have : Int.tdiv (a : Int) 64 = ((a / 64 : Nat) : Int) := by
  rw [Int.tdiv_eq_ediv_of_nonneg (by omega)]; simp
 rw [this, h_xor_i64 (by omega) (by omega)]
 have := Nat.xor_lt_two_pow (n := 40) (x := a) (y := a / 64) (by omega) (by omega)
 omega
theorem spec_l20Rd_pick_ev {b : List Int} (B : Bts b) {p : Int} (h0 : 0 ≤ p) (h1 : p ≤ 1000000) (n : Int) : ∃ r : Int, Ev (fun k => spec_l20Rd_pick.f k b p n) (r, p + 1) ∧ 0 ≤ r ∧ (1 ≤ n → r < n) := by
 unfold spec_l20Rd_pick.f
 rw [wid (x := p + 1) (by omega) (by omega)]
 by_cases hn : n < 1
 ·exact ⟨0, Ev.pos hn (spec_l20Rd_pick.j0.ev (Ev.pos rfl (Ev.now _))), by omega, by omega⟩
 by_cases hb : b.length = 0
 ·refine ⟨0, Ev.neg hn ?_, by omega, by omega⟩
  rw [show ((b.length : Int) == 0) = true from by simp [hb]]
  exact spec_l20Rd_pick.j0.ev (Ev.pos rfl (Ev.now _))
 have hlen := B.1
 have key : ∃ r : Int, Ev (fun k => spec_l20Rd_pick.j0 k n false b (p + 1)) (r, p + 1) ∧ 0 ≤ r ∧ (1 ≤ n → r < n) := by
  by_cases hlt : p < b.length
  ·refine ⟨Int.tmod (rd b p) n, spec_l20Rd_pick.j0.ev (Ev.neg (by simp) ?_), Int.tmod_nonneg _ (B.2 p).1, fun h => Int.tmod_lt_of_pos _ (by omega)⟩
   have := B.2 p
   rw [wid (x := p + 1 - 1) (by omega) (by omega), show p + 1 - 1 = p from by omega, wid (x := rd b p) (by omega) (by omega)]
   exact Ev.pos hlt (Ev.pos h0 (Ev.neg (by omega) (Ev.now _)))
  ·have t0 : 0 ≤ Int.tmod p b.length := Int.tmod_nonneg _ h0
   have t1 : Int.tmod p b.length < b.length := Int.tmod_lt_of_pos _ (by omega)
   have u0 : 0 ≤ Int.tmod (p * 7 + 3) b.length := Int.tmod_nonneg _ (by omega)
   have u1 : Int.tmod (p * 7 + 3) b.length < b.length := Int.tmod_lt_of_pos _ (by omega)
   have v0 : 0 ≤ Int.tdiv p b.length := Int.tdiv_nonneg h0 (by omega)
   have v1 : Int.tdiv p b.length ≤ p := by
    rw [Int.tdiv_eq_ediv_of_nonneg h0]
    exact Int.ediv_le_self _ h0
   have b1 := B.2 (Int.tmod p b.length)
   have b2 := B.2 (Int.tmod (p * 7 + 3) b.length)
   generalize e1 : rd b (Int.tmod p b.length) = y1 at *
   generalize e2 : rd b (Int.tmod (p * 7 + 3) b.length) = y2 at *
   have hx0 : 0 ≤ y1 * 131 + y2 * 1117 + p * 29 + Int.tdiv p b.length * 53 := by omega
   have hx1 : y1 * 131 + y2 * 1117 + p * 29 + Int.tdiv p b.length * 53 < 1000000000 := by omega
   have hx := xor_nonneg hx0 hx1
   refine ⟨Int.tmod (Go.bits .xor .i64 (y1 * 131 + y2 * 1117 + p * 29 + Int.tdiv p b.length * 53) (Int.tdiv (y1 * 131 + y2 * 1117 + p * 29 + Int.tdiv p b.length * 53) 64)) n, spec_l20Rd_pick.j0.ev (Ev.neg (by simp) ?_), Int.tmod_nonneg _ hx.1, fun h => Int.tmod_lt_of_pos _ (by omega)⟩
   have d0 : 0 ≤ Int.tdiv (y1 * 131 + y2 * 1117 + p * 29 + Int.tdiv p b.length * 53) 64 := Int.tdiv_nonneg hx0 (by omega)
   have d1 : Int.tdiv (y1 * 131 + y2 * 1117 + p * 29 + Int.tdiv p b.length * 53) 64 ≤ y1 * 131 + y2 * 1117 + p * 29 + Int.tdiv p b.length * 53 := by
    rw [Int.tdiv_eq_ediv_of_nonneg hx0]
    exact Int.ediv_le_self _ hx0
   rw [wid (x := p + 1 - 1) (by omega) (by omega), show p + 1 - 1 = p from by omega, wid (x := p * 7) (by omega) (by omega), wid (x := p * 7 + 3) (by omega) (by omega), e1, e2]
   rw [wid (x := y1) (by omega) (by omega), wid (x := y2) (by omega) (by omega), wid (x := y1 * 131) (by omega) (by omega), wid (x := y2 * 1117) (by omega) (by omega), wid (x := y1 * 131 + y2 * 1117) (by omega) (by omega), wid (x := p * 29) (by omega) (by omega), wid (x := y1 * 131 + y2 * 1117 + p * 29) (by omega) (by omega)]
   rw [wid (x := Int.tdiv p b.length) (by omega) (by omega), wid (x := Int.tdiv p b.length * 53) (by omega) (by omega), wid (x := y1 * 131 + y2 * 1117 + p * 29 + Int.tdiv p b.length * 53) (by omega) (by omega)]
   rw [wid (x := Int.tdiv (y1 * 131 + y2 * 1117 + p * 29 + Int.tdiv p b.length * 53) 64) (by omega) (by omega)]
   exact Ev.neg hlt (Ev.neg (by omega) (Ev.pos t0 (Ev.pos t1 (Ev.pos u0 (Ev.pos u1 (Ev.neg (by omega) (Ev.now _)))))))
 obtain ⟨r, e, h2, h3⟩ := key
 refine ⟨r, Ev.neg hn ?_, h2, h3⟩
 rw [show ((b.length : Int) == 0) = false from by simpa using hb]
 exact e

/-! spec_l20Order -/
theorem spec_l20Order.l0.ev {x1 : Int} {x5 : List Int} {x6 : Int} {x7 : Int} {x1000 : List Int} {x1001 : Int} {r : List Int × Int} (h : Ev (fun k => if x7 ≤ x1 then (if x6 = 0 then ((spec_l20Rd_pick.f k x1000 x1001 x7).bind fun bt242 => ((some (([] : List Int) : List Int)).bind fun y244 => (if 0 ≤ bt242.1 then (if bt242.1 ≤ (x5.length : Int) then ((some (x5.take (bt242.1 : Int).toNat : List Int)).bind fun y247 => (if y244.length + y247.length < 17592186044416 then ((some (y244 ++ y247 : List Int)).bind fun y251 => (if y251.length < 17592186044416 then ((some (y251 ++ [x7] : List Int)).bind fun y254 => ((some (x5.drop (bt242.1 : Int).toNat : List Int)).bind fun y257 => (if y254.length + y257.length < 17592186044416 then (spec_l20Order.l0 k x1 (y254 ++ y257) x6 (wrap64 (x7 + 1)) x1000 bt242.2) else (none)))) else (none))) else (none))) else (none)) else (none)))) else ((spec_l20Rd_pick.f k x1000 x1001 3).bind fun bt264 => (if bt264.1 = 0 then ((spec_l20Rd_pick.f k x1000 bt264.2 x7).bind fun bt266 => ((some (([] : List Int) : List Int)).bind fun y268 => (if 0 ≤ bt266.1 then (if bt266.1 ≤ (x5.length : Int) then ((some (x5.take (bt266.1 : Int).toNat : List Int)).bind fun y271 => (if y268.length + y271.length < 17592186044416 then ((some (y268 ++ y271 : List Int)).bind fun y275 => (if y275.length < 17592186044416 then ((some (y275 ++ [x7] : List Int)).bind fun y278 => ((some (x5.drop (bt266.1 : Int).toNat : List Int)).bind fun y281 => (if y278.length + y281.length < 17592186044416 then (spec_l20Order.l0 k x1 (y278 ++ y281) x6 (wrap64 (x7 + 1)) x1000 bt266.2) else (none)))) else (none))) else (none))) else (none)) else (none)))) else ((some (([] : List Int) : List Int)).bind fun y288 => (if 0 ≤ (x5.length : Int) then (if (x5.length : Int) ≤ (x5.length : Int) then ((some (x5.take ((x5.length : Int) : Int).toNat : List Int)).bind fun y291 => (if y288.length + y291.length < 17592186044416 then ((some (y288 ++ y291 : List Int)).bind fun y295 => (if y295.length < 17592186044416 then ((some (y295 ++ [x7] : List Int)).bind fun y298 => ((some (x5.drop ((x5.length : Int) : Int).toNat : List Int)).bind fun y301 => (if y298.length + y301.length < 17592186044416 then (spec_l20Order.l0 k x1 (y298 ++ y301) x6 (wrap64 (x7 + 1)) x1000 bt264.2) else (none)))) else (none))) else (none))) else (none)) else (none)))))) else (some (x5, x1001))) r) : Ev (fun k => spec_l20Order.l0 k x1 x5 x6 x7 x1000 x1001) r := Ev.step (fun _ => rfl) h
/-- Numbers from 1 to many, so many of them. -/
def Ord (many : Int) (len : Nat) (o : List Int) : Prop := o.length = len ∧ ∀ x, x ∈ o → 1 ≤ x ∧ x ≤ many
theorem ord_put {many k a : Int} {o : List Int} (O : Ord many (k - 1).toNat o) (h1 : 1 ≤ k) (h2 : k ≤ many) (_h3 : 0 ≤ a) (_h4 : a < k) : Ord many (k + 1 - 1).toNat ((([] : List Int) ++ o.take a.toNat ++ [k]) ++ o.drop a.toNat) := by
 constructor
 ·have := O.1
  simp; omega
 ·intro x hx
  simp only [List.nil_append, List.mem_append, List.mem_singleton] at hx
  rcases hx with (hx | rfl) | hx
  ·exact O.2 x (List.mem_of_mem_take hx)
  ·exact ⟨h1, h2⟩
  ·exact O.2 x (List.mem_of_mem_drop hx)
theorem spec_l20Order_l0 {b : List Int} (B : Bts b) {many keep : Int} (hm : many ≤ 100) : ∀ i : Int, i ≤ many + 1 → 1 ≤ i → ∀ (o : List Int) (p : Int), Ord many (i - 1).toNat o → 0 ≤ p → p + 2 * (many + 1 - i) ≤ 900000 →
  ∃ (o' : List Int) (q : Int), Ev (fun k => spec_l20Order.l0 k many o keep i b p) (o', q) ∧ Ord many many.toNat o' ∧ p ≤ q ∧ q ≤ p + 2 * (many + 1 - i) := by
 refine Hd.down ?_
 intro i hi ih h1 o p O h0 hp
 have ol := O.1
 by_cases hlt : i ≤ many
 ·have hlen : (o.length : Int) = i - 1 := by omega
  by_cases hk : keep = 0
  ·obtain ⟨a, e, a0, a1⟩ := spec_l20Rd_pick_ev B h0 (by omega) i
   have a1 := a1 h1
   obtain ⟨o', q, e2, O2, q0, q1⟩ := ih (by omega) (by omega) _ (p + 1) (ord_put O h1 hlt a0 a1) (by omega) (by omega)
   refine ⟨o', q, spec_l20Order.l0.ev (Ev.pos hlt (Ev.pos hk (Ev.bind e ?_))), O2, by omega, by omega⟩
   rw [wid (x := i + 1) (by omega) (by omega)]
   refine Ev.bindv rfl (Ev.pos a0 (Ev.pos (by omega) (Ev.bindv rfl (Ev.pos (by simp; omega) (Ev.bindv rfl (Ev.pos (by simp; omega) (Ev.bindv rfl (Ev.bindv rfl (Ev.pos (by simp; omega) ?_)))))))))
   exact e2
  ·obtain ⟨s, es, _, _⟩ := spec_l20Rd_pick_ev B h0 (by omega) 3
   by_cases hs : s = 0
   ·obtain ⟨a, e, a0, a1⟩ := spec_l20Rd_pick_ev B (p := p + 1) (by omega) (by omega) i
    have a1 := a1 h1
    obtain ⟨o', q, e2, O2, q0, q1⟩ := ih (by omega) (by omega) _ (p + 1 + 1) (ord_put O h1 hlt a0 a1) (by omega) (by omega)
    refine ⟨o', q, spec_l20Order.l0.ev (Ev.pos hlt (Ev.neg hk (Ev.bind es (Ev.pos hs (Ev.bind e ?_))))), O2, by omega, by omega⟩
    rw [wid (x := i + 1) (by omega) (by omega)]
    refine Ev.bindv rfl (Ev.pos a0 (Ev.pos (by omega) (Ev.bindv rfl (Ev.pos (by simp; omega) (Ev.bindv rfl (Ev.pos (by simp; omega) (Ev.bindv rfl (Ev.bindv rfl (Ev.pos (by simp; omega) ?_)))))))))
    exact e2
   ·obtain ⟨o', q, e2, O2, q0, q1⟩ := ih (by omega) (by omega) _ (p + 1) (ord_put O h1 hlt (a := (o.length : Int)) (by omega) (by omega)) (by omega) (by omega)
    refine ⟨o', q, spec_l20Order.l0.ev (Ev.pos hlt (Ev.neg hk (Ev.bind es (Ev.neg hs ?_)))), O2, by omega, by omega⟩
    rw [wid (x := i + 1) (by omega) (by omega)]
    refine Ev.bindv rfl (Ev.pos (by omega) (Ev.pos (by omega) (Ev.bindv rfl (Ev.pos (by simp; omega) (Ev.bindv rfl (Ev.pos (by simp; omega) (Ev.bindv rfl (Ev.bindv rfl (Ev.pos (by simp; omega) ?_)))))))))
    exact e2
 ·refine ⟨o, p, spec_l20Order.l0.ev (Ev.neg hlt (Ev.now _)), ?_, by omega, by omega⟩
  rw [show many.toNat = (i - 1).toNat from by omega]; exact O
theorem spec_l20Order_ev {b : List Int} (B : Bts b) {p : Int} (h0 : 0 ≤ p) (h1 : p ≤ 800000) {many : Int} (hm0 : 0 ≤ many) (hm : many ≤ 100) :
  ∃ (o : List Int) (q : Int), Ev (fun k => spec_l20Order.f k b p many) (o, q) ∧ Ord many many.toNat o ∧ p ≤ q ∧ q ≤ p + 300 := by
 obtain ⟨s, es, _, _⟩ := spec_l20Rd_pick_ev B h0 (by omega) 2
 obtain ⟨o, q, e, O, q0, q1⟩ := spec_l20Order_l0 B (keep := s) hm 1 (by omega) (by omega) [] (p + 1) ⟨rfl, fun x hx => by cases hx⟩ (by omega) (by omega)
 refine ⟨o, q, ?_, O, by omega, by omega⟩
 unfold spec_l20Order.f
 exact Ev.bind es e

/-! spec_l20Rd_odd -/

theorem spec_l20Rd_odd_ev {b : List Int} (B : Bts b) {p : Int} (h0 : 0 ≤ p) (h1 : p ≤ 1000000) (n : Int) : ∃ (r : Bool) (q : Int), Ev (fun k => spec_l20Rd_odd.f k b p n) (r, q) ∧ p ≤ q ∧ q ≤ p + 1 := by
 unfold spec_l20Rd_odd.f
 by_cases hn : n > 0
 ·obtain ⟨r, e, _, _⟩ := spec_l20Rd_pick_ev B h0 h1 n
  exact ⟨_, _, Ev.pos hn (Ev.bind e (Ev.now _)), by omega, by omega⟩
 ·exact ⟨_, _, Ev.neg hn (Ev.now _), by omega, by omega⟩

/-! spec_l20Tree -/
theorem spec_l20Tree.l0.ev {x1 : Int} {x5 : Int} {x6 : List Int} {x7 : List Int} {x8 : Int} {x9 : Int} {x1000 : List Int} {x1001 : Int} {r : List Int × Int} (h : Ev (fun k => if x9 < x5 then ((spec_l20Rd_pick.f k x1000 x1001 x9).bind fun bt321 => (if x8 = 1 then ((spec_l20Rd_pick.f k x1000 bt321.2 2).bind fun bt323 => (if bt323.1 = 0 then (if 0 ≤ x9 then (if x9 < (x6.length : Int) then (if 0 ≤ (wrap64 (x9 - 1)) then (if (wrap64 (x9 - 1)) < (x6.length : Int) then (if 0 ≤ (wrap64 ((rd x6 x9) - 1)) then (if (wrap64 ((rd x6 x9) - 1)) < (x7.length : Int) then (spec_l20Tree.l0 k x1 x5 x6 (x7.set ((wrap64 ((rd x6 x9) - 1)) : Int).toNat (rd x6 (wrap64 (x9 - 1)))) x8 (wrap64 (x9 + 1)) x1000 bt323.2) else (none)) else (none)) else (none)) else (none)) else (none)) else (none)) else (if 0 ≤ x9 then (if x9 < (x6.length : Int) then (if 0 ≤ bt321.1 then (if bt321.1 < (x6.length : Int) then (if 0 ≤ (wrap64 ((rd x6 x9) - 1)) then (if (wrap64 ((rd x6 x9) - 1)) < (x7.length : Int) then (spec_l20Tree.l0 k x1 x5 x6 (x7.set ((wrap64 ((rd x6 x9) - 1)) : Int).toNat (rd x6 bt321.1)) x8 (wrap64 (x9 + 1)) x1000 bt323.2) else (none)) else (none)) else (none)) else (none)) else (none)) else (none)))) else (if 0 ≤ x9 then (if x9 < (x6.length : Int) then (if 0 ≤ bt321.1 then (if bt321.1 < (x6.length : Int) then (if 0 ≤ (wrap64 ((rd x6 x9) - 1)) then (if (wrap64 ((rd x6 x9) - 1)) < (x7.length : Int) then (spec_l20Tree.l0 k x1 x5 x6 (x7.set ((wrap64 ((rd x6 x9) - 1)) : Int).toNat (rd x6 bt321.1)) x8 (wrap64 (x9 + 1)) x1000 bt321.2) else (none)) else (none)) else (none)) else (none)) else (none)) else (none)))) else ((spec_l20Rd_odd.f k x1000 x1001 x1).bind fun bt334 => (if bt334.1 = true then ((spec_l20Rd_pick.f k x1000 bt334.2 4).bind fun bt336 => (if bt336.1 = 0 then (some ((([] : List Int)), bt336.2)) else (if bt336.1 = 1 then (some ((([2, 1, 0] : List Int)), bt336.2)) else (if bt336.1 = 2 then ((spec_l20Rd_pick.f k x1000 bt336.2 x5).bind fun bt344 => (if 0 ≤ bt344.1 then (if bt344.1 < (x7.length : Int) then ((some (x7.set (bt344.1 : Int).toNat 0 : List Int)).bind fun y346 => (if y346.length < 17592186044416 then (some ((y346 ++ [0]), bt344.2)) else (none))) else (none)) else (none))) else ((some (([1, wrap64 (x5 + 1), (-1)] : List Int) : List Int)).bind fun y350 => ((spec_l20Rd_pick.f k x1000 bt336.2 3).bind fun bt353 => (if 0 ≤ bt353.1 then (if bt353.1 < (y350.length : Int) then (if 0 < (x7.length : Int) then (some ((x7.set (0 : Int).toNat (rd y350 bt353.1)), bt353.2)) else (none)) else (none)) else (none)))))))) else (some (x7, bt334.2))))) r) : Ev (fun k => spec_l20Tree.l0 k x1 x5 x6 x7 x8 x9 x1000 x1001) r := Ev.step (fun _ => rfl) h
theorem ord_rd {many : Int} {n : Nat} {o : List Int} (O : Ord many n o) {i : Int} (h0 : 0 ≤ i) (h1 : i < n) : 1 ≤ rd o i ∧ rd o i ≤ many := by
 have := O.1
 unfold rd
 rw [List.getD_eq_getElem?_getD, List.getElem?_eq_getElem (by omega)]
 exact O.2 _ (List.getElem_mem _)
theorem spec_l20Tree_l0 {b : List Int} (B : Bts b) {odd many near : Int} (hm1 : 1 ≤ many) (hm : many ≤ 8) {o : List Int} (O : Ord many many.toNat o) : ∀ i : Int, i ≤ many → 1 ≤ i → ∀ (h : List Int) (p : Int), h.length = many.toNat → 0 ≤ p → p + 2 * (many - i) ≤ 900000 →
  ∃ (h' : List Int) (q : Int), Ev (fun k => spec_l20Tree.l0 k odd many o h near i b p) (h', q) ∧ h'.length ≤ 9 ∧ p ≤ q ∧ q ≤ p + 2 * (many - i) + 4 := by
 refine Hd.down ?_
 intro i hi ih h1 h p hl h0 hp
 have ol := O.1
 by_cases hlt : i < many
 ·obtain ⟨a, e, a0, a1⟩ := spec_l20Rd_pick_ev B h0 (by omega) i
  have a1 := a1 h1
  have r1 := ord_rd O (i := i) (by omega) (by omega)
  obtain ⟨s, es, _, _⟩ := spec_l20Rd_pick_ev B (p := p + 1) (by omega) (by omega) 2
  by_cases hn : near = 1
  ·by_cases hs : s = 0
   ·obtain ⟨h', q, e2, l2, q0, q1⟩ := ih hlt (by omega) (h.set (rd o i - 1).toNat (rd o (i - 1))) (p + 1 + 1) (by simpa using hl) (by omega) (by omega)
    refine ⟨h', q, spec_l20Tree.l0.ev (Ev.pos hlt (Ev.bind e (Ev.pos hn (Ev.bind es (Ev.pos hs ?_))))), l2, by omega, by omega⟩
    rw [wid (x := i + 1) (by omega) (by omega), wid (x := i - 1) (by omega) (by omega), wid (x := rd o i - 1) (by omega) (by omega)]
    exact Ev.pos (by omega) (Ev.pos (by omega) (Ev.pos (by omega) (Ev.pos (by omega) (Ev.pos (by omega) (Ev.pos (by omega) e2)))))
   ·obtain ⟨h', q, e2, l2, q0, q1⟩ := ih hlt (by omega) (h.set (rd o i - 1).toNat (rd o a)) (p + 1 + 1) (by simpa using hl) (by omega) (by omega)
    refine ⟨h', q, spec_l20Tree.l0.ev (Ev.pos hlt (Ev.bind e (Ev.pos hn (Ev.bind es (Ev.neg hs ?_))))), l2, by omega, by omega⟩
    rw [wid (x := i + 1) (by omega) (by omega), wid (x := rd o i - 1) (by omega) (by omega)]
    exact Ev.pos (by omega) (Ev.pos (by omega) (Ev.pos (by omega) (Ev.pos (by omega) (Ev.pos (by omega) (Ev.pos (by omega) e2)))))
  ·obtain ⟨h', q, e2, l2, q0, q1⟩ := ih hlt (by omega) (h.set (rd o i - 1).toNat (rd o a)) (p + 1) (by simpa using hl) (by omega) (by omega)
   refine ⟨h', q, spec_l20Tree.l0.ev (Ev.pos hlt (Ev.bind e (Ev.neg hn ?_))), l2, by omega, by omega⟩
   rw [wid (x := i + 1) (by omega) (by omega), wid (x := rd o i - 1) (by omega) (by omega)]
   exact Ev.pos (by omega) (Ev.pos (by omega) (Ev.pos (by omega) (Ev.pos (by omega) (Ev.pos (by omega) (Ev.pos (by omega) e2)))))
 ·obtain ⟨t, q, et, q0, q1⟩ := spec_l20Rd_odd_ev B h0 (by omega) odd
  cases t with
  | false => exact ⟨h, q, spec_l20Tree.l0.ev (Ev.neg hlt (Ev.bind et (Ev.neg (by simp) (Ev.now _)))), by omega, by omega, by omega⟩
  | true =>
   obtain ⟨c, ec, _, _⟩ := spec_l20Rd_pick_ev B (p := q) (by omega) (by omega) 4
   by_cases c0 : c = 0
   ·exact ⟨_, _, spec_l20Tree.l0.ev (Ev.neg hlt (Ev.bind et (Ev.pos rfl (Ev.bind ec (Ev.pos c0 (Ev.now _)))))), by simp, by omega, by omega⟩
   by_cases c1 : c = 1
   ·exact ⟨_, _, spec_l20Tree.l0.ev (Ev.neg hlt (Ev.bind et (Ev.pos rfl (Ev.bind ec (Ev.neg c0 (Ev.pos c1 (Ev.now _))))))), by simp, by omega, by omega⟩
   by_cases c2 : c = 2
   ·obtain ⟨d, ed, d0, d1⟩ := spec_l20Rd_pick_ev B (p := q + 1) (by omega) (by omega) many
    have d1 := d1 hm1
    exact ⟨_, _, spec_l20Tree.l0.ev (Ev.neg hlt (Ev.bind et (Ev.pos rfl (Ev.bind ec (Ev.neg c0 (Ev.neg c1 (Ev.pos c2 (Ev.bind ed (Ev.pos d0 (Ev.pos (by omega) (Ev.bindv rfl (Ev.pos (by simp; omega) (Ev.now _))))))))))))), by simp; omega, by omega, by omega⟩
   ·obtain ⟨d, ed, d0, d1⟩ := spec_l20Rd_pick_ev B (p := q + 1) (by omega) (by omega) 3
    have d1 := d1 (by omega)
    exact ⟨_, _, spec_l20Tree.l0.ev (Ev.neg hlt (Ev.bind et (Ev.pos rfl (Ev.bind ec (Ev.neg c0 (Ev.neg c1 (Ev.neg c2 (Ev.bindv rfl (Ev.bind ed (Ev.pos d0 (Ev.pos (by simp; omega) (Ev.pos (by omega) (Ev.now _))))))))))))), by simp; omega, by omega, by omega⟩
theorem spec_l20Tree_ev {b : List Int} (B : Bts b) {p : Int} (h0 : 0 ≤ p) (h1 : p ≤ 700000) (odd : Int) :
  ∃ (h : List Int) (q : Int), Ev (fun k => spec_l20Tree.f k b p odd) (h, q) ∧ h.length ≤ 9 ∧ p ≤ q ∧ q ≤ p + 400 := by
 obtain ⟨m, em, m0, m1⟩ := spec_l20Rd_pick_ev B h0 (by omega) 7
 have m1 := m1 (by omega)
 obtain ⟨o, q, eo, O, q0, q1⟩ := spec_l20Order_ev B (p := p + 1) (by omega) (by omega) (many := 1 + m) (by omega) (by omega)
 obtain ⟨s, es, _, _⟩ := spec_l20Rd_pick_ev B (p := q) (by omega) (by omega) 2
 obtain ⟨h, r, e, hl, r0, r1⟩ := spec_l20Tree_l0 B (odd := odd) (near := s) (many := 1 + m) (by omega) (by omega) O 1 (by omega) (by omega) (List.replicate (1 + m).toNat 0) (q + 1) (by simp) (by omega) (by omega)
 refine ⟨h, r, ?_, hl, by omega, by omega⟩
 unfold spec_l20Tree.f
 refine Ev.bind em ?_
 rw [wid (x := 1 + m) (by omega) (by omega)]
 exact Ev.bind eo (Ev.pos (by omega) (Ev.pos (by omega) (Ev.bind es e)))

/-! spec_l20Fill -/
theorem spec_l20Fill.l0.ev {x1 : List Int} {x3 : Int} {x10 : Int} {x11 : Int} {x1000 : List Int} {x1001 : Int} {r : Int × List Int} (h : Ev (fun k => if x11 < x10 then ((spec_l20Rd_pick.f k x1000 x1001 (wrap64 (x10 - x11))).bind fun bt360 => ((spec_l20Fill.f k x1000 bt360.2 x1 x11 (wrap64 (x11 + bt360.1)) x10).bind fun bt362 => (spec_l20Fill.l0 k bt362.2 x3 x10 (wrap64 ((wrap64 (x11 + bt360.1)) + 1)) x1000 bt362.1))) else (spec_l20Fill.l1 k x1 x3 x10 (wrap64 (x10 + 1)) x1000 x1001)) r) : Ev (fun k => spec_l20Fill.l0 k x1 x3 x10 x11 x1000 x1001) r := Ev.step (fun _ => rfl) h
theorem spec_l20Fill.l1.ev {x1 : List Int} {x3 : Int} {x10 : Int} {x11 : Int} {x1000 : List Int} {x1001 : Int} {r : Int × List Int} (h : Ev (fun k => if x11 ≤ x3 then ((spec_l20Rd_pick.f k x1000 x1001 (wrap64 ((wrap64 (x3 - x11)) + 1))).bind fun bt364 => ((spec_l20Fill.f k x1000 bt364.2 x1 x11 (wrap64 (x11 + bt364.1)) x10).bind fun bt366 => (spec_l20Fill.l1 k bt366.2 x3 x10 (wrap64 ((wrap64 (x11 + bt364.1)) + 1)) x1000 bt366.1))) else (some (x1001, x1))) r) : Ev (fun k => spec_l20Fill.l1 k x1 x3 x10 x11 x1000 x1001) r := Ev.step (fun _ => rfl) h
theorem spec_l20Fill.f.ev {s0_0 : List Int} {s0_1 : Int} {l1 : List Int} {a2 : Int} {a3 : Int} {a4 : Int} {r : Int × List Int} (h : Ev (fun k => if a2 > a3 then (some (s0_1, l1)) else ((spec_l20Rd_pick.f k s0_0 s0_1 (wrap64 ((wrap64 (a3 - a2)) + 1))).bind fun bt357 => (if 0 ≤ (wrap64 ((wrap64 (a2 + bt357.1)) - 1)) then (if (wrap64 ((wrap64 (a2 + bt357.1)) - 1)) < (l1.length : Int) then (spec_l20Fill.l0 k (l1.set ((wrap64 ((wrap64 (a2 + bt357.1)) - 1)) : Int).toNat a4) a3 (wrap64 (a2 + bt357.1)) a2 s0_0 bt357.2) else (none)) else (none)))) r) : Ev (fun k => spec_l20Fill.f k s0_0 s0_1 l1 a2 a3 a4) r := Ev.step (fun _ => rfl) h
/-- What one call on s words is good for. -/
def FillOk (b : List Int) (d : Int) : Prop := ∀ (s low head : Int) (h : List Int) (p : Int), 1 ≤ s → s ≤ d → 1 ≤ low → low + s - 1 ≤ h.length → h.length ≤ 100 → 0 ≤ p → p + 2 * s ≤ 600000 →
 ∃ (q : Int) (h' : List Int), Ev (fun k => spec_l20Fill.f k b p h low (low + s - 1) head) (q, h') ∧ h'.length = h.length ∧ p ≤ q ∧ q ≤ p + 2 * s - 1
theorem spec_l20Fill_l1 {b : List Int} (B : Bts b) {d : Int} (F : FillOk b d) {high root : Int} (hr : 1 ≤ root) (hd : high - root ≤ d) : ∀ i : Int, i ≤ high + 1 → root < i → ∀ (h : List Int) (p : Int), high ≤ h.length → h.length ≤ 100 → 0 ≤ p → p + 2 * (high - i + 1) ≤ 599999 →
  ∃ (q : Int) (h' : List Int), Ev (fun k => spec_l20Fill.l1 k h high root i b p) (q, h') ∧ h'.length = h.length ∧ p ≤ q ∧ q ≤ p + 2 * (high - i + 1) := by
 have key : ∀ (m : Nat) (i : Int), i ≤ high + 1 → root < i → high - i + 1 ≤ m → ∀ (h : List Int) (p : Int), high ≤ h.length → h.length ≤ 100 → 0 ≤ p → p + 2 * (high - i + 1) ≤ 599999 →
  ∃ (q : Int) (h' : List Int), Ev (fun k => spec_l20Fill.l1 k h high root i b p) (q, h') ∧ h'.length = h.length ∧ p ≤ q ∧ q ≤ p + 2 * (high - i + 1) := by
  intro m
  induction m with
  | zero =>
   intro i h1 h2 h3 h p _ _ h0 _
   exact ⟨p, h, spec_l20Fill.l1.ev (Ev.neg (by omega) (Ev.now _)), rfl, by omega, by omega⟩
  | succ m ih =>
   intro i h1 h2 h3 h p hh hh2 h0 hp
   by_cases hle : i ≤ high
   ·obtain ⟨r, er, r0, r1⟩ := spec_l20Rd_pick_ev B h0 (by omega) (high - i + 1)
    have r1 := r1 (by omega)
    obtain ⟨q1, hh1, e1, l1, a1, b1⟩ := F (r + 1) i root h (p + 1) (by omega) (by omega) (by omega) (by omega) hh2 (by omega) (by omega)
    obtain ⟨q2, hh3, e2, l2, a2, b2⟩ := ih (i + r + 1) (by omega) (by omega) (by omega) hh1 q1 (by omega) (by omega) (by omega) (by omega)
    refine ⟨q2, hh3, spec_l20Fill.l1.ev (Ev.pos hle ?_), by omega, by omega, by omega⟩
    rw [wid (x := high - i) (by omega) (by omega), wid (x := high - i + 1) (by omega) (by omega)]
    refine Ev.bind er ?_
    rw [wid (x := i + r) (by omega) (by omega), wid (x := i + r + 1) (by omega) (by omega)]
    rw [show i + (r + 1) - 1 = i + r from by omega] at e1
    exact Ev.bind e1 e2
   ·exact ⟨p, h, spec_l20Fill.l1.ev (Ev.neg hle (Ev.now _)), rfl, by omega, by omega⟩
 intro i h1 h2 h p
 exact key (high - i + 1).toNat i h1 h2 (by omega) h p
theorem spec_l20Fill_l0 {b : List Int} (B : Bts b) {d : Int} (F : FillOk b d) {high root : Int} (hh0 : root ≤ high) (hd : high - root ≤ d) : ∀ i : Int, i ≤ root → 1 ≤ i → root - i ≤ d → ∀ (h : List Int) (p : Int), high ≤ h.length → h.length ≤ 100 → 0 ≤ p → p + 2 * (high - i) ≤ 599999 →
  ∃ (q : Int) (h' : List Int), Ev (fun k => spec_l20Fill.l0 k h high root i b p) (q, h') ∧ h'.length = h.length ∧ p ≤ q ∧ q ≤ p + 2 * (high - i) := by
 have key : ∀ (m : Nat) (i : Int), i ≤ root → 1 ≤ i → root - i ≤ d → root - i ≤ m → ∀ (h : List Int) (p : Int), high ≤ h.length → h.length ≤ 100 → 0 ≤ p → p + 2 * (high - i) ≤ 599999 →
  ∃ (q : Int) (h' : List Int), Ev (fun k => spec_l20Fill.l0 k h high root i b p) (q, h') ∧ h'.length = h.length ∧ p ≤ q ∧ q ≤ p + 2 * (high - i) := by
  intro m
  have last : ∀ (i : Int), root ≤ i → 1 ≤ i → i ≤ root → ∀ (h : List Int) (p : Int), high ≤ h.length → h.length ≤ 100 → 0 ≤ p → p + 2 * (high - i) ≤ 599999 →
   ∃ (q : Int) (h' : List Int), Ev (fun k => spec_l20Fill.l0 k h high root i b p) (q, h') ∧ h'.length = h.length ∧ p ≤ q ∧ q ≤ p + 2 * (high - i) := by
   intro i h1 h2 h4 h p hh hh2 h0 hp
   obtain ⟨q, h', e, l, a, b'⟩ := spec_l20Fill_l1 B F (high := high) (root := root) (by omega) hd (root + 1) (by omega) (by omega) h p hh hh2 h0 (by omega)
   refine ⟨q, h', spec_l20Fill.l0.ev (Ev.neg (by omega) ?_), l, a, by omega⟩
   rw [wid (x := root + 1) (by omega) (by omega)]
   exact e
  induction m with
  | zero => intro i h1 h2 _ h3; exact last i (by omega) h2 h1
  | succ m ih =>
   intro i h1 h2 hdi h3 h p hh hh2 h0 hp
   by_cases hlt : i < root
   ·obtain ⟨r, er, r0, r1⟩ := spec_l20Rd_pick_ev B h0 (by omega) (root - i)
    have r1 := r1 (by omega)
    obtain ⟨q1, hh1, e1, l1, a1, b1⟩ := F (r + 1) i root h (p + 1) (by omega) (by omega) (by omega) (by omega) hh2 (by omega) (by omega)
    obtain ⟨q2, hh3, e2, l2, a2, b2⟩ := ih (i + r + 1) (by omega) (by omega) (by omega) (by omega) hh1 q1 (by omega) (by omega) (by omega) (by omega)
    refine ⟨q2, hh3, spec_l20Fill.l0.ev (Ev.pos hlt ?_), by omega, by omega, by omega⟩
    rw [wid (x := root - i) (by omega) (by omega)]
    refine Ev.bind er ?_
    rw [wid (x := i + r) (by omega) (by omega), wid (x := i + r + 1) (by omega) (by omega)]
    rw [show i + (r + 1) - 1 = i + r from by omega] at e1
    exact Ev.bind e1 e2
   ·exact last i (by omega) h2 h1 h p hh hh2 h0 hp
 intro i h1 h2 h3 h p
 exact key (root - i).toNat i h1 h2 h3 (by omega) h p
theorem spec_l20Fill_ok {b : List Int} (B : Bts b) : ∀ d : Nat, FillOk b d
 | 0 => fun s low head h p h1 h2 => by omega
 | d + 1 => fun s low head h p h1 h2 h3 h4 h5 h6 h7 => by
  obtain ⟨r, er, r0, r1⟩ := spec_l20Rd_pick_ev B h6 (by omega) s
  have r1 := r1 (by omega)
  obtain ⟨q, h', e, l, a, c⟩ := spec_l20Fill_l0 B (spec_l20Fill_ok B d) (high := low + s - 1) (root := low + r) (by omega) (by omega) low (by omega) h3 (by omega) (h.set (low + r - 1).toNat head) (p + 1) (by rw [List.length_set]; omega) (by rw [List.length_set]; omega) (by omega) (by omega)
  refine ⟨q, h', spec_l20Fill.f.ev (Ev.neg (by omega) ?_), by rw [l, List.length_set], by omega, by omega⟩
  rw [wid (x := low + s - 1 - low) (by omega) (by omega), wid (x := low + s - 1 - low + 1) (by omega) (by omega), show low + s - 1 - low + 1 = s from by omega]
  refine Ev.bind er ?_
  rw [wid (x := low + r) (by omega) (by omega), wid (x := low + r - 1) (by omega) (by omega)]
  exact Ev.pos (by omega) (Ev.pos (by omega) e)

/-! spec_l20Flat -/

theorem spec_l20Flat_ev {b : List Int} (B : Bts b) {p : Int} (h0 : 0 ≤ p) (h1 : p ≤ 500000) (odd : Int) :
  ∃ (h : List Int) (q : Int), Ev (fun k => spec_l20Flat.f k b p odd) (h, q) ∧ h.length ≤ 9 ∧ p ≤ q ∧ q ≤ p + 500 := by
 unfold spec_l20Flat.f
 obtain ⟨c, ec, _, _⟩ := spec_l20Rd_pick_ev B h0 (by omega) 3
 by_cases hc : c = 0
 ·obtain ⟨h, q, e, hl, q0, q1⟩ := spec_l20Tree_ev B (p := p + 1) (by omega) (by omega) odd
  exact ⟨h, q, Ev.bind ec (Ev.pos hc (Ev.bind e (Ev.now _))), hl, by omega, by omega⟩
 ·obtain ⟨m, em, m0, m1⟩ := spec_l20Rd_pick_ev B (p := p + 1) (by omega) (by omega) 7
  have m1 := m1 (by omega)
  obtain ⟨q, h, e, hl, q0, q1⟩ := spec_l20Fill_ok B 7 (1 + m) 1 0 (List.replicate (1 + m).toNat 0) (p + 1 + 1) (by omega) (by omega) (by omega) (by simp; omega) (by simp; omega) (by omega) (by omega)
  refine ⟨h, q, Ev.bind ec (Ev.neg hc (Ev.bind em ?_)), by rw [hl]; simp; omega, by omega, by omega⟩
  rw [show 1 + (1 + m) - 1 = 1 + m from by omega] at e
  rw [wid (x := 1 + m) (by omega) (by omega)]
  exact Ev.pos (by omega) (Ev.pos (by omega) (Ev.bind e (Ev.now _)))

/-! spec_DrawPlaceOf -/

theorem spec_DrawPlaceOf_ev {l : List Int} (h : ∀ x ∈ l, (Lit.int .u8 x).wf = true) : ∃ r, Ev (fun k => spec_DrawPlaceOf.f k l) r ∧ r.length ≤ 9 := by
 obtain ⟨b, eb, B⟩ := spec_l20Open_eq h
 obtain ⟨r, q, e, hl, _⟩ := spec_l20Flat_ev B (p := 0) (by omega) (by omega) 9
 unfold spec_DrawPlaceOf.f
 exact ⟨r, Ev.bindv eb (Ev.bind e (Ev.now _)), hl⟩


end Go.Proofs.Ytfccopfhniobjaa.QFnPlaceOf
