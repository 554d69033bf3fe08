/- Contracts of the functions that the statement FnPutInOrder reaches: what each printed function comes to. -/
import Derived.Test.YtfccopfhniobjaaQFnPutInOrderx7
import Derived.Test.YtfccopfhniobjaaWSized
import Derived.Test.YtfccopfhniobjaaHdA
import Derived.Test.YtfccopfhniobjaaHdG
namespace Go.Proofs.Ytfccopfhniobjaa.PrintWords
/-- The name by which the printed row calls the word. -/
abbrev sized_ints := @Go.Proofs.YtfccopfhniobjaaW.PrintWords.sized_ints
end Go.Proofs.Ytfccopfhniobjaa.PrintWords
namespace Go.Proofs.Ytfccopfhniobjaa.QFnPutInOrder
open Go.RowKit Go.Proofs.YtfccopfhniobjaaW.PrintWords Go.Proofs.YtfccopfhniobjaaW.PrintLast Go.Proofs.YtfccopfhniobjaaW.PrintMore
set_option linter.unusedVariables false
set_option linter.unusedSimpArgs false
theorem wid {x : Int} (h : -9223372036854775808 ≤ x) (h' : x ≤ 9223372036854775807) : wrap64 x = x := by unfold wrap64; omega
theorem Ev.pos {α : Type} {c : Prop} [Decidable c] {A B : Nat → Option α} {r : α} (h : c) (e : Ev A r) : Ev (fun k => if c then A k else B k) r := by simpa only [if_pos h] using e
theorem Ev.neg {α : Type} {c : Prop} [Decidable c] {A B : Nat → Option α} {r : α} (h : ¬ c) (e : Ev B r) : Ev (fun k => if c then A k else B k) r := by simpa only [if_neg h] using e
theorem Ev.bindv {α β : Type} {o : Option α} {f : Nat → α → Option β} {a : α} {r : β} (h : o = some a) (k : Ev (fun n => f n a) r) : Ev (fun n => o.bind (f n)) r := by subst h; exact k
theorem Ev.ret {α : Type} {a r : α} (h : a = r) : Ev (fun _ => some a) r := h ▸ Ev.now a
theorem rd_hd {l : List Int} {a : Int} (h : 1 ≤ a) : rd l (a - 1) = Hd.hd l a := Hd.hd_get h
theorem rd_hd1 {l : List Int} {a : Int} (h : 0 ≤ a) : rd l a = Hd.hd l (a + 1) := by rw [← rd_hd (by omega)]; congr 1; omega
theorem mn_mx (a b : Int) : (mn a b = a ∧ mx a b = b ∧ a ≤ b) ∨ (mn a b = b ∧ mx a b = a ∧ b ≤ a) := by
 unfold mn mx
 split <;> split <;> omega
theorem h_or_i64 {a b : Nat} (ha : a < 256) (hb : b < 256) : Go.bits .or .i64 (a : Int) (b : Int) = ((a ||| b : Nat) : Int) :=
 (Go.bits_nat .i64 8 (by decide) (fun n h0 h1 => by rw [Go.IntKind.wrap_i64]; omega) a b (by omega) (by omega)).2
theorem h_shl_one {x : Nat} (h : x ≤ 7) : shl .i64 1 (x : Int) = ((2 ^ x : Nat) : Int) := by
 have : ∀ x : Nat, x < 8 → shl .i64 1 (x : Int) = ((2 ^ x : Nat) : Int) := by decide
 exact this x (by omega)
theorem h_shr_bit {v x : Nat} (h : x ≤ 64) : (Int.tmod (shr .i64 (v : Int) (x : Int)) 2 = 1) ↔ v.testBit x = true := by
 unfold shr
 rw [Int.toNat_natCast, Nat.min_eq_left (by simpa [Go.IntKind.bits] using h), Nat.testBit_eq_decide_div_mod_eq]
 have : ((v : Int) / 2 ^ x) = ((v / 2 ^ x : Nat) : Int) := by simp
 rw [this, Int.tmod_eq_emod_of_nonneg (Int.natCast_nonneg _), decide_eq_true_eq]
 omega
theorem h_shr_nat {v x : Nat} (h : x ≤ 64) : shr .i64 (v : Int) (x : Int) = ((v / 2 ^ x : Nat) : Int) := by
 unfold shr
 rw [Int.toNat_natCast, Nat.min_eq_left (by simpa [Go.IntKind.bits] using h)]
 simp
theorem h_and_i64 {a b : Nat} (ha : a < 512) (hb : b < 512) : Go.bits .and .i64 (a : Int) (b : Int) = ((a &&& b : Nat) : Int) :=
 (Go.bits_nat .i64 9 (by decide) (fun n h0 h1 => by rw [Go.IntKind.wrap_i64]; omega) a b (by omega) (by omega)).1
theorem h_rd_set {P : List Int} {i j : Int} {v : Int} (h0 : 0 ≤ i) (h1 : i < P.length) (hj : 0 ≤ j) : rd (P.set i.toNat v) j = if j = i then v else rd P j := by
 unfold rd
 rw [List.getD_eq_getElem?_getD, List.getElem?_set]
 by_cases e : j = i
 ·subst e
  rw [if_pos rfl, if_pos (by omega), if_pos rfl]; rfl
 ·rw [if_neg (by omega), if_neg e, List.getD_eq_getElem?_getD]
/-- Bytes of a code, as far as they are read. -/
def Bts (b : List Int) : Prop := b.length ≤ 2000 ∧ ∀ i : Int, 0 ≤ rd b i ∧ rd b i ≤ 255
theorem bts_rd {l : List Int} (h : ∀ x, x ∈ l → 0 ≤ x ∧ x ≤ 255) (i : Int) : 0 ≤ rd l i ∧ rd l i ≤ 255 := by
 unfold rd
 rw [List.getD_eq_getElem?_getD]
 by_cases hi : i.toNat < l.length
 ·rw [List.getElem?_eq_getElem hi]; exact h _ (List.getElem_mem hi)
 ·rw [List.getElem?_eq_none (by omega)]; simp
theorem Ev.lit {α : Type} {g : Nat → Option α} {r : α} (K : Nat) (h : ∀ m, g (m + K) = some r) : Ev g r := ⟨K, fun k hk => by obtain ⟨m, rfl⟩ := Nat.exists_eq_add_of_le' hk; exact h m⟩
theorem rd_at {l : List Int} {j : Nat} (h : j < l.length) : rd l (j : Int) = l[j] := by
 simp [rd, List.getD_eq_getElem?_getD, List.getElem?_eq_getElem h]

/-! impl_steps -/
theorem impl_steps.l0.ev {x0 : List Int} {x1 : Int} {x7 : Int} {x8 : Int} {r : Int} (h : Ev (fun k => if x8 < x7 then (if 0 ≤ (wrap64 (x1 - 1)) then (if (wrap64 (x1 - 1)) < (x0.length : Int) then (if (rd x0 (wrap64 (x1 - 1))) = 0 then (some x8) else (impl_steps.l0 k x0 (rd x0 (wrap64 (x1 - 1))) x7 (wrap64 (x8 + 1)))) else (none)) else (none)) else (some (-1))) r) : Ev (fun k => impl_steps.l0 k x0 x1 x7 x8) r := Ev.step (fun _ => rfl) h
theorem impl_steps_l0 {l : List Int} (v : Hd.Vals l) (h8 : l.length ≤ 8) : ∀ (d : Nat) (m w : Int), 0 ≤ m → m + d = l.length → 1 ≤ w → w ≤ l.length →
  Ev (fun k => impl_steps.l0 k l w l.length m) (if Hd.it (Hd.hd l) d w = 0 then m + Hd.depF (Hd.hd l) d w else -1)
 | 0, m, w, h0, hd, h1, h2 => by
  refine impl_steps.l0.ev ?_
  rw [if_neg (show ¬ Hd.it (Hd.hd l) 0 w = 0 from fun e => by have : w = 0 := e; omega)]
  exact Ev.neg (by omega) (Ev.now _)
 | d + 1, m, w, h0, hd, h1, h2 => by
  refine impl_steps.l0.ev ?_
  rw [wid (x := w - 1) (by omega) (by omega), wid (x := m + 1) (by omega) (by omega), rd_hd h1]
  refine Ev.pos (by omega) (Ev.pos (by omega) (Ev.pos (by omega) ?_))
  by_cases hz : Hd.hd l w = 0
  ·refine Ev.pos hz (Ev.ret ?_)
   have : Hd.it (Hd.hd l) (d + 1) w = 0 := by show Hd.it (Hd.hd l) d (Hd.hd l w) = 0; rw [hz]; exact Hd.it_zero (Hd.hd_zero l) d
   rw [if_pos this, Hd.depF, if_pos hz]; simp
  ·refine Ev.neg hz ?_
   have := v w h1 h2
   have ih := impl_steps_l0 v h8 d (m + 1) (Hd.hd l w) (by omega) (by omega) (by omega) (by omega)
   have e : Hd.it (Hd.hd l) (d + 1) w = Hd.it (Hd.hd l) d (Hd.hd l w) := rfl
   rw [e, Hd.depF, if_neg hz]
   have e2 : m + ((Hd.depF (Hd.hd l) d (Hd.hd l w) + 1 : Nat) : Int) = m + 1 + (Hd.depF (Hd.hd l) d (Hd.hd l w) : Nat) := by omega
   rw [e2]; exact ih
theorem impl_steps_ev {l : List Int} (v : Hd.Vals l) (h8 : l.length ≤ 8) {w : Int} (h1 : 1 ≤ w) (h2 : w ≤ l.length) :
  Ev (fun k => impl_steps.f k l w) (if Hd.it (Hd.hd l) l.length w = 0 then (Hd.depF (Hd.hd l) l.length w : Int) else -1) := by
 have := impl_steps_l0 v h8 l.length 0 w (by omega) (by omega) h1 h2
 simp only [Int.zero_add] at this
 exact this

/-! impl_TreeOk -/
theorem impl_TreeOk.j0.ev {x0 : List Int} {x14 : Bool} {r : Bool} (h : Ev (fun k => if x14 = true then (some false) else (impl_TreeOk.l0 k x0 0 x0 (x0.length : Int) 0)) r) : Ev (fun k => impl_TreeOk.j0 k x0 x14) r := Ev.step (fun _ => rfl) h
theorem impl_TreeOk.l0.ev {x0 : List Int} {x3 : Int} {x15 : List Int} {x16 : Int} {x17 : Int} {r : Bool} (h : Ev (fun k => if x17 < x16 then (if 0 ≤ x17 then (if x17 < (x15.length : Int) then (if (rd x15 x17) < 0 then (impl_TreeOk.j2 k x0 x3 (rd x15 x17) x15 x16 x17 true) else (impl_TreeOk.j2 k x0 x3 (rd x15 x17) x15 x16 x17 (decide ((rd x15 x17) > (x0.length : Int))))) else (none)) else (none)) else (impl_TreeOk.l1 k x0 x3 (x0.length : Int) 0)) r) : Ev (fun k => impl_TreeOk.l0 k x0 x3 x15 x16 x17) r := Ev.step (fun _ => rfl) h
theorem impl_TreeOk.j2.ev {x0 : List Int} {x3 : Int} {x5 : Int} {x15 : List Int} {x16 : Int} {x17 : Int} {x28 : Bool} {r : Bool} (h : Ev (fun k => if x28 = true then (some false) else (if x5 = 0 then (impl_TreeOk.l0 k x0 (wrap64 (x3 + 1)) x15 x16 (wrap64 (x17 + 1))) else (impl_TreeOk.l0 k x0 x3 x15 x16 (wrap64 (x17 + 1))))) r) : Ev (fun k => impl_TreeOk.j2 k x0 x3 x5 x15 x16 x17 x28) r := Ev.step (fun _ => rfl) h
theorem impl_TreeOk.l1.ev {x0 : List Int} {x3 : Int} {x35 : Int} {x36 : Int} {r : Bool} (h : Ev (fun k => if x36 < x35 then ((impl_steps.f k x0 (wrap64 (x36 + 1))).bind fun t103 => (if t103 < 0 then (some false) else (impl_TreeOk.l1 k x0 x3 x35 (wrap64 (x36 + 1))))) else (some (x3 == 1))) r) : Ev (fun k => impl_TreeOk.l1 k x0 x3 x35 x36) r := Ev.step (fun _ => rfl) h
theorem impl_TreeOk_l1 {l : List Int} (v : Hd.Vals l) (h8 : l.length ≤ 8) {c : Int} (hc : c = Hd.zeros l l.length) : ∀ i : Int, i ≤ l.length → 0 ≤ i → (∀ a : Int, 1 ≤ a → a ≤ i → Hd.it (Hd.hd l) l.length a = 0) →
  Ev (fun k => impl_TreeOk.l1 k l c l.length i) (Hd.treeB l) := by
 refine Hd.down ?_
 intro i hi ih h0 hb
 refine impl_TreeOk.l1.ev ?_
 by_cases hlt : i < l.length
 ·rw [wid (x := i + 1) (by omega) (by omega)]
  refine Ev.pos hlt (Ev.bind (impl_steps_ev v h8 (by omega) (by omega)) ?_)
  by_cases hz : Hd.it (Hd.hd l) l.length (i + 1) = 0
  ·rw [if_pos hz]
   refine Ev.neg (by omega) (ih hlt (by omega) fun a h1 h2 => ?_)
   by_cases e : a = i + 1
   ·rw [e]; exact hz
   ·exact hb a h1 (by omega)
  ·rw [if_neg hz, Hd.treeB_no (fun t => hz (t.2.back _ (by omega) (by omega)))]
   exact Ev.pos (by omega) (Ev.now _)
 ·refine Ev.neg hlt (Ev.ret ?_)
  have t := Hd.T_iff h8 v (fun a h1 h2 => hb a h1 (by omega))
  by_cases e : Hd.zeros l l.length = 1
  ·rw [Hd.treeB_yes (t.2 e), hc, e]; rfl
  ·rw [Hd.treeB_no (fun x => e (t.1 x)), hc]; simp; omega
theorem impl_TreeOk_l0 {l : List Int} (h8 : l.length ≤ 8) : ∀ i : Int, i ≤ l.length → 0 ≤ i → (∀ a : Int, 1 ≤ a → a ≤ i → 0 ≤ Hd.hd l a ∧ Hd.hd l a ≤ l.length) →
  Ev (fun k => impl_TreeOk.l0 k l (Hd.zeros l i.toNat) l l.length i) (Hd.treeB l) := by
 refine Hd.down ?_
 intro i hi ih h0 hb
 refine impl_TreeOk.l0.ev ?_
 by_cases hlt : i < l.length
 ·have hz := Hd.cnt_le (fun a => decide (Hd.hd l a = 0)) i.toNat
  have hzz : Hd.zeros l (i + 1).toNat = Hd.zeros l i.toNat + if Hd.hd l (i + 1) = 0 then 1 else 0 := by
   rw [show (i + 1).toNat = i.toNat + 1 from by omega]
   show Hd.cnt _ (i.toNat + 1) = _
   rw [Hd.cnt, show ((i.toNat : Int) + 1) = i + 1 from by omega]
   simp [Hd.zeros]
  have hz' : Hd.zeros l i.toNat ≤ i.toNat := hz
  rw [rd_hd1 h0]
  refine Ev.pos hlt (Ev.pos h0 (Ev.pos hlt ?_))
  have no : ¬ (0 ≤ Hd.hd l (i + 1) ∧ Hd.hd l (i + 1) ≤ l.length) → Hd.treeB l = false := fun hn => Hd.treeB_no fun t => hn (t.vals _ (by omega) (by omega))
  by_cases hneg : Hd.hd l (i + 1) < 0
  ·refine Ev.pos hneg (impl_TreeOk.j2.ev (Ev.pos rfl (Ev.ret ?_)))
   rw [no (by omega)]
  ·refine Ev.neg hneg (impl_TreeOk.j2.ev ?_)
   by_cases hbig : Hd.hd l (i + 1) > l.length
   ·refine Ev.pos (by simpa using hbig) (Ev.ret ?_)
    rw [no (by omega)]
   ·refine Ev.neg (by simpa using hbig) ?_
    rw [wid (x := (Hd.zeros l i.toNat : Int) + 1) (by omega) (by omega), wid (x := i + 1) (by omega) (by omega)]
    have next := ih hlt (by omega) (fun a h1 h2 => by
     by_cases e : a = i + 1
     ·rw [e]; omega
     ·exact hb a h1 (by omega))
    rw [hzz] at next
    by_cases h00 : Hd.hd l (i + 1) = 0
    ·rw [if_pos h00] at next
     exact Ev.pos h00 next
    ·rw [if_neg h00] at next
     exact Ev.neg h00 next
 ·refine Ev.neg hlt ?_
  have e : i.toNat = l.length := by omega
  rw [e]
  exact impl_TreeOk_l1 (fun a h1 h2 => hb a h1 (by omega)) h8 rfl 0 (by omega) (by omega) (fun a h1 h2 => by omega)
theorem impl_TreeOk_ev (l : List Int) : Ev (fun k => impl_TreeOk.f k l) (Hd.treeB l) := by
 unfold impl_TreeOk.f
 by_cases h1 : (l.length : Int) < 1
 ·refine Ev.pos h1 (impl_TreeOk.j0.ev (Ev.pos rfl (Ev.ret ?_)))
  exact (Hd.treeB_no fun t => by have := t.2.pos; omega).symm
 ·refine Ev.neg h1 (impl_TreeOk.j0.ev ?_)
  by_cases h8 : (l.length : Int) > 8
  ·refine Ev.pos (by simpa using h8) (Ev.ret ?_)
   exact (Hd.treeB_no fun t => by have := t.1; omega).symm
  ·refine Ev.neg (by simpa using h8) ?_
   exact impl_TreeOk_l0 (by omega) 0 (by omega) (by omega) (fun a h1 h2 => by omega)

/-! laws_alive -/

theorem alive_one : Hd.treeB [0] = true := by
 have one : ∀ a : Int, 1 ≤ a → a ≤ ([0] : List Int).length → a = 1 := fun a h1 h2 => by simp at h2; omega
 exact Hd.treeB_yes ((Hd.T_iff (l := [0]) (by decide) (fun a h1 h2 => by rw [one a h1 h2]; decide) (fun a h1 h2 => by rw [one a h1 h2]; decide)).2 (by decide))
theorem alive_two : Hd.treeB [1] = false := Hd.treeB_no fun t => by
 have := t.2.not_own (a := 1) (by simp)
 exact this (by decide)
theorem laws_alive_ev : Ev (fun k => laws_alive.f k) true := by
 unfold laws_alive.f
 refine Ev.bind (impl_TreeOk_ev [0]) (Ev.pos alive_one (Ev.bind (impl_TreeOk_ev [1]) (Ev.ret ?_)))
 rw [alive_two]; rfl

/-! spec_l20Open -/

theorem spec_l20Open_eq {l : List Int} (h : ∀ x ∈ l, (Lit.int .u8 x).wf = true) : ∃ b, spec_l20Open.f l = some (b, 0) ∧ Bts b := by
 have hb : ∀ x, x ∈ l → 0 ≤ x ∧ x ≤ 255 := fun x hx => by
  have := h x hx
  simpa [Lit.wf, IntKind.min, IntKind.max, IntKind.signed, IntKind.bits] using this
 unfold spec_l20Open.f
 by_cases hl : (l.length : Int) > 2000
 ·rw [if_pos hl, if_pos (by omega)]
  exact ⟨_, rfl, by simp; omega, bts_rd fun x hx => hb x (List.mem_of_mem_take hx)⟩
 ·rw [if_neg hl]
  exact ⟨_, rfl, by omega, bts_rd hb⟩

/-! spec_l20Rd_pick -/
theorem spec_l20Rd_pick.j0.ev {x1 : Int} {x24 : Bool} {x1000 : List Int} {x1001 : Int} {r : Int × Int} (h : Ev (fun k => if x24 = true then (some (0, x1001)) else (if (wrap64 (x1001 - 1)) < (x1000.length : Int) then (if 0 ≤ (wrap64 (x1001 - 1)) then (if x1 = 0 then (none) else (some (Int.tmod (wrap64 (rd x1000 (wrap64 (x1001 - 1)))) x1, x1001))) else (none)) else (if (x1000.length : Int) = 0 then (none) else (if 0 ≤ (Int.tmod (wrap64 (x1001 - 1)) (x1000.length : Int)) then (if (Int.tmod (wrap64 (x1001 - 1)) (x1000.length : Int)) < (x1000.length : Int) then (if 0 ≤ (Int.tmod (wrap64 ((wrap64 ((wrap64 (x1001 - 1)) * 7)) + 3)) (x1000.length : Int)) then (if (Int.tmod (wrap64 ((wrap64 ((wrap64 (x1001 - 1)) * 7)) + 3)) (x1000.length : Int)) < (x1000.length : Int) then (if x1 = 0 then (none) else (some (Int.tmod (Go.bits .xor .i64 (wrap64 ((wrap64 ((wrap64 ((wrap64 ((wrap64 (rd x1000 (Int.tmod (wrap64 (x1001 - 1)) (x1000.length : Int)))) * 131)) + (wrap64 ((wrap64 (rd x1000 (Int.tmod (wrap64 ((wrap64 ((wrap64 (x1001 - 1)) * 7)) + 3)) (x1000.length : Int)))) * 1117)))) + (wrap64 ((wrap64 (x1001 - 1)) * 29)))) + (wrap64 ((wrap64 (Int.tdiv (wrap64 (x1001 - 1)) (x1000.length : Int))) * 53)))) (wrap64 (Int.tdiv (wrap64 ((wrap64 ((wrap64 ((wrap64 ((wrap64 (rd x1000 (Int.tmod (wrap64 (x1001 - 1)) (x1000.length : Int)))) * 131)) + (wrap64 ((wrap64 (rd x1000 (Int.tmod (wrap64 ((wrap64 ((wrap64 (x1001 - 1)) * 7)) + 3)) (x1000.length : Int)))) * 1117)))) + (wrap64 ((wrap64 (x1001 - 1)) * 29)))) + (wrap64 ((wrap64 (Int.tdiv (wrap64 (x1001 - 1)) (x1000.length : Int))) * 53)))) 64))) x1, x1001))) else (none)) else (none)) else (none)) else (none))))) r) : Ev (fun k => spec_l20Rd_pick.j0 k x1 x24 x1000 x1001) r := Ev.step (fun _ => rfl) h
theorem bits_xor_nat (k : Go.IntKind) (j : Nat) (hj : j ≤ k.bits) (hk : ∀ n : Int, 0 ≤ n → n < 2 ^ j → k.wrap n = n) (a b : Nat) (ha : a < 2 ^ j) (hb : b < 2 ^ j) : Go.bits .xor k a b = ((a ^^^ b : Nat) : Int) := by
 have hp : 2 ^ j ≤ 2 ^ k.bits := Nat.pow_le_pow_right (by decide) hj
 have ha' : a % 2 ^ k.bits = a := Nat.mod_eq_of_lt (Nat.lt_of_lt_of_le ha hp)
 have hb' : b % 2 ^ k.bits = b := Nat.mod_eq_of_lt (Nat.lt_of_lt_of_le hb hp)
 simp only [Go.bits, BitVec.ofInt_natCast, BitVec.toNat_xor, BitVec.toNat_ofNat, ha', hb']
 refine hk _ (Int.natCast_nonneg _) ?_
 exact_mod_cast Nat.xor_lt_two_pow ha hb
theorem h_xor_i64 {a b : Nat} (ha : a < 2 ^ 40) (hb : b < 2 ^ 40) : Go.bits .xor .i64 (a : Int) (b : Int) = ((a ^^^ b : Nat) : Int) :=
 bits_xor_nat .i64 40 (by decide) (fun n h0 h1 => by rw [Go.IntKind.wrap_i64]; omega) a b ha hb
theorem xor_nonneg {x : Int} (h0 : 0 ≤ x) (h1 : x < 1000000000) : 0 ≤ Go.bits .xor .i64 x (Int.tdiv x 64) ∧ Go.bits .xor .i64 x (Int.tdiv x 64) < 2 ^ 40 := by
 obtain ⟨a, rfl⟩ := Int.eq_ofNat_of_zero_le h0
 have : Int.tdiv (a : Int) 64 = ((a / 64 : Nat) : Int) := by
  rw [Int.tdiv_eq_ediv_of_nonneg (by omega)]; simp
 rw [this, h_xor_i64 (by omega) (by omega)]
 have := Nat.xor_lt_two_pow (n := 40) (x := a) (y := a / 64) (by omega) (by omega)
 omega
theorem spec_l20Rd_pick_ev {b : List Int} (B : Bts b) {p : Int} (h0 : 0 ≤ p) (h1 : p ≤ 1000000) (n : Int) : ∃ r : Int, Ev (fun k => spec_l20Rd_pick.f k b p n) (r, p + 1) ∧ 0 ≤ r ∧ (1 ≤ n → r < n) := by
 unfold spec_l20Rd_pick.f
 rw [wid (x := p + 1) (by omega) (by omega)]
 by_cases hn : n < 1
 ·exact ⟨0, Ev.pos hn (spec_l20Rd_pick.j0.ev (Ev.pos rfl (Ev.now _))), by omega, by omega⟩
 by_cases hb : b.length = 0
 ·refine ⟨0, Ev.neg hn ?_, by omega, by omega⟩
  rw [show ((b.length : Int) == 0) = true from by simp [hb]]
  exact spec_l20Rd_pick.j0.ev (Ev.pos rfl (Ev.now _))
 have hlen := B.1
 have key : ∃ r : Int, Ev (fun k => spec_l20Rd_pick.j0 k n false b (p + 1)) (r, p + 1) ∧ 0 ≤ r ∧ (1 ≤ n → r < n) := by
  by_cases hlt : p < b.length
  ·refine ⟨Int.tmod (rd b p) n, spec_l20Rd_pick.j0.ev (Ev.neg (by simp) ?_), Int.tmod_nonneg _ (B.2 p).1, fun h => Int.tmod_lt_of_pos _ (by omega)⟩
   have := B.2 p
   rw [wid (x := p + 1 - 1) (by omega) (by omega), show p + 1 - 1 = p from by omega, wid (x := rd b p) (by omega) (by omega)]
   exact Ev.pos hlt (Ev.pos h0 (Ev.neg (by omega) (Ev.now _)))
  ·have t0 : 0 ≤ Int.tmod p b.length := Int.tmod_nonneg _ h0
   have t1 : Int.tmod p b.length < b.length := Int.tmod_lt_of_pos _ (by omega)
   have u0 : 0 ≤ Int.tmod (p * 7 + 3) b.length := Int.tmod_nonneg _ (by omega)
   have u1 : Int.tmod (p * 7 + 3) b.length < b.length := Int.tmod_lt_of_pos _ (by omega)
   have v0 : 0 ≤ Int.tdiv p b.length := Int.tdiv_nonneg h0 (by omega)
   have v1 : Int.tdiv p b.length ≤ p := by
    rw [Int.tdiv_eq_ediv_of_nonneg h0]
    exact Int.ediv_le_self _ h0
   have b1 := B.2 (Int.tmod p b.length)
   have b2 := B.2 (Int.tmod (p * 7 + 3) b.length)
   generalize e1 : rd b (Int.tmod p b.length) = y1 at *
   generalize e2 : rd b (Int.tmod (p * 7 + 3) b.length) = y2 at *
   have hx0 : 0 ≤ y1 * 131 + y2 * 1117 + p * 29 + Int.tdiv p b.length * 53 := by omega
   have hx1 : y1 * 131 + y2 * 1117 + p * 29 + Int.tdiv p b.length * 53 < 1000000000 := by omega
   have hx := xor_nonneg hx0 hx1
   refine ⟨Int.tmod (Go.bits .xor .i64 (y1 * 131 + y2 * 1117 + p * 29 + Int.tdiv p b.length * 53) (Int.tdiv (y1 * 131 + y2 * 1117 + p * 29 + Int.tdiv p b.length * 53) 64)) n, spec_l20Rd_pick.j0.ev (Ev.neg (by simp) ?_), Int.tmod_nonneg _ hx.1, fun h => Int.tmod_lt_of_pos _ (by omega)⟩
   have d0 : 0 ≤ Int.tdiv (y1 * 131 + y2 * 1117 + p * 29 + Int.tdiv p b.length * 53) 64 := Int.tdiv_nonneg hx0 (by omega)
   have d1 : Int.tdiv (y1 * 131 + y2 * 1117 + p * 29 + Int.tdiv p b.length * 53) 64 ≤ y1 * 131 + y2 * 1117 + p * 29 + Int.tdiv p b.length * 53 := by
    rw [Int.tdiv_eq_ediv_of_nonneg hx0]
    exact Int.ediv_le_self _ hx0
   rw [wid (x := p + 1 - 1) (by omega) (by omega), show p + 1 - 1 = p from by omega, wid (x := p * 7) (by omega) (by omega), wid (x := p * 7 + 3) (by omega) (by omega), e1, e2]
   rw [wid (x := y1) (by omega) (by omega), wid (x := y2) (by omega) (by omega), wid (x := y1 * 131) (by omega) (by omega), wid (x := y2 * 1117) (by omega) (by omega), wid (x := y1 * 131 + y2 * 1117) (by omega) (by omega), wid (x := p * 29) (by omega) (by omega), wid (x := y1 * 131 + y2 * 1117 + p * 29) (by omega) (by omega)]
   rw [wid (x := Int.tdiv p b.length) (by omega) (by omega), wid (x := Int.tdiv p b.length * 53) (by omega) (by omega), wid (x := y1 * 131 + y2 * 1117 + p * 29 + Int.tdiv p b.length * 53) (by omega) (by omega)]
   rw [wid (x := Int.tdiv (y1 * 131 + y2 * 1117 + p * 29 + Int.tdiv p b.length * 53) 64) (by omega) (by omega)]
   exact Ev.neg hlt (Ev.neg (by omega) (Ev.pos t0 (Ev.pos t1 (Ev.pos u0 (Ev.pos u1 (Ev.neg (by omega) (Ev.now _)))))))
 obtain ⟨r, e, h2, h3⟩ := key
 refine ⟨r, Ev.neg hn ?_, h2, h3⟩
 rw [show ((b.length : Int) == 0) = false from by simpa using hb]
 exact e

/-! spec_l20Order -/
theorem spec_l20Order.l0.ev {x1 : Int} {x5 : List Int} {x6 : Int} {x7 : Int} {x1000 : List Int} {x1001 : Int} {r : List Int × Int} (h : Ev (fun k => if x7 ≤ x1 then (if x6 = 0 then ((spec_l20Rd_pick.f k x1000 x1001 x7).bind fun bt123 => ((some (([] : List Int) : List Int)).bind fun y125 => (if 0 ≤ bt123.1 then (if bt123.1 ≤ (x5.length : Int) then ((some (x5.take (bt123.1 : Int).toNat : List Int)).bind fun y128 => (if y125.length + y128.length < 17592186044416 then ((some (y125 ++ y128 : List Int)).bind fun y132 => (if y132.length < 17592186044416 then ((some (y132 ++ [x7] : List Int)).bind fun y135 => ((some (x5.drop (bt123.1 : Int).toNat : List Int)).bind fun y138 => (if y135.length + y138.length < 17592186044416 then (spec_l20Order.l0 k x1 (y135 ++ y138) x6 (wrap64 (x7 + 1)) x1000 bt123.2) else (none)))) else (none))) else (none))) else (none)) else (none)))) else ((spec_l20Rd_pick.f k x1000 x1001 3).bind fun bt145 => (if bt145.1 = 0 then ((spec_l20Rd_pick.f k x1000 bt145.2 x7).bind fun bt147 => ((some (([] : List Int) : List Int)).bind fun y149 => (if 0 ≤ bt147.1 then (if bt147.1 ≤ (x5.length : Int) then ((some (x5.take (bt147.1 : Int).toNat : List Int)).bind fun y152 => (if y149.length + y152.length < 17592186044416 then ((some (y149 ++ y152 : List Int)).bind fun y156 => (if y156.length < 17592186044416 then ((some (y156 ++ [x7] : List Int)).bind fun y159 => ((some (x5.drop (bt147.1 : Int).toNat : List Int)).bind fun y162 => (if y159.length + y162.length < 17592186044416 then (spec_l20Order.l0 k x1 (y159 ++ y162) x6 (wrap64 (x7 + 1)) x1000 bt147.2) else (none)))) else (none))) else (none))) else (none)) else (none)))) else ((some (([] : List Int) : List Int)).bind fun y169 => (if 0 ≤ (x5.length : Int) then (if (x5.length : Int) ≤ (x5.length : Int) then ((some (x5.take ((x5.length : Int) : Int).toNat : List Int)).bind fun y172 => (if y169.length + y172.length < 17592186044416 then ((some (y169 ++ y172 : List Int)).bind fun y176 => (if y176.length < 17592186044416 then ((some (y176 ++ [x7] : List Int)).bind fun y179 => ((some (x5.drop ((x5.length : Int) : Int).toNat : List Int)).bind fun y182 => (if y179.length + y182.length < 17592186044416 then (spec_l20Order.l0 k x1 (y179 ++ y182) x6 (wrap64 (x7 + 1)) x1000 bt145.2) else (none)))) else (none))) else (none))) else (none)) else (none)))))) else (some (x5, x1001))) r) : Ev (fun k => spec_l20Order.l0 k x1 x5 x6 x7 x1000 x1001) r := Ev.step (fun _ => rfl) h
/-- Numbers from 1 to many, so many of them. -/
def Ord (many : Int) (len : Nat) (o : List Int) : Prop := o.length = len ∧ ∀ x, x ∈ o → 1 ≤ x ∧ x ≤ many
theorem ord_put {many k a : Int} {o : List Int} (O : Ord many (k - 1).toNat o) (h1 : 1 ≤ k) (h2 : k ≤ many) (_h3 : 0 ≤ a) (_h4 : a < k) : Ord many (k + 1 - 1).toNat ((([] : List Int) ++ o.take a.toNat ++ [k]) ++ o.drop a.toNat) := by
 constructor
 ·have := O.1
  simp; omega
 ·intro x hx
  simp only [List.nil_append, List.mem_append, List.mem_singleton] at hx
  rcases hx with (hx | rfl) | hx
  ·exact O.2 x (List.mem_of_mem_take hx)
  ·exact ⟨h1, h2⟩
  ·exact O.2 x (List.mem_of_mem_drop hx)
theorem spec_l20Order_l0 {b : List Int} (B : Bts b) {many keep : Int} (hm : many ≤ 100) : ∀ i : Int, i ≤ many + 1 → 1 ≤ i → ∀ (o : List Int) (p : Int), Ord many (i - 1).toNat o → 0 ≤ p → p + 2 * (many + 1 - i) ≤ 900000 →
  ∃ (o' : List Int) (q : Int), Ev (fun k => spec_l20Order.l0 k many o keep i b p) (o', q) ∧ Ord many many.toNat o' ∧ p ≤ q ∧ q ≤ p + 2 * (many + 1 - i) := by
 refine Hd.down ?_
 intro i hi ih h1 o p O h0 hp
 have ol := O.1
 by_cases hlt : i ≤ many
 ·have hlen : (o.length : Int) = i - 1 := by omega
  by_cases hk : keep = 0
  ·obtain ⟨a, e, a0, a1⟩ := spec_l20Rd_pick_ev B h0 (by omega) i
   have a1 := a1 h1
   obtain ⟨o', q, e2, O2, q0, q1⟩ := ih (by omega) (by omega) _ (p + 1) (ord_put O h1 hlt a0 a1) (by omega) (by omega)
   refine ⟨o', q, spec_l20Order.l0.ev (Ev.pos hlt (Ev.pos hk (Ev.bind e ?_))), O2, by omega, by omega⟩
   rw [wid (x := i + 1) (by omega) (by omega)]
   refine Ev.bindv rfl (Ev.pos a0 (Ev.pos (by omega) (Ev.bindv rfl (Ev.pos (by simp; omega) (Ev.bindv rfl (Ev.pos (by simp; omega) (Ev.bindv rfl (Ev.bindv rfl (Ev.pos (by simp; omega) ?_)))))))))
   exact e2
  ·obtain ⟨s, es, _, _⟩ := spec_l20Rd_pick_ev B h0 (by omega) 3
   by_cases hs : s = 0
   ·obtain ⟨a, e, a0, a1⟩ := spec_l20Rd_pick_ev B (p := p + 1) (by omega) (by omega) i
    have a1 := a1 h1
    obtain ⟨o', q, e2, O2, q0, q1⟩ := ih (by omega) (by omega) _ (p + 1 + 1) (ord_put O h1 hlt a0 a1) (by omega) (by omega)
    refine ⟨o', q, spec_l20Order.l0.ev (Ev.pos hlt (Ev.neg hk (Ev.bind es (Ev.pos hs (Ev.bind e ?_))))), O2, by omega, by omega⟩
    rw [wid (x := i + 1) (by omega) (by omega)]
    refine Ev.bindv rfl (Ev.pos a0 (Ev.pos (by omega) (Ev.bindv rfl (Ev.pos (by simp; omega) (Ev.bindv rfl (Ev.pos (by simp; omega) (Ev.bindv rfl (Ev.bindv rfl (Ev.pos (by simp; omega) ?_)))))))))
    exact e2
   ·obtain ⟨o', q, e2, O2, q0, q1⟩ := ih (by omega) (by omega) _ (p + 1) (ord_put O h1 hlt (a := (o.length : Int)) (by omega) (by omega)) (by omega) (by omega)
    refine ⟨o', q, spec_l20Order.l0.ev (Ev.pos hlt (Ev.neg hk (Ev.bind es (Ev.neg hs ?_)))), O2, by omega, by omega⟩
    rw [wid (x := i + 1) (by omega) (by omega)]
    refine Ev.bindv rfl (Ev.pos (by omega) (Ev.pos (by omega) (Ev.bindv rfl (Ev.pos (by simp; omega) (Ev.bindv rfl (Ev.pos (by simp; omega) (Ev.bindv rfl (Ev.bindv rfl (Ev.pos (by simp; omega) ?_)))))))))
    exact e2
 ·refine ⟨o, p, spec_l20Order.l0.ev (Ev.neg hlt (Ev.now _)), ?_, by omega, by omega⟩
  rw [show many.toNat = (i - 1).toNat from by omega]; exact O
theorem spec_l20Order_ev {b : List Int} (B : Bts b) {p : Int} (h0 : 0 ≤ p) (h1 : p ≤ 800000) {many : Int} (hm0 : 0 ≤ many) (hm : many ≤ 100) :
  ∃ (o : List Int) (q : Int), Ev (fun k => spec_l20Order.f k b p many) (o, q) ∧ Ord many many.toNat o ∧ p ≤ q ∧ q ≤ p + 300 := by
 obtain ⟨s, es, _, _⟩ := spec_l20Rd_pick_ev B h0 (by omega) 2
 obtain ⟨o, q, e, O, q0, q1⟩ := spec_l20Order_l0 B (keep := s) hm 1 (by omega) (by omega) [] (p + 1) ⟨rfl, fun x hx => by cases hx⟩ (by omega) (by omega)
 refine ⟨o, q, ?_, O, by omega, by omega⟩
 unfold spec_l20Order.f
 exact Ev.bind es e

/-! spec_l20Rd_odd -/

theorem spec_l20Rd_odd_ev {b : List Int} (B : Bts b) {p : Int} (h0 : 0 ≤ p) (h1 : p ≤ 1000000) (n : Int) : ∃ (r : Bool) (q : Int), Ev (fun k => spec_l20Rd_odd.f k b p n) (r, q) ∧ p ≤ q ∧ q ≤ p + 1 := by
 unfold spec_l20Rd_odd.f
 by_cases hn : n > 0
 ·obtain ⟨r, e, _, _⟩ := spec_l20Rd_pick_ev B h0 h1 n
  exact ⟨_, _, Ev.pos hn (Ev.bind e (Ev.now _)), by omega, by omega⟩
 ·exact ⟨_, _, Ev.neg hn (Ev.now _), by omega, by omega⟩

/-! spec_l20Tree -/
theorem spec_l20Tree.l0.ev {x1 : Int} {x5 : Int} {x6 : List Int} {x7 : List Int} {x8 : Int} {x9 : Int} {x1000 : List Int} {x1001 : Int} {r : List Int × Int} (h : Ev (fun k => if x9 < x5 then ((spec_l20Rd_pick.f k x1000 x1001 x9).bind fun bt202 => (if x8 = 1 then ((spec_l20Rd_pick.f k x1000 bt202.2 2).bind fun bt204 => (if bt204.1 = 0 then (if 0 ≤ x9 then (if x9 < (x6.length : Int) then (if 0 ≤ (wrap64 (x9 - 1)) then (if (wrap64 (x9 - 1)) < (x6.length : Int) then (if 0 ≤ (wrap64 ((rd x6 x9) - 1)) then (if (wrap64 ((rd x6 x9) - 1)) < (x7.length : Int) then (spec_l20Tree.l0 k x1 x5 x6 (x7.set ((wrap64 ((rd x6 x9) - 1)) : Int).toNat (rd x6 (wrap64 (x9 - 1)))) x8 (wrap64 (x9 + 1)) x1000 bt204.2) else (none)) else (none)) else (none)) else (none)) else (none)) else (none)) else (if 0 ≤ x9 then (if x9 < (x6.length : Int) then (if 0 ≤ bt202.1 then (if bt202.1 < (x6.length : Int) then (if 0 ≤ (wrap64 ((rd x6 x9) - 1)) then (if (wrap64 ((rd x6 x9) - 1)) < (x7.length : Int) then (spec_l20Tree.l0 k x1 x5 x6 (x7.set ((wrap64 ((rd x6 x9) - 1)) : Int).toNat (rd x6 bt202.1)) x8 (wrap64 (x9 + 1)) x1000 bt204.2) else (none)) else (none)) else (none)) else (none)) else (none)) else (none)))) else (if 0 ≤ x9 then (if x9 < (x6.length : Int) then (if 0 ≤ bt202.1 then (if bt202.1 < (x6.length : Int) then (if 0 ≤ (wrap64 ((rd x6 x9) - 1)) then (if (wrap64 ((rd x6 x9) - 1)) < (x7.length : Int) then (spec_l20Tree.l0 k x1 x5 x6 (x7.set ((wrap64 ((rd x6 x9) - 1)) : Int).toNat (rd x6 bt202.1)) x8 (wrap64 (x9 + 1)) x1000 bt202.2) else (none)) else (none)) else (none)) else (none)) else (none)) else (none)))) else ((spec_l20Rd_odd.f k x1000 x1001 x1).bind fun bt215 => (if bt215.1 = true then ((spec_l20Rd_pick.f k x1000 bt215.2 4).bind fun bt217 => (if bt217.1 = 0 then (some ((([] : List Int)), bt217.2)) else (if bt217.1 = 1 then (some ((([2, 1, 0] : List Int)), bt217.2)) else (if bt217.1 = 2 then ((spec_l20Rd_pick.f k x1000 bt217.2 x5).bind fun bt225 => (if 0 ≤ bt225.1 then (if bt225.1 < (x7.length : Int) then ((some (x7.set (bt225.1 : Int).toNat 0 : List Int)).bind fun y227 => (if y227.length < 17592186044416 then (some ((y227 ++ [0]), bt225.2)) else (none))) else (none)) else (none))) else ((some (([1, wrap64 (x5 + 1), (-1)] : List Int) : List Int)).bind fun y231 => ((spec_l20Rd_pick.f k x1000 bt217.2 3).bind fun bt234 => (if 0 ≤ bt234.1 then (if bt234.1 < (y231.length : Int) then (if 0 < (x7.length : Int) then (some ((x7.set (0 : Int).toNat (rd y231 bt234.1)), bt234.2)) else (none)) else (none)) else (none)))))))) else (some (x7, bt215.2))))) r) : Ev (fun k => spec_l20Tree.l0 k x1 x5 x6 x7 x8 x9 x1000 x1001) r := Ev.step (fun _ => rfl) h
theorem ord_rd {many : Int} {n : Nat} {o : List Int} (O : Ord many n o) {i : Int} (h0 : 0 ≤ i) (h1 : i < n) : 1 ≤ rd o i ∧ rd o i ≤ many := by
 have := O.1
 unfold rd
 rw [List.getD_eq_getElem?_getD, List.getElem?_eq_getElem (by omega)]
 exact O.2 _ (List.getElem_mem _)
theorem spec_l20Tree_l0 {b : List Int} (B : Bts b) {odd many near : Int} (hm1 : 1 ≤ many) (hm : many ≤ 8) {o : List Int} (O : Ord many many.toNat o) : ∀ i : Int, i ≤ many → 1 ≤ i → ∀ (h : List Int) (p : Int), h.length = many.toNat → 0 ≤ p → p + 2 * (many - i) ≤ 900000 →
  ∃ (h' : List Int) (q : Int), Ev (fun k => spec_l20Tree.l0 k odd many o h near i b p) (h', q) ∧ h'.length ≤ 9 ∧ p ≤ q ∧ q ≤ p + 2 * (many - i) + 4 := by
 refine Hd.down ?_
 intro i hi ih h1 h p hl h0 hp
 have ol := O.1
 by_cases hlt : i < many
 ·obtain ⟨a, e, a0, a1⟩ := spec_l20Rd_pick_ev B h0 (by omega) i
  have a1 := a1 h1
  have r1 := ord_rd O (i := i) (by omega) (by omega)
  obtain ⟨s, es, _, _⟩ := spec_l20Rd_pick_ev B (p := p + 1) (by omega) (by omega) 2
  by_cases hn : near = 1
  ·by_cases hs : s = 0
   ·obtain ⟨h', q, e2, l2, q0, q1⟩ := ih hlt (by omega) (h.set (rd o i - 1).toNat (rd o (i - 1))) (p + 1 + 1) (by simpa using hl) (by omega) (by omega)
    refine ⟨h', q, spec_l20Tree.l0.ev (Ev.pos hlt (Ev.bind e (Ev.pos hn (Ev.bind es (Ev.pos hs ?_))))), l2, by omega, by omega⟩
    rw [wid (x := i + 1) (by omega) (by omega), wid (x := i - 1) (by omega) (by omega), wid (x := rd o i - 1) (by omega) (by omega)]
    exact Ev.pos (by omega) (Ev.pos (by omega) (Ev.pos (by omega) (Ev.pos (by omega) (Ev.pos (by omega) (Ev.pos (by omega) e2)))))
   ·obtain ⟨h', q, e2, l2, q0, q1⟩ := ih hlt (by omega) (h.set (rd o i - 1).toNat (rd o a)) (p + 1 + 1) (by simpa using hl) (by omega) (by omega)
    refine ⟨h', q, spec_l20Tree.l0.ev (Ev.pos hlt (Ev.bind e (Ev.pos hn (Ev.bind es (Ev.neg hs ?_))))), l2, by omega, by omega⟩
    rw [wid (x := i + 1) (by omega) (by omega), wid (x := rd o i - 1) (by omega) (by omega)]
    exact Ev.pos (by omega) (Ev.pos (by omega) (Ev.pos (by omega) (Ev.pos (by omega) (Ev.pos (by omega) (Ev.pos (by omega) e2)))))
  ·obtain ⟨h', q, e2, l2, q0, q1⟩ := ih hlt (by omega) (h.set (rd o i - 1).toNat (rd o a)) (p + 1) (by simpa using hl) (by omega) (by omega)
   refine ⟨h', q, spec_l20Tree.l0.ev (Ev.pos hlt (Ev.bind e (Ev.neg hn ?_))), l2, by omega, by omega⟩
   rw [wid (x := i + 1) (by omega) (by omega), wid (x := rd o i - 1) (by omega) (by omega)]
   exact Ev.pos (by omega) (Ev.pos (by omega) (Ev.pos (by omega) (Ev.pos (by omega) (Ev.pos (by omega) (Ev.pos (by omega) e2)))))
 ·obtain ⟨t, q, et, q0, q1⟩ := spec_l20Rd_odd_ev B h0 (by omega) odd
  cases t with
  | false => exact ⟨h, q, spec_l20Tree.l0.ev (Ev.neg hlt (Ev.bind et (Ev.neg (by simp) (Ev.now _)))), by omega, by omega, by omega⟩
  | true =>
   obtain ⟨c, ec, _, _⟩ := spec_l20Rd_pick_ev B (p := q) (by omega) (by omega) 4
   by_cases c0 : c = 0
   ·exact ⟨_, _, spec_l20Tree.l0.ev (Ev.neg hlt (Ev.bind et (Ev.pos rfl (Ev.bind ec (Ev.pos c0 (Ev.now _)))))), by simp, by omega, by omega⟩
   by_cases c1 : c = 1
   ·exact ⟨_, _, spec_l20Tree.l0.ev (Ev.neg hlt (Ev.bind et (Ev.pos rfl (Ev.bind ec (Ev.neg c0 (Ev.pos c1 (Ev.now _))))))), by simp, by omega, by omega⟩
   by_cases c2 : c = 2
   ·obtain ⟨d, ed, d0, d1⟩ := spec_l20Rd_pick_ev B (p := q + 1) (by omega) (by omega) many
    have d1 := d1 hm1
    exact ⟨_, _, spec_l20Tree.l0.ev (Ev.neg hlt (Ev.bind et (Ev.pos rfl (Ev.bind ec (Ev.neg c0 (Ev.neg c1 (Ev.pos c2 (Ev.bind ed (Ev.pos d0 (Ev.pos (by omega) (Ev.bindv rfl (Ev.pos (by simp; omega) (Ev.now _))))))))))))), by simp; omega, by omega, by omega⟩
   ·obtain ⟨d, ed, d0, d1⟩ := spec_l20Rd_pick_ev B (p := q + 1) (by omega) (by omega) 3
    have d1 := d1 (by omega)
    exact ⟨_, _, spec_l20Tree.l0.ev (Ev.neg hlt (Ev.bind et (Ev.pos rfl (Ev.bind ec (Ev.neg c0 (Ev.neg c1 (Ev.neg c2 (Ev.bindv rfl (Ev.bind ed (Ev.pos d0 (Ev.pos (by simp; omega) (Ev.pos (by omega) (Ev.now _))))))))))))), by simp; omega, by omega, by omega⟩
theorem spec_l20Tree_ev {b : List Int} (B : Bts b) {p : Int} (h0 : 0 ≤ p) (h1 : p ≤ 700000) (odd : Int) :
  ∃ (h : List Int) (q : Int), Ev (fun k => spec_l20Tree.f k b p odd) (h, q) ∧ h.length ≤ 9 ∧ p ≤ q ∧ q ≤ p + 400 := by
 obtain ⟨m, em, m0, m1⟩ := spec_l20Rd_pick_ev B h0 (by omega) 7
 have m1 := m1 (by omega)
 obtain ⟨o, q, eo, O, q0, q1⟩ := spec_l20Order_ev B (p := p + 1) (by omega) (by omega) (many := 1 + m) (by omega) (by omega)
 obtain ⟨s, es, _, _⟩ := spec_l20Rd_pick_ev B (p := q) (by omega) (by omega) 2
 obtain ⟨h, r, e, hl, r0, r1⟩ := spec_l20Tree_l0 B (odd := odd) (near := s) (many := 1 + m) (by omega) (by omega) O 1 (by omega) (by omega) (List.replicate (1 + m).toNat 0) (q + 1) (by simp) (by omega) (by omega)
 refine ⟨h, r, ?_, hl, by omega, by omega⟩
 unfold spec_l20Tree.f
 refine Ev.bind em ?_
 rw [wid (x := 1 + m) (by omega) (by omega)]
 exact Ev.bind eo (Ev.pos (by omega) (Ev.pos (by omega) (Ev.bind es e)))

/-! spec_DrawPutInOrder -/

theorem spec_DrawPutInOrder_ev {l : List Int} (h : ∀ x ∈ l, (Lit.int .u8 x).wf = true) : ∃ (t o : List Int), Ev (fun k => spec_DrawPutInOrder.f k l) (t, o) ∧ t.length ≤ 9 ∧ o.length ≤ 20 := by
 obtain ⟨b, eb, B⟩ := spec_l20Open_eq h
 obtain ⟨t, q, et, tl, q0, q1⟩ := spec_l20Tree_ev B (p := 0) (by omega) (by omega) 14
 obtain ⟨c, ec, c0, c1⟩ := spec_l20Rd_pick_ev B (p := q) (by omega) (by omega) 20
 have c1 := c1 (by omega)
 have hz := Int.tdiv_eq_ediv_of_nonneg c0 (b := 19)
 have hm : 1 ≤ mx (t.length : Int) 1 ∧ mx (t.length : Int) 1 ≤ 9 := by unfold mx; split <;> omega
 have w1 := wid (x := Int.tdiv c 19) (by omega) (by omega)
 have w2 := wid (x := mx (t.length : Int) 1 + Int.tdiv c 19) (by omega) (by omega)
 obtain ⟨o, q2, eo, O, _, _⟩ := spec_l20Order_ev B (p := q + 1) (by omega) (by omega) (many := mx (t.length : Int) 1 + Int.tdiv c 19) (by omega) (by omega)
 have ol := O.1
 unfold spec_DrawPutInOrder.f
 exact ⟨t, o, Ev.bindv eb (Ev.bind et (Ev.bind ec (Ev.bind (by rw [w1, w2]; exact eo) (Ev.now _)))), tl, by omega⟩

/-! spec_l1In -/

theorem spec_l1In_eq (a b c : Int) : spec_l1In.f a b c = some (decide (b ≤ a ∧ a ≤ c)) := by
 unfold spec_l1In.f
 by_cases h : a ≥ b
 ·rw [if_pos h]; simp [h]
 ·rw [if_neg h]; simp; intro; omega

/-! impl_OrderOk -/

theorem impl_OrderOk_eq (o : List Int) (m : Int) : impl_OrderOk.f o m = some (Hd.ordB o m) := by
 unfold impl_OrderOk.f Ord.ordO
 congr 1
 by_cases c : 1 ≤ m ∧ m ≤ 8 ∧ (o.length : Int) = m
 ·rw [if_pos c]
  refine Bool.eq_iff_iff.2 ?_
  rw [Hd.ordB_true, Hd.ord_sorted (List.mergeSort_perm o _) (Hd.sorted_le o)]
  unfold Ord.upOK
  rw [List.all_eq_true]
  constructor
  ·intro h
   refine ⟨by omega, by omega, fun k hk => ?_⟩
   have := h k (List.mem_range.2 (by omega))
   rw [List.getD_eq_getElem?_getD]; simpa using this
  ·rintro ⟨_, _, h⟩ k hk
   have := h k (by have := List.mem_range.1 hk; omega)
   rw [List.getD_eq_getElem?_getD] at this
   simpa using this
 ·rw [if_neg c]
  cases hc : Hd.ordB o m with
  | false => rfl
  | true =>
   have h := Hd.ordB_true.1 hc
   have := h.2.len
   exact absurd ⟨h.1.1, h.1.2, by omega⟩ c

/-! impl_put -/
theorem impl_put.l0.ev {x0 : List Int} {x1 : List Int} {x5 : List Int} {x15 : List Int} {x16 : Int} {x17 : Int} {r : List Int} (h : Ev (fun k => if x17 < x16 then (if 0 ≤ x17 then (if x17 < (x15.length : Int) then (if 0 ≤ (rd x15 x17) then (if (rd x15 x17) < (x5.length : Int) then (impl_put.l0 k x0 x1 (x5.set ((rd x15 x17) : Int).toNat (wrap64 (x17 + 1))) x15 x16 (wrap64 (x17 + 1))) else (none)) else (none)) else (none)) else (none)) else (if 0 ≤ (x0.length : Int) then (if ((x0.length : Int) : Int).toNat ≤ 35184372088832 then (impl_put.l1 k x0 x5 (List.replicate ((x0.length : Int) : Int).toNat 0) x1 (x1.length : Int) 0) else (none)) else (none))) r) : Ev (fun k => impl_put.l0 k x0 x1 x5 x15 x16 x17) r := Ev.step (fun _ => rfl) h
theorem impl_put.l1.ev {x0 : List Int} {x5 : List Int} {x8 : List Int} {x31 : List Int} {x32 : Int} {x33 : Int} {r : List Int} (h : Ev (fun k => if x33 < x32 then (if 0 ≤ x33 then (if x33 < (x31.length : Int) then (if 0 ≤ (wrap64 ((rd x31 x33) - 1)) then (if (wrap64 ((rd x31 x33) - 1)) < (x0.length : Int) then (if 0 ≤ (rd x0 (wrap64 ((rd x31 x33) - 1))) then (if (rd x0 (wrap64 ((rd x31 x33) - 1))) < (x5.length : Int) then (if x33 < (x8.length : Int) then (impl_put.l1 k x0 x5 (x8.set (x33 : Int).toNat (rd x5 (rd x0 (wrap64 ((rd x31 x33) - 1))))) x31 x32 (wrap64 (x33 + 1))) else (none)) else (none)) else (none)) else (none)) else (none)) else (none)) else (none)) else (some x8)) r) : Ev (fun k => impl_put.l1 k x0 x5 x8 x31 x32 x33) r := Ev.step (fun _ => rfl) h
theorem impl_put_l1 {l o P : List Int} (t : Hd.T l) (O : Hd.Perm l.length o) (hP : P.length = l.length + 1) : ∀ i : Int, i ≤ l.length → 0 ≤ i →
  Ev (fun k => impl_put.l1 k l P (Hd.tab (fun a => rd P (Hd.hd l (Hd.hd o a))) i.toNat ++ List.replicate (l.length - i.toNat) 0) o o.length i) (Hd.tab (fun a => rd P (Hd.hd l (Hd.hd o a))) l.length) := by
 have h8 := t.1
 have ol := O.len
 refine Hd.down ?_
 intro i hi ih h0
 refine impl_put.l1.ev ?_
 by_cases hlt : i < l.length
 ·have next := ih hlt (by omega)
  rw [show (i + 1).toNat = i.toNat + 1 from by omega, ← Hd.tab_set _ _ _ _ (show i.toNat < l.length by omega), show ((i.toNat : Int) + 1) = i + 1 from by omega] at next
  have r := O.rng (i + 1) (by omega) (by omega)
  have lo := t.2.lo (Hd.hd o (i + 1))
  have hi2 := t.2.hi (Hd.hd o (i + 1))
  rw [rd_hd1 (l := o) h0, wid (x := Hd.hd o (i + 1) - 1) (by omega) (by omega), rd_hd r.1, wid (x := i + 1) (by omega) (by omega)]
  exact Ev.pos (by omega) (Ev.pos h0 (Ev.pos (by omega) (Ev.pos (by omega) (Ev.pos (by omega) (Ev.pos lo (Ev.pos (by omega) (Ev.pos (by rw [List.length_append, Hd.tab_length, List.length_replicate]; omega) next)))))))
 ·refine Ev.neg (by omega) (Ev.ret ?_)
  rw [show i.toNat = l.length from by omega, Nat.sub_self, List.replicate_zero, List.append_nil]
theorem impl_put_l0 {l o : List Int} (t : Hd.T l) (O : Hd.Perm l.length o) : ∀ i : Int, i ≤ l.length → 0 ≤ i → ∀ P : List Int, P.length = l.length + 1 → rd P 0 = 0 → (∀ a : Int, 1 ≤ a → a ≤ i → rd P (Hd.hd o a) = a) →
  ∃ Q : Int → Int, Q 0 = 0 ∧ (∀ a : Int, 1 ≤ a → a ≤ l.length → Q (Hd.hd o a) = a) ∧ Ev (fun k => impl_put.l0 k l o P o o.length i) (Hd.tab (fun a => Q (Hd.hd l (Hd.hd o a))) l.length) := by
 have h8 := t.1
 have ol := O.len
 refine Hd.down ?_
 intro i hi ih h0 P hP hz hQ
 by_cases hlt : i < l.length
 ·have r := O.rng (i + 1) (by omega) (by omega)
  obtain ⟨Q, q0, q1, e⟩ := ih hlt (by omega) (P.set (Hd.hd o (i + 1)).toNat (i + 1)) (by rw [List.length_set]; exact hP)
   (by rw [h_rd_set (by omega) (by omega) (by omega), if_neg (by omega)]; exact hz)
   (fun a h1 h2 => by
    have ra := O.rng a h1 (by omega)
    rw [h_rd_set (by omega) (by omega) (by omega)]
    by_cases e : a = i + 1
    ·rw [e, if_pos rfl]
    ·rw [if_neg fun e2 => e (O.inj a (i + 1) h1 (by omega) (by omega) (by omega) e2)]
     exact hQ a h1 (by omega))
  refine ⟨Q, q0, q1, impl_put.l0.ev ?_⟩
  rw [rd_hd1 (l := o) h0, wid (x := i + 1) (by omega) (by omega)]
  exact Ev.pos (by omega) (Ev.pos h0 (Ev.pos (by omega) (Ev.pos (by omega) (Ev.pos (by omega) e))))
 ·refine ⟨rd P, hz, fun a h1 h2 => hQ a h1 (by omega), impl_put.l0.ev (Ev.neg (by omega) (Ev.pos (by omega) (Ev.pos (by omega) ?_)))⟩
  have := impl_put_l1 t O hP 0 (by omega) (by omega)
  simpa only [Int.toNat_zero, Hd.tab, List.nil_append, Nat.sub_zero, Int.toNat_natCast] using this
theorem impl_put_ev {l o : List Int} (t : Hd.T l) (O : Hd.Perm l.length o) :
  ∃ Q : Int → Int, Q 0 = 0 ∧ (∀ a : Int, 1 ≤ a → a ≤ l.length → Q (Hd.hd o a) = a) ∧ Ev (fun k => impl_put.f k l o) (Hd.tab (fun a => Q (Hd.hd l (Hd.hd o a))) l.length) := by
 have h8 := t.1
 obtain ⟨Q, q0, q1, e⟩ := impl_put_l0 t O 0 (by omega) (by omega) (List.replicate (l.length + 1) 0) (by simp) (by simp [rd, List.replicate_succ]) (fun a h1 h2 => by omega)
 refine ⟨Q, q0, q1, ?_⟩
 unfold impl_put.f
 rw [wid (x := (l.length : Int) + 1) (by omega) (by omega), show ((l.length : Int) + 1).toNat = l.length + 1 from by omega]
 exact Ev.pos (by omega) (Ev.pos (by omega) e)

/-! impl_PutInOrder -/

theorem impl_PutInOrder_ev (l o : List Int) : Ev (fun k => impl_PutInOrder.f k l o) (Hd.putL l o, Hd.putB l o) := by
 unfold impl_PutInOrder.f
 refine Ev.bind (impl_TreeOk_ev l) ?_
 have no : ¬ (Hd.T l ∧ Hd.Perm l.length o) → (([] : List Int), false) = (Hd.putL l o, Hd.putB l o) := fun h => by
  have : Hd.putB l o = false := by
   cases hc : Hd.putB l o with
   | false => rfl
   | true => exact absurd (Hd.putB_true.1 hc) h
  rw [this, Hd.putL, if_neg h]
 by_cases t : Hd.T l
 ·have h8 := t.1
  have hp := t.2.pos
  refine Ev.pos (Hd.treeB_yes t) (Ev.bindv (impl_OrderOk_eq o _) ?_)
  by_cases hy : Hd.ordB o l.length = true
  ·have O := (Hd.ordB_true.1 hy).2
   rw [Int.toNat_natCast] at O
   obtain ⟨Q, q0, q1, e⟩ := impl_put_ev t O
   rw [Hd.putL_eq t O q0 q1] at e
   exact Ev.pos hy (Ev.bind e (Ev.ret (by rw [Hd.putB_true.2 ⟨t, O⟩])))
  ·refine Ev.neg hy (Ev.ret (no fun h => hy (Hd.ordB_true.2 ⟨by omega, ?_⟩)))
   rw [Int.toNat_natCast]; exact h.2
 ·exact Ev.neg (by rw [Hd.treeB_no t]; simp) (Ev.ret (no fun h => t h.1))

/-! spec_OrderOk -/
theorem spec_OrderOk.l0.ev {x0 : List Int} {x1 : Int} {x5 : Int} {r : Bool} (h : Ev (fun k => if x5 < (x0.length : Int) then (if 0 ≤ x5 then ((spec_l1In.f (rd x0 x5) 1 x1).bind fun t273 => (if t273 = true then (spec_OrderOk.l1 k x0 x1 x5 0) else (some false))) else (none)) else ((spec_l1In.f x1 1 8).bind fun t271 => (if t271 = true then (some ((x0.length : Int) == x1)) else (some false)))) r) : Ev (fun k => spec_OrderOk.l0 k x0 x1 x5) r := Ev.step (fun _ => rfl) h
theorem spec_OrderOk.l1.ev {x0 : List Int} {x1 : Int} {x5 : Int} {x6 : Int} {r : Bool} (h : Ev (fun k => if x6 < x5 then (if 0 ≤ x6 then (if x6 < (x0.length : Int) then (if 0 ≤ x5 then (if x5 < (x0.length : Int) then (if (rd x0 x6) = (rd x0 x5) then (some false) else (spec_OrderOk.l1 k x0 x1 x5 (wrap64 (x6 + 1)))) else (none)) else (none)) else (none)) else (none)) else (spec_OrderOk.l0 k x0 x1 (wrap64 (x5 + 1)))) r) : Ev (fun k => spec_OrderOk.l1 k x0 x1 x5 x6) r := Ev.step (fun _ => rfl) h
theorem ordB_no {o : List Int} {m : Int} (h : ¬ ((1 ≤ m ∧ m ≤ 8) ∧ Hd.Perm m.toNat o)) : false = Hd.ordB o m := by
 cases hc : Hd.ordB o m with
 | false => rfl
 | true => exact absurd (Hd.ordB_true.1 hc) h
theorem spec_OrderOk_l1 {o : List Int} (hl : o.length ≤ 1048600) {m i : Int} (h0 : 0 ≤ i) (h1 : i < o.length)
  (next : (∀ a : Int, 1 ≤ a → a ≤ i → Hd.hd o a ≠ Hd.hd o (i + 1)) → Ev (fun k => spec_OrderOk.l0 k o m (i + 1)) (Hd.ordB o m)) : ∀ j : Int, j ≤ i → 0 ≤ j → (∀ a : Int, 1 ≤ a → a ≤ j → Hd.hd o a ≠ Hd.hd o (i + 1)) → Ev (fun k => spec_OrderOk.l1 k o m i j) (Hd.ordB o m) := by
 refine Hd.down ?_
 intro j hj ih j0 hno
 refine spec_OrderOk.l1.ev ?_
 rw [wid (x := i + 1) (by omega) (by omega), wid (x := j + 1) (by omega) (by omega), rd_hd1 j0, rd_hd1 h0]
 by_cases hlt : j < i
 ·refine Ev.pos hlt (Ev.pos j0 (Ev.pos (by omega) (Ev.pos h0 (Ev.pos h1 ?_))))
  by_cases e : Hd.hd o (j + 1) = Hd.hd o (i + 1)
  ·refine Ev.pos e (Ev.ret (ordB_no fun h => ?_))
   have l := h.2.len
   have := h.2.inj (j + 1) (i + 1) (by omega) (by omega) (by omega) (by omega) e
   omega
  ·refine Ev.neg e (ih hlt (by omega) fun a k1 k2 => ?_)
   by_cases e2 : a = j + 1
   ·rw [e2]; exact e
   ·exact hno a k1 (by omega)
 ·exact Ev.neg hlt (next fun a k1 k2 => hno a k1 (by omega))
theorem spec_OrderOk_l0 {o : List Int} (hl : o.length ≤ 1048600) {m : Int} : ∀ i : Int, i ≤ o.length → 0 ≤ i → (∀ a : Int, 1 ≤ a → a ≤ i → 1 ≤ Hd.hd o a ∧ Hd.hd o a ≤ m) → (∀ a b : Int, 1 ≤ a → a < b → b ≤ i → Hd.hd o a ≠ Hd.hd o b) → Ev (fun k => spec_OrderOk.l0 k o m i) (Hd.ordB o m) := by
 refine Hd.down ?_
 intro i hi ih h0 hr hd
 refine spec_OrderOk.l0.ev ?_
 by_cases hlt : i < o.length
 ·rw [rd_hd1 h0]
  refine Ev.pos hlt (Ev.pos h0 (Ev.bindv (spec_l1In_eq _ _ _) ?_))
  by_cases hin : 1 ≤ Hd.hd o (i + 1) ∧ Hd.hd o (i + 1) ≤ m
  ·refine Ev.pos (by simpa using hin) (spec_OrderOk_l1 hl h0 hlt (fun hno => ih hlt (by omega) (fun a k1 k2 => ?_) (fun a b k1 k2 k3 => ?_)) 0 h0 (by omega) (fun a k1 k2 => by omega))
   ·by_cases e : a = i + 1
    ·rw [e]; exact hin
    ·exact hr a k1 (by omega)
   ·by_cases e : b = i + 1
    ·rw [e]; exact hno a k1 (by omega)
    ·exact hd a b k1 k2 (by omega)
  ·refine Ev.neg (by simpa using hin) (Ev.ret (ordB_no fun h => hin ?_))
   have l := h.2.len
   have := h.2.rng (i + 1) (by omega) (by omega)
   omega
 ·refine Ev.neg hlt (Ev.bindv (spec_l1In_eq _ _ _) ?_)
  by_cases hm : 1 ≤ m ∧ m ≤ 8
  ·refine Ev.pos (by simpa using hm) (Ev.ret (bool_eq ?_))
   rw [beq_iff_eq, Hd.ordB_true]
   constructor
   ·intro e
    refine ⟨hm, by omega, fun a k1 k2 => ?_, fun a b k1 k2 k3 k4 e2 => ?_⟩
    ·have := hr a k1 (by omega)
     omega
    ·apply Classical.byContradiction
     intro hne
     by_cases hab : a < b
     ·exact hd a b k1 hab (by omega) e2
     ·exact hd b a k3 (by omega) (by omega) e2.symm
   ·rintro ⟨_, h⟩
    have := h.len
    omega
  ·exact Ev.neg (by simpa using hm) (Ev.ret (ordB_no fun h => hm h.1))
theorem spec_OrderOk_ev {o : List Int} (hl : o.length ≤ 1048600) (m : Int) : Ev (fun k => spec_OrderOk.f k o m) (Hd.ordB o m) := spec_OrderOk_l0 hl 0 (by omega) (by omega) (fun a k1 k2 => by omega) (fun a b k1 k2 k3 => by omega)

/-! spec_TreeOk -/
theorem spec_TreeOk.l0.ev {x0 : List Int} {x3 : Int} {x4 : Int} {x5 : Int} {r : Bool} (h : Ev (fun k => if x5 < x3 then (if 0 ≤ x5 then (if x5 < (x0.length : Int) then ((spec_l1In.f (rd x0 x5) 0 x3).bind fun t278 => (if t278 = true then (spec_TreeOk.j1 k x0 x3 x4 x5 ((rd x0 x5) == (wrap64 (x5 + 1)))) else (spec_TreeOk.j1 k x0 x3 x4 x5 true))) else (none)) else (none)) else (some (x4 == 1))) r) : Ev (fun k => spec_TreeOk.l0 k x0 x3 x4 x5) r := Ev.step (fun _ => rfl) h
theorem spec_TreeOk.j1.ev {x0 : List Int} {x3 : Int} {x4 : Int} {x5 : Int} {x33 : Bool} {r : Bool} (h : Ev (fun k => if x33 = true then (some false) else (if 0 ≤ x5 then (if x5 < (x0.length : Int) then (if (rd x0 x5) = 0 then (spec_TreeOk.j2 k x0 x3 (wrap64 (x4 + 1)) x5) else (spec_TreeOk.j2 k x0 x3 x4 x5)) else (none)) else (none))) r) : Ev (fun k => spec_TreeOk.j1 k x0 x3 x4 x5 x33) r := Ev.step (fun _ => rfl) h
theorem spec_TreeOk.j2.ev {x0 : List Int} {x3 : Int} {x4 : Int} {x5 : Int} {r : Bool} (h : Ev (fun k => spec_TreeOk.l1 k x0 x3 x4 x5 (wrap64 (x5 + 1)) 0) r) : Ev (fun k => spec_TreeOk.j2 k x0 x3 x4 x5) r := Ev.step (fun _ => rfl) h
theorem spec_TreeOk.l1.ev {x0 : List Int} {x3 : Int} {x4 : Int} {x5 : Int} {x6 : Int} {x7 : Int} {r : Bool} (h : Ev (fun k => if x6 > 0 then (spec_TreeOk.j4 k x0 x3 x4 x5 x6 x7 (decide (x7 < x3))) else (spec_TreeOk.j4 k x0 x3 x4 x5 x6 x7 false)) r) : Ev (fun k => spec_TreeOk.l1 k x0 x3 x4 x5 x6 x7) r := Ev.step (fun _ => rfl) h
theorem spec_TreeOk.j4.ev {x0 : List Int} {x3 : Int} {x4 : Int} {x5 : Int} {x6 : Int} {x7 : Int} {x49 : Bool} {r : Bool} (h : Ev (fun k => if x49 = true then (if 0 ≤ (wrap64 (x6 - 1)) then (if (wrap64 (x6 - 1)) < (x0.length : Int) then ((spec_l1In.f (rd x0 (wrap64 (x6 - 1))) 0 x3).bind fun t282 => (if t282 = true then (spec_TreeOk.l1 k x0 x3 x4 x5 (rd x0 (wrap64 (x6 - 1))) (wrap64 (x7 + 1))) else (some false))) else (none)) else (none)) else (if x6 > 0 then (some false) else (spec_TreeOk.l0 k x0 x3 x4 (wrap64 (x5 + 1))))) r) : Ev (fun k => spec_TreeOk.j4 k x0 x3 x4 x5 x6 x7 x49) r := Ev.step (fun _ => rfl) h
theorem spec_TreeOk_l1 {l : List Int} (h8 : l.length ≤ 8) {c i : Int} (h0 : 0 ≤ i) (hlt : i < l.length)
  (next : Hd.it (Hd.hd l) l.length (i + 1) = 0 → Ev (fun k => spec_TreeOk.l0 k l l.length c (i + 1)) (Hd.treeB l)) :
  ∀ s : Int, s ≤ l.length → 0 ≤ s → ∀ a : Int, 0 ≤ a → a ≤ l.length → a = Hd.it (Hd.hd l) s.toNat (i + 1) → Ev (fun k => spec_TreeOk.l1 k l l.length c i a s) (Hd.treeB l) := by
 refine Hd.down ?_
 intro s hs ih h1 a ha1 ha2 ea
 refine spec_TreeOk.l1.ev ?_
 by_cases hz : a > 0
 ·refine Ev.pos hz (spec_TreeOk.j4.ev ?_)
  by_cases hsn : s < l.length
  ·rw [wid (x := a - 1) (by omega) (by omega), rd_hd (by omega), wid (x := s + 1) (by omega) (by omega)]
   refine Ev.pos (by simpa using hsn) (Ev.pos (by omega) (Ev.pos (by omega) (Ev.bindv (spec_l1In_eq _ _ _) ?_)))
   by_cases hin : 0 ≤ Hd.hd l a ∧ Hd.hd l a ≤ l.length
   ·refine Ev.pos (by simpa using hin) (ih hsn (by omega) _ hin.1 hin.2 ?_)
    rw [show (s + 1).toNat = s.toNat + 1 from by omega, Hd.it_succ, ← ea]
   ·refine Ev.neg (by simpa using hin) (Ev.ret ?_)
    exact (Hd.treeB_no fun t => hin (t.vals _ (by omega) (by omega))).symm
  ·refine Ev.neg (by simpa using hsn) (Ev.pos hz (Ev.ret ?_))
   refine (Hd.treeB_no fun t => ?_).symm
   have := t.2.back (i + 1) (by omega) (by omega)
   rw [show s.toNat = l.length from by omega, this] at ea
   omega
 ·refine Ev.neg hz (spec_TreeOk.j4.ev (Ev.neg (by simp) (Ev.neg hz ?_)))
  rw [wid (x := i + 1) (by omega) (by omega)]
  exact next (Hd.it_more (Hd.hd_zero l) (j := s.toNat) (by omega) (by omega))
theorem spec_TreeOk_l0 {l : List Int} (h8 : l.length ≤ 8) : ∀ i : Int, i ≤ l.length → 0 ≤ i → (∀ a : Int, 1 ≤ a → a ≤ i → (0 ≤ Hd.hd l a ∧ Hd.hd l a ≤ l.length) ∧ Hd.it (Hd.hd l) l.length a = 0) →
  Ev (fun k => spec_TreeOk.l0 k l l.length (Hd.zeros l i.toNat) i) (Hd.treeB l) := by
 refine Hd.down ?_
 intro i hi ih h0 hb
 refine spec_TreeOk.l0.ev ?_
 by_cases hlt : i < l.length
 ·have hz := Hd.cnt_le (fun a => decide (Hd.hd l a = 0)) i.toNat
  have hzz : Hd.zeros l (i + 1).toNat = Hd.zeros l i.toNat + if Hd.hd l (i + 1) = 0 then 1 else 0 := by
   rw [show (i + 1).toNat = i.toNat + 1 from by omega]
   show Hd.cnt _ (i.toNat + 1) = _
   rw [Hd.cnt, show ((i.toNat : Int) + 1) = i + 1 from by omega]
   simp [Hd.zeros]
  have hz' : Hd.zeros l i.toNat ≤ i.toNat := hz
  rw [rd_hd1 h0, wid (x := i + 1) (by omega) (by omega)]
  refine Ev.pos hlt (Ev.pos h0 (Ev.pos hlt (Ev.bindv (spec_l1In_eq _ _ _) ?_)))
  by_cases hin : 0 ≤ Hd.hd l (i + 1) ∧ Hd.hd l (i + 1) ≤ l.length
  ·refine Ev.pos (by simpa using hin) (spec_TreeOk.j1.ev ?_)
   by_cases hown : Hd.hd l (i + 1) = i + 1
   ·refine Ev.pos (by simpa using hown) (Ev.ret ?_)
    exact (Hd.treeB_no fun t => t.2.not_own (a := i + 1) (by omega) hown).symm
   ·refine Ev.neg (by simpa using hown) (Ev.pos h0 (Ev.pos hlt ?_))
    rw [rd_hd1 h0, wid (x := (Hd.zeros l i.toNat : Int) + 1) (by omega) (by omega)]
    have next : Hd.it (Hd.hd l) l.length (i + 1) = 0 → Ev (fun k => spec_TreeOk.l0 k l l.length (Hd.zeros l (i + 1).toNat) (i + 1)) (Hd.treeB l) := fun hit =>
     ih hlt (by omega) (fun a h1 h2 => by
      by_cases e : a = i + 1
      ·rw [e]; exact ⟨hin, hit⟩
      ·exact hb a h1 (by omega))
    rw [hzz] at next
    by_cases h00 : Hd.hd l (i + 1) = 0
    ·rw [if_pos h00] at next
     refine Ev.pos h00 (spec_TreeOk.j2.ev ?_)
     rw [wid (x := i + 1) (by omega) (by omega)]
     exact spec_TreeOk_l1 h8 h0 hlt next 0 (by omega) (by omega) (i + 1) (by omega) (by omega) rfl
    ·rw [if_neg h00] at next
     refine Ev.neg h00 (spec_TreeOk.j2.ev ?_)
     rw [wid (x := i + 1) (by omega) (by omega)]
     exact spec_TreeOk_l1 h8 h0 hlt next 0 (by omega) (by omega) (i + 1) (by omega) (by omega) rfl
  ·refine Ev.neg (by simpa using hin) (spec_TreeOk.j1.ev (Ev.pos rfl (Ev.ret ?_)))
   exact (Hd.treeB_no fun t => hin (t.vals _ (by omega) (by omega))).symm
 ·refine Ev.neg hlt (Ev.ret ?_)
  have e : i.toNat = l.length := by omega
  rw [e]
  have t := Hd.T_iff h8 (fun a h1 h2 => (hb a h1 (by omega)).1) (fun a h1 h2 => (hb a h1 (by omega)).2)
  by_cases e : Hd.zeros l l.length = 1
  ·rw [Hd.treeB_yes (t.2 e), e]; rfl
  ·rw [Hd.treeB_no (fun x => e (t.1 x))]; simp; omega
theorem spec_TreeOk_ev (l : List Int) : Ev (fun k => spec_TreeOk.f k l) (Hd.treeB l) := by
 unfold spec_TreeOk.f
 refine Ev.bindv (spec_l1In_eq _ _ _) ?_
 by_cases h : 1 ≤ (l.length : Int) ∧ (l.length : Int) ≤ 8
 ·refine Ev.pos (by simpa using h) ?_
  exact spec_TreeOk_l0 (by omega) 0 (by omega) (by omega) (fun a h1 h2 => by omega)
 ·refine Ev.neg (by simpa using h) (Ev.ret ?_)
  exact (Hd.treeB_no fun t => by have := t.1; have := t.2.pos; omega).symm

/-! spec_PutInOrder -/
theorem spec_PutInOrder.j0.ev {x0 : List Int} {x1 : List Int} {x19 : Bool} {r : List Int × Bool} (h : Ev (fun k => if x19 = true then (some ((([] : List Int)), false)) else (if 0 ≤ (wrap64 ((x0.length : Int) + 1)) then (if (wrap64 ((x0.length : Int) + 1) : Int).toNat ≤ 35184372088832 then (spec_PutInOrder.l0 k x0 x1 (List.replicate (wrap64 ((x0.length : Int) + 1) : Int).toNat 0) 0) else (none)) else (none))) r) : Ev (fun k => spec_PutInOrder.j0 k x0 x1 x19) r := Ev.step (fun _ => rfl) h
theorem spec_PutInOrder.l0.ev {x0 : List Int} {x1 : List Int} {x6 : List Int} {x7 : Int} {r : List Int × Bool} (h : Ev (fun k => if x7 < (x1.length : Int) then (if 0 ≤ x7 then (if 0 ≤ (rd x1 x7) then (if (rd x1 x7) < (x6.length : Int) then (spec_PutInOrder.l0 k x0 x1 (x6.set ((rd x1 x7) : Int).toNat (wrap64 (x7 + 1))) (wrap64 (x7 + 1))) else (none)) else (none)) else (none)) else (spec_PutInOrder.l1 k x0 x1 x6 (([] : List Int)) 0)) r) : Ev (fun k => spec_PutInOrder.l0 k x0 x1 x6 x7) r := Ev.step (fun _ => rfl) h
theorem spec_PutInOrder.l1.ev {x0 : List Int} {x1 : List Int} {x6 : List Int} {x8 : List Int} {x9 : Int} {r : List Int × Bool} (h : Ev (fun k => if x9 < (x1.length : Int) then (if 0 ≤ x9 then (if 0 ≤ (wrap64 ((rd x1 x9) - 1)) then (if (wrap64 ((rd x1 x9) - 1)) < (x0.length : Int) then (if 0 ≤ (rd x0 (wrap64 ((rd x1 x9) - 1))) then (if (rd x0 (wrap64 ((rd x1 x9) - 1))) < (x6.length : Int) then (if x8.length < 17592186044416 then (spec_PutInOrder.l1 k x0 x1 x6 (x8 ++ [rd x6 (rd x0 (wrap64 ((rd x1 x9) - 1)))]) (wrap64 (x9 + 1))) else (none)) else (none)) else (none)) else (none)) else (none)) else (none)) else (some (x8, true))) r) : Ev (fun k => spec_PutInOrder.l1 k x0 x1 x6 x8 x9) r := Ev.step (fun _ => rfl) h
theorem spec_PutInOrder_l1 {l o P : List Int} (t : Hd.T l) (O : Hd.Perm l.length o) (hP : P.length = l.length + 1) : ∀ i : Int, i ≤ l.length → 0 ≤ i →
  Ev (fun k => spec_PutInOrder.l1 k l o P (Hd.tab (fun a => rd P (Hd.hd l (Hd.hd o a))) i.toNat) i) (Hd.tab (fun a => rd P (Hd.hd l (Hd.hd o a))) l.length, true) := by
 have h8 := t.1
 have ol := O.len
 refine Hd.down ?_
 intro i hi ih h0
 refine spec_PutInOrder.l1.ev ?_
 by_cases hlt : i < l.length
 ·have next := ih hlt (by omega)
  rw [show (i + 1).toNat = i.toNat + 1 from by omega, Hd.tab, show ((i.toNat : Int) + 1) = i + 1 from by omega] at next
  have r := O.rng (i + 1) (by omega) (by omega)
  have lo := t.2.lo (Hd.hd o (i + 1))
  have hi2 := t.2.hi (Hd.hd o (i + 1))
  rw [rd_hd1 (l := o) h0, wid (x := Hd.hd o (i + 1) - 1) (by omega) (by omega), rd_hd r.1, wid (x := i + 1) (by omega) (by omega)]
  exact Ev.pos (by omega) (Ev.pos h0 (Ev.pos (by omega) (Ev.pos (by omega) (Ev.pos lo (Ev.pos (by omega) (Ev.pos (by rw [Hd.tab_length]; omega) next))))))
 ·refine Ev.neg (by omega) (Ev.ret ?_)
  rw [show i.toNat = l.length from by omega]
theorem spec_PutInOrder_l0 {l o : List Int} (t : Hd.T l) (O : Hd.Perm l.length o) : ∀ i : Int, i ≤ l.length → 0 ≤ i → ∀ P : List Int, P.length = l.length + 1 → rd P 0 = 0 → (∀ a : Int, 1 ≤ a → a ≤ i → rd P (Hd.hd o a) = a) →
  Ev (fun k => spec_PutInOrder.l0 k l o P i) (Hd.putL l o, true) := by
 have h8 := t.1
 have ol := O.len
 refine Hd.down ?_
 intro i hi ih h0 P hP hz hQ
 refine spec_PutInOrder.l0.ev ?_
 by_cases hlt : i < l.length
 ·have r := O.rng (i + 1) (by omega) (by omega)
  have e := ih hlt (by omega) (P.set (Hd.hd o (i + 1)).toNat (i + 1)) (by rw [List.length_set]; exact hP)
   (by rw [h_rd_set (by omega) (by omega) (by omega), if_neg (by omega)]; exact hz)
   (fun a h1 h2 => by
    have ra := O.rng a h1 (by omega)
    rw [h_rd_set (by omega) (by omega) (by omega)]
    by_cases e : a = i + 1
    ·rw [e, if_pos rfl]
    ·rw [if_neg fun e2 => e (O.inj a (i + 1) h1 (by omega) (by omega) (by omega) e2)]
     exact hQ a h1 (by omega))
  rw [rd_hd1 (l := o) h0, wid (x := i + 1) (by omega) (by omega)]
  exact Ev.pos (by omega) (Ev.pos h0 (Ev.pos (by omega) (Ev.pos (by omega) e)))
 ·have := spec_PutInOrder_l1 t O hP 0 (by omega) (by omega)
  rw [Hd.putL_eq t O hz (fun a h1 h2 => hQ a h1 (by omega))] at this
  exact Ev.neg (by omega) this
theorem spec_PutInOrder_ev {l o : List Int} (hl : o.length ≤ 1048600) : Ev (fun k => spec_PutInOrder.f k l o) (Hd.putL l o, Hd.putB l o) := by
 unfold spec_PutInOrder.f
 refine Ev.bind (spec_TreeOk_ev l) ?_
 have no : ¬ (Hd.T l ∧ Hd.Perm l.length o) → Ev (fun k => spec_PutInOrder.j0 k l o true) (Hd.putL l o, Hd.putB l o) := fun h => by
  refine spec_PutInOrder.j0.ev (Ev.pos rfl (Ev.ret ?_))
  have : Hd.putB l o = false := by
   cases hc : Hd.putB l o with
   | false => rfl
   | true => exact absurd (Hd.putB_true.1 hc) h
  rw [this, Hd.putL, if_neg h]
 by_cases t : Hd.T l
 ·have h8 := t.1
  have hp := t.2.pos
  refine Ev.pos (Hd.treeB_yes t) (Ev.bind (spec_OrderOk_ev hl _) ?_)
  by_cases hy : Hd.ordB o l.length = true
  ·have O := (Hd.ordB_true.1 hy).2
   rw [Int.toNat_natCast] at O
   rw [hy, Hd.putB_true.2 ⟨t, O⟩]
   refine spec_PutInOrder.j0.ev (Ev.neg (by simp) ?_)
   rw [wid (x := (l.length : Int) + 1) (by omega) (by omega), show ((l.length : Int) + 1).toNat = l.length + 1 from by omega]
   exact Ev.pos (by omega) (Ev.pos (by omega) (spec_PutInOrder_l0 t O 0 (by omega) (by omega) _ (by simp) (by simp [rd, List.replicate_succ]) (fun a h1 h2 => by omega)))
  ·rw [Bool.not_eq_true] at hy
   rw [hy]
   refine no fun h => ?_
   rw [Hd.ordB_true.2 ⟨by omega, by rw [Int.toNat_natCast]; exact h.2⟩] at hy
   cases hy
 ·exact Ev.neg (by rw [Hd.treeB_no t]; simp) (no fun h => t h.1)

/-! laws_sameInts -/
theorem laws_sameInts.l0.ev {x0 : List Int} {x1 : List Int} {x5 : Int} {r : Bool} (h : Ev (fun k => if x5 < (x0.length : Int) then (if 0 ≤ x5 then (if x5 < (x1.length : Int) then (if (rd x0 x5) = (rd x1 x5) then (laws_sameInts.l0 k x0 x1 (wrap64 (x5 + 1))) else (some false)) else (none)) else (none)) else (some true)) r) : Ev (fun k => laws_sameInts.l0 k x0 x1 x5) r := Ev.step (fun _ => rfl) h
theorem laws_sameInts_l0 {a b : List Int} (hl : a.length ≤ 4611686018427387904) (he : a.length = b.length) : ∀ i : Int, i ≤ a.length → 0 ≤ i → a.take i.toNat = b.take i.toNat → Ev (fun k => laws_sameInts.l0 k a b i) (decide (a = b)) := by
 refine Hd.down ?_
 intro i hi ih h0 ht
 refine laws_sameInts.l0.ev ?_
 by_cases hlt : i < a.length
 ·rw [wid (x := i + 1) (by omega) (by omega)]
  refine Ev.pos hlt (Ev.pos h0 (Ev.pos (by omega) ?_))
  obtain ⟨j, rfl⟩ := Int.eq_ofNat_of_zero_le h0
  have hj : j < a.length := by omega
  have hj2 : j < b.length := by omega
  simp only [Int.toNat_natCast] at *
  have ga : rd a j = a[j] := by simp [rd, List.getD_eq_getElem?_getD, List.getElem?_eq_getElem hj]
  have gb : rd b j = b[j] := by simp [rd, List.getD_eq_getElem?_getD, List.getElem?_eq_getElem hj2]
  by_cases e : rd a j = rd b j
  ·refine Ev.pos e (ih hlt (by omega) ?_)
   rw [show ((j : Int) + 1).toNat = j + 1 from by omega, List.take_succ_eq_append_getElem hj, List.take_succ_eq_append_getElem hj2, ht, ← ga, ← gb, e]
  ·refine Ev.neg e (Ev.ret ?_)
   have : a ≠ b := fun h => e (by rw [h])
   simp [this]
 ·refine Ev.neg hlt (Ev.ret ?_)
  rw [show i.toNat = a.length from by omega] at ht
  rw [List.take_length, he, List.take_length] at ht
  simp [ht]
theorem laws_sameInts_ev {a b : List Int} (hl : a.length ≤ 1048576) : Ev (fun k => laws_sameInts.f k a b) (decide (a = b)) := by
 unfold laws_sameInts.f
 by_cases e : a.length = b.length
 ·refine Ev.pos (by omega) ?_
  exact laws_sameInts_l0 (by omega) e 0 (by omega) (by omega) (by simp)
 ·refine Ev.neg (by omega) (Ev.ret ?_)
  have : a ≠ b := fun h => e (by rw [h])
  simp [this]

/-! impl_DepthOf -/
theorem impl_DepthOf.l0.ev {x0 : List Int} {x3 : List Int} {x12 : Int} {x13 : Int} {r : List Int} (h : Ev (fun k => if x13 < x12 then ((impl_steps.f k x0 (wrap64 (x13 + 1))).bind fun t308 => (if 0 ≤ x13 then (if x13 < (x3.length : Int) then (impl_DepthOf.l0 k x0 (x3.set (x13 : Int).toNat t308) x12 (wrap64 (x13 + 1))) else (none)) else (none))) else (some x3)) r) : Ev (fun k => impl_DepthOf.l0 k x0 x3 x12 x13) r := Ev.step (fun _ => rfl) h
theorem impl_DepthOf_l0 {l : List Int} (t : Hd.T l) : ∀ i : Int, i ≤ l.length → 0 ≤ i → Ev (fun k => impl_DepthOf.l0 k l (Hd.tab (fun a => (Hd.dep l.length (Hd.hd l) a : Int)) i.toNat ++ List.replicate (l.length - i.toNat) 0) l.length i) (Hd.depL l) := by
 have h8 := t.1
 refine Hd.down ?_
 intro i hi ih h0
 refine impl_DepthOf.l0.ev ?_
 by_cases hlt : i < l.length
 ·rw [wid (x := i + 1) (by omega) (by omega)]
  have s := impl_steps_ev t.vals t.1 (w := i + 1) (by omega) (by omega)
  rw [if_pos (t.2.back _ (by omega) (by omega))] at s
  have next := ih hlt (by omega)
  rw [show (i + 1).toNat = i.toNat + 1 from by omega, ← Hd.tab_set _ _ _ _ (show i.toNat < l.length by omega), show ((i.toNat : Int) + 1) = i + 1 from by omega] at next
  exact Ev.pos hlt (Ev.bind s (Ev.pos h0 (Ev.pos (by rw [List.length_append, Hd.tab_length, List.length_replicate]; omega) next)))
 ·refine Ev.neg hlt (Ev.ret ?_)
  rw [show i.toNat = l.length from by omega, Hd.depL, if_pos t, Nat.sub_self, List.replicate_zero, List.append_nil]
theorem impl_DepthOf_ev (l : List Int) : Ev (fun k => impl_DepthOf.f k l) (Hd.depL l) := by
 unfold impl_DepthOf.f
 refine Ev.bind (impl_TreeOk_ev l) ?_
 by_cases t : Hd.T l
 ·have h8 := t.1
  have := impl_DepthOf_l0 t 0 (by omega) (by omega)
  exact Ev.pos (Hd.treeB_yes t) (Ev.pos (by omega) (Ev.pos (by omega) this))
 ·refine Ev.neg (by rw [Hd.treeB_no t]; simp) (Ev.ret ?_)
  rw [Hd.depL, if_neg t]

theorem laws_FnPutInOrder.j0.ev {x3 : List Int} {x4 : List Int} {x5 : List Int} {x6 : Bool} {x43 : Bool} {r : Bool} (h : Ev (fun k => if x43 = true then (some false) else (if x6 = true then ((impl_DepthOf.f k x3).bind fun t326 => ((impl_DepthOf.f k x5).bind fun t329 => (if (t326.length : Int) = (x3.length : Int) then (laws_FnPutInOrder.j1 k x3 x4 x5 t326 t329 ((t329.length : Int) != (x3.length : Int))) else (laws_FnPutInOrder.j1 k x3 x4 x5 t326 t329 true)))) else (if (x5.length : Int) = 0 then ((laws_alive.f k).bind fun t325 => (some t325)) else (some false)))) r) : Ev (fun k => laws_FnPutInOrder.j0 k x3 x4 x5 x6 x43) r := Ev.step (fun _ => rfl) h
theorem laws_FnPutInOrder.j1.ev {x3 : List Int} {x4 : List Int} {x5 : List Int} {x9 : List Int} {x10 : List Int} {x67 : Bool} {r : Bool} (h : Ev (fun k => if x67 = true then (some false) else (if 0 ≤ (x4.length : Int) then (if ((x4.length : Int) : Int).toNat ≤ 35184372088832 then (laws_FnPutInOrder.l0 k x3 x4 x5 x9 x10 (List.replicate ((x4.length : Int) : Int).toNat 0) 0) else (none)) else (none))) r) : Ev (fun k => laws_FnPutInOrder.j1 k x3 x4 x5 x9 x10 x67) r := Ev.step (fun _ => rfl) h
theorem laws_FnPutInOrder.l0.ev {x3 : List Int} {x4 : List Int} {x5 : List Int} {x9 : List Int} {x10 : List Int} {x11 : List Int} {x12 : Int} {r : Bool} (h : Ev (fun k => if x12 < (x4.length : Int) then (if 0 ≤ x12 then (if x12 < (x10.length : Int) then (if 0 ≤ (wrap64 ((rd x4 x12) - 1)) then (if (wrap64 ((rd x4 x12) - 1)) < (x9.length : Int) then (if (rd x10 x12) = (rd x9 (wrap64 ((rd x4 x12) - 1))) then (if (wrap64 ((rd x4 x12) - 1)) < (x11.length : Int) then (laws_FnPutInOrder.l0 k x3 x4 x5 x9 x10 (x11.set ((wrap64 ((rd x4 x12) - 1)) : Int).toNat (wrap64 (x12 + 1))) (wrap64 (x12 + 1))) else (none)) else (some false)) else (none)) else (none)) else (none)) else (none)) else ((impl_PutInOrder.f k x5 x11).bind fun bt340 => ((impl_TreeOk.f k x5).bind fun t344 => (if t344 = true then (if bt340.2 = true then ((laws_sameInts.f k bt340.1 x3).bind fun t345 => (some t345)) else (some false)) else (some false))))) r) : Ev (fun k => laws_FnPutInOrder.l0 k x3 x4 x5 x9 x10 x11 x12) r := Ev.step (fun _ => rfl) h
end Go.Proofs.Ytfccopfhniobjaa.QFnPutInOrder
