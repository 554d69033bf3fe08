/- Contracts of the functions that the statement FnCountFlat reaches: what each printed function comes to. -/
import Derived.Test.YtikajogmjfldaaaQFnCountFlatx3
import Derived.Test.YtikajogmjfldaaaWSized
import Derived.Test.YtikajogmjfldaaaHdA
namespace Go.Proofs.Ytikajogmjfldaaa.PrintWords
/-- The name by which the printed row calls the word. -/
abbrev sized_ints := @Go.Proofs.YtikajogmjfldaaaW.PrintWords.sized_ints
end Go.Proofs.Ytikajogmjfldaaa.PrintWords
namespace Go.Proofs.Ytikajogmjfldaaa.QFnCountFlat
open Go.RowKit Go.Proofs.YtikajogmjfldaaaW.PrintWords Go.Proofs.YtikajogmjfldaaaW.PrintLast Go.Proofs.YtikajogmjfldaaaW.PrintMore
set_option linter.unusedVariables false
theorem wid {x : Int} (h : -9223372036854775808 ≤ x) (h' : x ≤ 9223372036854775807) : wrap64 x = x := by unfold wrap64; omega
theorem Ev.pos {α : Type} {c : Prop} [Decidable c] {A B : Nat → Option α} {r : α} (h : c) (e : Ev A r) : Ev (fun k => if c then A k else B k) r := by simpa only [if_pos h] using e
theorem Ev.neg {α : Type} {c : Prop} [Decidable c] {A B : Nat → Option α} {r : α} (h : ¬ c) (e : Ev B r) : Ev (fun k => if c then A k else B k) r := by simpa only [if_neg h] using e
theorem Ev.bindv {α β : Type} {o : Option α} {f : Nat → α → Option β} {a : α} {r : β} (h : o = some a) (k : Ev (fun n => f n a) r) : Ev (fun n => o.bind (f n)) r := by subst h; exact k
theorem Ev.ret {α : Type} {a r : α} (h : a = r) : Ev (fun _ => some a) r := h ▸ Ev.now a
theorem rd_hd {l : List Int} {a : Int} (h : 1 ≤ a) : rd l (a - 1) = Hd.hd l a := Hd.hd_get h
theorem rd_hd1 {l : List Int} {a : Int} (h : 0 ≤ a) : rd l a = Hd.hd l (a + 1) := by rw [← rd_hd (by omega)]; congr 1; omega
theorem mn_mx (a b : Int) : (mn a b = a ∧ mx a b = b ∧ a ≤ b) ∨ (mn a b = b ∧ mx a b = a ∧ b ≤ a) := by
 unfold mn mx
 split <;> split <;> omega
theorem h_or_i64 {a b : Nat} (ha : a < 256) (hb : b < 256) : Go.bits .or .i64 (a : Int) (b : Int) = ((a ||| b : Nat) : Int) :=
 (Go.bits_nat .i64 8 (by decide) (fun n h0 h1 => by rw [Go.IntKind.wrap_i64]; omega) a b (by omega) (by omega)).2
theorem h_shl_one {x : Nat} (h : x ≤ 7) : shl .i64 1 (x : Int) = ((2 ^ x : Nat) : Int) := by
 have : ∀ x : Nat, x < 8 → shl .i64 1 (x : Int) = ((2 ^ x : Nat) : Int) := by decide
 exact this x (by omega)
theorem h_shr_bit {v x : Nat} (h : x ≤ 64) : (Int.tmod (shr .i64 (v : Int) (x : Int)) 2 = 1) ↔ v.testBit x = true := by
 unfold shr
 rw [Int.toNat_natCast, Nat.min_eq_left (by simpa [Go.IntKind.bits] using h), Nat.testBit_eq_decide_div_mod_eq]
 have : ((v : Int) / 2 ^ x) = ((v / 2 ^ x : Nat) : Int) := by simp
 rw [this, Int.tmod_eq_emod_of_nonneg (Int.natCast_nonneg _), decide_eq_true_eq]
 omega
theorem h_shr_nat {v x : Nat} (h : x ≤ 64) : shr .i64 (v : Int) (x : Int) = ((v / 2 ^ x : Nat) : Int) := by
 unfold shr
 rw [Int.toNat_natCast, Nat.min_eq_left (by simpa [Go.IntKind.bits] using h)]
 simp
theorem h_and_i64 {a b : Nat} (ha : a < 512) (hb : b < 512) : Go.bits .and .i64 (a : Int) (b : Int) = ((a &&& b : Nat) : Int) :=
 (Go.bits_nat .i64 9 (by decide) (fun n h0 h1 => by rw [Go.IntKind.wrap_i64]; omega) a b (by omega) (by omega)).1
theorem h_rd_set {P : List Int} {i j : Int} {v : Int} (h0 : 0 ≤ i) (h1 : i < P.length) (hj : 0 ≤ j) : rd (P.set i.toNat v) j = if j = i then v else rd P j := by
 unfold rd
 rw [List.getD_eq_getElem?_getD, List.getElem?_set]
 by_cases e : j = i
 ·subst e
  rw [if_pos rfl, if_pos (by omega), if_pos rfl]; rfl
 ·rw [if_neg (by omega), if_neg e, List.getD_eq_getElem?_getD]
/-- Bytes of a code, as far as they are read. -/
def Bts (b : List Int) : Prop := b.length ≤ 2000 ∧ ∀ i : Int, 0 ≤ rd b i ∧ rd b i ≤ 255
theorem bts_rd {l : List Int} (h : ∀ x, x ∈ l → 0 ≤ x ∧ x ≤ 255) (i : Int) : 0 ≤ rd l i ∧ rd l i ≤ 255 := by
 unfold rd
 rw [List.getD_eq_getElem?_getD]
 by_cases hi : i.toNat < l.length
 ·rw [List.getElem?_eq_getElem hi]; exact h _ (List.getElem_mem hi)
 ·rw [List.getElem?_eq_none (by omega)]; simp
theorem Ev.lit {α : Type} {g : Nat → Option α} {r : α} (K : Nat) (h : ∀ m, g (m + K) = some r) : Ev g r := ⟨K, fun k hk => by obtain ⟨m, rfl⟩ := Nat.exists_eq_add_of_le' hk; exact h m⟩

/-! spec_l20Open -/

theorem spec_l20Open_eq {l : List Int} (h : ∀ x ∈ l, (Lit.int .u8 x).wf = true) : ∃ b, spec_l20Open.f l = some (b, 0) ∧ Bts b := by
 have hb : ∀ x, x ∈ l → 0 ≤ x ∧ x ≤ 255 := fun x hx => by
  have := h x hx
  simpa [Lit.wf, IntKind.min, IntKind.max, IntKind.signed, IntKind.bits] using this
 unfold spec_l20Open.f
 by_cases hl : (l.length : Int) > 2000
 ·rw [if_pos hl, if_pos (by omega)]
  exact ⟨_, rfl, by simp; omega, bts_rd fun x hx => hb x (List.mem_of_mem_take hx)⟩
 ·rw [if_neg hl]
  exact ⟨_, rfl, by omega, bts_rd hb⟩

/-! spec_l20Rd_pick -/
theorem spec_l20Rd_pick.j0.ev {x1 : Int} {x24 : Bool} {x1000 : List Int} {x1001 : Int} {r : Int × Int} (h : Ev (fun k => if x24 = true then (some (0, x1001)) else (if (wrap64 (x1001 - 1)) < (x1000.length : Int) then (if 0 ≤ (wrap64 (x1001 - 1)) then (if x1 = 0 then (none) else (some (Int.tmod (wrap64 (rd x1000 (wrap64 (x1001 - 1)))) x1, x1001))) else (none)) else (if (x1000.length : Int) = 0 then (none) else (if 0 ≤ (Int.tmod (wrap64 (x1001 - 1)) (x1000.length : Int)) then (if (Int.tmod (wrap64 (x1001 - 1)) (x1000.length : Int)) < (x1000.length : Int) then (if 0 ≤ (Int.tmod (wrap64 ((wrap64 ((wrap64 (x1001 - 1)) * 7)) + 3)) (x1000.length : Int)) then (if (Int.tmod (wrap64 ((wrap64 ((wrap64 (x1001 - 1)) * 7)) + 3)) (x1000.length : Int)) < (x1000.length : Int) then (if x1 = 0 then (none) else (some (Int.tmod (Go.bits .xor .i64 (wrap64 ((wrap64 ((wrap64 ((wrap64 ((wrap64 (rd x1000 (Int.tmod (wrap64 (x1001 - 1)) (x1000.length : Int)))) * 131)) + (wrap64 ((wrap64 (rd x1000 (Int.tmod (wrap64 ((wrap64 ((wrap64 (x1001 - 1)) * 7)) + 3)) (x1000.length : Int)))) * 1117)))) + (wrap64 ((wrap64 (x1001 - 1)) * 29)))) + (wrap64 ((wrap64 (Int.tdiv (wrap64 (x1001 - 1)) (x1000.length : Int))) * 53)))) (wrap64 (Int.tdiv (wrap64 ((wrap64 ((wrap64 ((wrap64 ((wrap64 (rd x1000 (Int.tmod (wrap64 (x1001 - 1)) (x1000.length : Int)))) * 131)) + (wrap64 ((wrap64 (rd x1000 (Int.tmod (wrap64 ((wrap64 ((wrap64 (x1001 - 1)) * 7)) + 3)) (x1000.length : Int)))) * 1117)))) + (wrap64 ((wrap64 (x1001 - 1)) * 29)))) + (wrap64 ((wrap64 (Int.tdiv (wrap64 (x1001 - 1)) (x1000.length : Int))) * 53)))) 64))) x1, x1001))) else (none)) else (none)) else (none)) else (none))))) r) : Ev (fun k => spec_l20Rd_pick.j0 k x1 x24 x1000 x1001) r := Ev.step (fun _ => rfl) h
theorem bits_xor_nat (k : Go.IntKind) (j : Nat) (hj : j ≤ k.bits) (hk : ∀ n : Int, 0 ≤ n → n < 2 ^ j → k.wrap n = n) (a b : Nat) (ha : a < 2 ^ j) (hb : b < 2 ^ j) : Go.bits .xor k a b = ((a ^^^ b : Nat) : Int) := by
 have hp : 2 ^ j ≤ 2 ^ k.bits := Nat.pow_le_pow_right (by decide) hj
 have ha' : a % 2 ^ k.bits = a := Nat.mod_eq_of_lt (Nat.lt_of_lt_of_le ha hp)
 have hb' : b % 2 ^ k.bits = b := Nat.mod_eq_of_lt (Nat.lt_of_lt_of_le hb hp)
 simp only [Go.bits, BitVec.ofInt_natCast, BitVec.toNat_xor, BitVec.toNat_ofNat, ha', hb']
 refine hk _ (Int.natCast_nonneg _) ?_
 exact_mod_cast Nat.xor_lt_two_pow ha hb
theorem h_xor_i64 {a b : Nat} (ha : a < 2 ^ 40) (hb : b < 2 ^ 40) : Go.bits .xor .i64 (a : Int) (b : Int) = ((a ^^^ b : Nat) : Int) :=
 bits_xor_nat .i64 40 (by decide) (fun n h0 h1 => by rw [Go.IntKind.wrap_i64]; omega) a b ha hb
theorem xor_nonneg {x : Int} (h0 : 0 ≤ x) (h1 : x < 1000000000) : 0 ≤ Go.bits .xor .i64 x (Int.tdiv x 64) ∧ Go.bits .xor .i64 x (Int.tdiv x 64) < 2 ^ 40 := by
 obtain ⟨a, rfl⟩ := Int.eq_ofNat_of_zero_le h0
 have : Int.tdiv (a : Int) 64 = ((a / 64 : Nat) : Int) := by
  rw [Int.tdiv_eq_ediv_of_nonneg (by omega)]; simp
 rw [this, h_xor_i64 (by omega) (by omega)]
 have := Nat.xor_lt_two_pow (n := 40) (x := a) (y := a / 64) (by omega) (by omega)
 omega
theorem spec_l20Rd_pick_ev {b : List Int} (B : Bts b) {p : Int} (h0 : 0 ≤ p) (h1 : p ≤ 1000000) (n : Int) : ∃ r : Int, Ev (fun k => spec_l20Rd_pick.f k b p n) (r, p + 1) ∧ 0 ≤ r ∧ (1 ≤ n → r < n) := by
 unfold spec_l20Rd_pick.f
 rw [wid (x := p + 1) (by omega) (by omega)]
 by_cases hn : n < 1
 ·exact ⟨0, Ev.pos hn (spec_l20Rd_pick.j0.ev (Ev.pos rfl (Ev.now _))), by omega, by omega⟩
 by_cases hb : b.length = 0
 ·refine ⟨0, Ev.neg hn ?_, by omega, by omega⟩
  rw [show ((b.length : Int) == 0) = true from by simp [hb]]
  exact spec_l20Rd_pick.j0.ev (Ev.pos rfl (Ev.now _))
 have hlen := B.1
 have key : ∃ r : Int, Ev (fun k => spec_l20Rd_pick.j0 k n false b (p + 1)) (r, p + 1) ∧ 0 ≤ r ∧ (1 ≤ n → r < n) := by
  by_cases hlt : p < b.length
  ·refine ⟨Int.tmod (rd b p) n, spec_l20Rd_pick.j0.ev (Ev.neg (by simp) ?_), Int.tmod_nonneg _ (B.2 p).1, fun h => Int.tmod_lt_of_pos _ (by omega)⟩
   have := B.2 p
   rw [wid (x := p + 1 - 1) (by omega) (by omega), show p + 1 - 1 = p from by omega, wid (x := rd b p) (by omega) (by omega)]
   exact Ev.pos hlt (Ev.pos h0 (Ev.neg (by omega) (Ev.now _)))
  ·have t0 : 0 ≤ Int.tmod p b.length := Int.tmod_nonneg _ h0
   have t1 : Int.tmod p b.length < b.length := Int.tmod_lt_of_pos _ (by omega)
   have u0 : 0 ≤ Int.tmod (p * 7 + 3) b.length := Int.tmod_nonneg _ (by omega)
   have u1 : Int.tmod (p * 7 + 3) b.length < b.length := Int.tmod_lt_of_pos _ (by omega)
   have v0 : 0 ≤ Int.tdiv p b.length := Int.tdiv_nonneg h0 (by omega)
   have v1 : Int.tdiv p b.length ≤ p := by
    rw [Int.tdiv_eq_ediv_of_nonneg h0]
    exact Int.ediv_le_self _ h0
   have b1 := B.2 (Int.tmod p b.length)
   have b2 := B.2 (Int.tmod (p * 7 + 3) b.length)
   generalize e1 : rd b (Int.tmod p b.length) = y1 at *
   generalize e2 : rd b (Int.tmod (p * 7 + 3) b.length) = y2 at *
   have hx0 : 0 ≤ y1 * 131 + y2 * 1117 + p * 29 + Int.tdiv p b.length * 53 := by omega
   have hx1 : y1 * 131 + y2 * 1117 + p * 29 + Int.tdiv p b.length * 53 < 1000000000 := by omega
   have hx := xor_nonneg hx0 hx1
   refine ⟨Int.tmod (Go.bits .xor .i64 (y1 * 131 + y2 * 1117 + p * 29 + Int.tdiv p b.length * 53) (Int.tdiv (y1 * 131 + y2 * 1117 + p * 29 + Int.tdiv p b.length * 53) 64)) n, spec_l20Rd_pick.j0.ev (Ev.neg (by simp) ?_), Int.tmod_nonneg _ hx.1, fun h => Int.tmod_lt_of_pos _ (by omega)⟩
   have d0 : 0 ≤ Int.tdiv (y1 * 131 + y2 * 1117 + p * 29 + Int.tdiv p b.length * 53) 64 := Int.tdiv_nonneg hx0 (by omega)
   have d1 : Int.tdiv (y1 * 131 + y2 * 1117 + p * 29 + Int.tdiv p b.length * 53) 64 ≤ y1 * 131 + y2 * 1117 + p * 29 + Int.tdiv p b.length * 53 := by
    rw [Int.tdiv_eq_ediv_of_nonneg hx0]
    exact Int.ediv_le_self _ hx0
   rw [wid (x := p + 1 - 1) (by omega) (by omega), show p + 1 - 1 = p from by omega, wid (x := p * 7) (by omega) (by omega), wid (x := p * 7 + 3) (by omega) (by omega), e1, e2]
   rw [wid (x := y1) (by omega) (by omega), wid (x := y2) (by omega) (by omega), wid (x := y1 * 131) (by omega) (by omega), wid (x := y2 * 1117) (by omega) (by omega), wid (x := y1 * 131 + y2 * 1117) (by omega) (by omega), wid (x := p * 29) (by omega) (by omega), wid (x := y1 * 131 + y2 * 1117 + p * 29) (by omega) (by omega)]
   rw [wid (x := Int.tdiv p b.length) (by omega) (by omega), wid (x := Int.tdiv p b.length * 53) (by omega) (by omega), wid (x := y1 * 131 + y2 * 1117 + p * 29 + Int.tdiv p b.length * 53) (by omega) (by omega)]
   rw [wid (x := Int.tdiv (y1 * 131 + y2 * 1117 + p * 29 + Int.tdiv p b.length * 53) 64) (by omega) (by omega)]
   exact Ev.neg hlt (Ev.neg (by omega) (Ev.pos t0 (Ev.pos t1 (Ev.pos u0 (Ev.pos u1 (Ev.neg (by omega) (Ev.now _)))))))
 obtain ⟨r, e, h2, h3⟩ := key
 refine ⟨r, Ev.neg hn ?_, h2, h3⟩
 rw [show ((b.length : Int) == 0) = false from by simpa using hb]
 exact e

/-! spec_DrawCountFlat -/

theorem spec_DrawCountFlat_ev {l : List Int} (h : ∀ x ∈ l, (Lit.int .u8 x).wf = true) : ∃ n : Int, Ev (fun k => spec_DrawCountFlat.f k l) n ∧ -1 ≤ n ∧ n ≤ 7 := by
 obtain ⟨b, eb, B⟩ := spec_l20Open_eq h
 obtain ⟨r, e, r0, r1⟩ := spec_l20Rd_pick_ev B (p := 0) (by omega) (by omega) 9
 have r1 := r1 (by omega)
 unfold spec_DrawCountFlat.f
 exact ⟨r - 1, Ev.bindv eb (Ev.bind e (Ev.ret (wid (by omega) (by omega)))), by omega, by omega⟩

/-! impl_CountRows -/
theorem impl_CountRows.j0.ev {x0 : Int} {x10 : Bool} {r : Int} (h : Ev (fun k => if x10 = true then (some (-1)) else (if x0 = 0 then (some 1) else (impl_CountRows.l0 k x0 0 1))) r) : Ev (fun k => impl_CountRows.j0 k x0 x10) r := Ev.step (fun _ => rfl) h
theorem impl_CountRows.l0.ev {x0 : Int} {x3 : Int} {x4 : Int} {r : Int} (h : Ev (fun k => if x4 ≤ x0 then ((impl_CountFlat.f k x4).bind fun t112 => ((impl_CountRows.f k (wrap64 (x0 - x4))).bind fun t113 => (impl_CountRows.l0 k x0 (wrap64 (x3 + (wrap64 (t112 * t113)))) (wrap64 (x4 + 1))))) else (some x3)) r) : Ev (fun k => impl_CountRows.l0 k x0 x3 x4) r := Ev.step (fun _ => rfl) h
theorem impl_CountRows.f.ev {a0 : Int} {r : Int} (h : Ev (fun k => if a0 < 0 then (impl_CountRows.j0 k a0 true) else (impl_CountRows.j0 k a0 (decide (a0 > 6)))) r) : Ev (fun k => impl_CountRows.f k a0) r := Ev.step (fun _ => rfl) h
theorem impl_CountFlat.j0.ev {x0 : Int} {x10 : Bool} {r : Int} (h : Ev (fun k => if x10 = true then (some (-1)) else (impl_CountFlat.l0 k x0 0 x0 0)) r) : Ev (fun k => impl_CountFlat.j0 k x0 x10) r := Ev.step (fun _ => rfl) h
theorem impl_CountFlat.l0.ev {x0 : Int} {x3 : Int} {x11 : Int} {x12 : Int} {r : Int} (h : Ev (fun k => if x12 < x11 then ((impl_CountRows.f k x12).bind fun t114 => ((impl_CountRows.f k (wrap64 ((wrap64 (x0 - 1)) - x12))).bind fun t115 => (impl_CountFlat.l0 k x0 (wrap64 (x3 + (wrap64 (t114 * t115)))) x11 (wrap64 (x12 + 1))))) else (some x3)) r) : Ev (fun k => impl_CountFlat.l0 k x0 x3 x11 x12) r := Ev.step (fun _ => rfl) h
theorem impl_CountFlat.f.ev {a0 : Int} {r : Int} (h : Ev (fun k => if a0 < 1 then (impl_CountFlat.j0 k a0 true) else (impl_CountFlat.j0 k a0 (decide (a0 > 6)))) r) : Ev (fun k => impl_CountFlat.f k a0) r := Ev.step (fun _ => rfl) h
set_option maxRecDepth 100000 in
theorem impl_CountRows_in {a : Int} (h0 : 0 ≤ a) (h1 : a ≤ 6) : Ev (fun k => impl_CountRows.f k a) (rowsN a) := by
 have h : a = 0 ∨ a = 1 ∨ a = 2 ∨ a = 3 ∨ a = 4 ∨ a = 5 ∨ a = 6 := by omega
 rcases h with rfl | rfl | rfl | rfl | rfl | rfl | rfl
 ·exact Ev.lit 80 fun m => by kernel_rfl
 ·exact Ev.lit 80 fun m => by kernel_rfl
 ·exact Ev.lit 80 fun m => by kernel_rfl
 ·exact Ev.lit 80 fun m => by kernel_rfl
 ·exact Ev.lit 80 fun m => by kernel_rfl
 ·exact Ev.lit 80 fun m => by kernel_rfl
 ·exact Ev.lit 80 fun m => by kernel_rfl
theorem impl_CountRows_ev (a : Int) : Ev (fun k => impl_CountRows.f k a) (rowsN a) := by
 by_cases h : 0 ≤ a ∧ a ≤ 6
 ·exact impl_CountRows_in h.1 h.2
 ·rw [rowsN_out h]
  refine impl_CountRows.f.ev ?_
  by_cases h0 : a < 0
  ·exact Ev.pos h0 (impl_CountRows.j0.ev (Ev.pos rfl (Ev.now _)))
  ·exact Ev.neg h0 (impl_CountRows.j0.ev (Ev.pos (by simp; omega) (Ev.now _)))

/-! impl_CountFlat -/

set_option maxRecDepth 100000 in
theorem impl_CountFlat_in {a : Int} (h0 : 1 ≤ a) (h1 : a ≤ 6) : Ev (fun k => impl_CountFlat.f k a) (flatN a) := by
 have h : a = 1 ∨ a = 2 ∨ a = 3 ∨ a = 4 ∨ a = 5 ∨ a = 6 := by omega
 rcases h with rfl | rfl | rfl | rfl | rfl | rfl
 ·exact Ev.lit 80 fun m => by kernel_rfl
 ·exact Ev.lit 80 fun m => by kernel_rfl
 ·exact Ev.lit 80 fun m => by kernel_rfl
 ·exact Ev.lit 80 fun m => by kernel_rfl
 ·exact Ev.lit 80 fun m => by kernel_rfl
 ·exact Ev.lit 80 fun m => by kernel_rfl
theorem impl_CountFlat_ev (a : Int) : Ev (fun k => impl_CountFlat.f k a) (flatN a) := by
 by_cases h : 1 ≤ a ∧ a ≤ 6
 ·exact impl_CountFlat_in h.1 h.2
 ·rw [flatN_out h]
  refine impl_CountFlat.f.ev ?_
  by_cases h0 : a < 1
  ·exact Ev.pos h0 (impl_CountFlat.j0.ev (Ev.pos rfl (Ev.now _)))
  ·exact Ev.neg h0 (impl_CountFlat.j0.ev (Ev.pos (by simp; omega) (Ev.now _)))

/-! spec_l1In -/

theorem spec_l1In_eq (a b c : Int) : spec_l1In.f a b c = some (decide (b ≤ a ∧ a ≤ c)) := by
 unfold spec_l1In.f
 by_cases h : a ≥ b
 ·rw [if_pos h]; simp [h]
 ·rw [if_neg h]; simp; intro; omega

/-! spec_l4Rows -/
theorem spec_l4Rows.l0.ev {x0 : Int} {x3 : Int} {x4 : Int} {r : Int} (h : Ev (fun k => if x4 ≤ x0 then ((spec_l4Flat.f k x4).bind fun t116 => ((spec_l4Rows.f k (wrap64 (x0 - x4))).bind fun t117 => (spec_l4Rows.l0 k x0 (wrap64 (x3 + (wrap64 (t116 * t117)))) (wrap64 (x4 + 1))))) else (some x3)) r) : Ev (fun k => spec_l4Rows.l0 k x0 x3 x4) r := Ev.step (fun _ => rfl) h
theorem spec_l4Rows.f.ev {a0 : Int} {r : Int} (h : Ev (fun k => if a0 = 0 then (some 1) else (spec_l4Rows.l0 k a0 0 1)) r) : Ev (fun k => spec_l4Rows.f k a0) r := Ev.step (fun _ => rfl) h
theorem spec_l4Flat.l0.ev {x0 : Int} {x3 : Int} {x4 : Int} {r : Int} (h : Ev (fun k => if x4 < x0 then ((spec_l4Rows.f k x4).bind fun t118 => ((spec_l4Rows.f k (wrap64 ((wrap64 (x0 - 1)) - x4))).bind fun t119 => (spec_l4Flat.l0 k x0 (wrap64 (x3 + (wrap64 (t118 * t119)))) (wrap64 (x4 + 1))))) else (some x3)) r) : Ev (fun k => spec_l4Flat.l0 k x0 x3 x4) r := Ev.step (fun _ => rfl) h
theorem spec_l4Flat.f.ev {a0 : Int} {r : Int} (h : Ev (fun k => spec_l4Flat.l0 k a0 0 0) r) : Ev (fun k => spec_l4Flat.f k a0) r := Ev.step (fun _ => rfl) h
set_option maxRecDepth 100000 in
theorem spec_l4Rows_in {a : Int} (h0 : 0 ≤ a) (h1 : a ≤ 6) : Ev (fun k => spec_l4Rows.f k a) (rowsN a) := by
 have h : a = 0 ∨ a = 1 ∨ a = 2 ∨ a = 3 ∨ a = 4 ∨ a = 5 ∨ a = 6 := by omega
 rcases h with rfl | rfl | rfl | rfl | rfl | rfl | rfl
 ·exact Ev.lit 80 fun m => by kernel_rfl
 ·exact Ev.lit 80 fun m => by kernel_rfl
 ·exact Ev.lit 80 fun m => by kernel_rfl
 ·exact Ev.lit 80 fun m => by kernel_rfl
 ·exact Ev.lit 80 fun m => by kernel_rfl
 ·exact Ev.lit 80 fun m => by kernel_rfl
 ·exact Ev.lit 80 fun m => by kernel_rfl

/-! spec_l4Flat -/

set_option maxRecDepth 100000 in
theorem spec_l4Flat_in {a : Int} (h0 : 1 ≤ a) (h1 : a ≤ 6) : Ev (fun k => spec_l4Flat.f k a) (flatN a) := by
 have h : a = 1 ∨ a = 2 ∨ a = 3 ∨ a = 4 ∨ a = 5 ∨ a = 6 := by omega
 rcases h with rfl | rfl | rfl | rfl | rfl | rfl
 ·exact Ev.lit 80 fun m => by kernel_rfl
 ·exact Ev.lit 80 fun m => by kernel_rfl
 ·exact Ev.lit 80 fun m => by kernel_rfl
 ·exact Ev.lit 80 fun m => by kernel_rfl
 ·exact Ev.lit 80 fun m => by kernel_rfl
 ·exact Ev.lit 80 fun m => by kernel_rfl

/-! spec_CountFlat -/

theorem spec_CountFlat_ev (a : Int) : Ev (fun k => spec_CountFlat.f k a) (flatN a) := by
 unfold spec_CountFlat.f
 refine Ev.bindv (spec_l1In_eq _ _ _) ?_
 by_cases h : 1 ≤ a ∧ a ≤ 6
 ·exact Ev.pos (by simpa using h) (Ev.bind (spec_l4Flat_in h.1 h.2) (Ev.now _))
 ·rw [flatN_out h]
  exact Ev.neg (by simpa using h) (Ev.now _)

/-! impl_steps -/
theorem impl_steps.l0.ev {x0 : List Int} {x1 : Int} {x7 : Int} {x8 : Int} {r : Int} (h : Ev (fun k => if x8 < x7 then (if 0 ≤ (wrap64 (x1 - 1)) then (if (wrap64 (x1 - 1)) < (x0.length : Int) then (if (rd x0 (wrap64 (x1 - 1))) = 0 then (some x8) else (impl_steps.l0 k x0 (rd x0 (wrap64 (x1 - 1))) x7 (wrap64 (x8 + 1)))) else (none)) else (none)) else (some (-1))) r) : Ev (fun k => impl_steps.l0 k x0 x1 x7 x8) r := Ev.step (fun _ => rfl) h
theorem impl_steps_l0 {l : List Int} (v : Hd.Vals l) (h8 : l.length ≤ 8) : ∀ (d : Nat) (m w : Int), 0 ≤ m → m + d = l.length → 1 ≤ w → w ≤ l.length →
  Ev (fun k => impl_steps.l0 k l w l.length m) (if Hd.it (Hd.hd l) d w = 0 then m + Hd.depF (Hd.hd l) d w else -1)
 | 0, m, w, h0, hd, h1, h2 => by
  refine impl_steps.l0.ev ?_
  rw [if_neg (show ¬ Hd.it (Hd.hd l) 0 w = 0 from fun e => by have : w = 0 := e; omega)]
  exact Ev.neg (by omega) (Ev.now _)
 | d + 1, m, w, h0, hd, h1, h2 => by
  refine impl_steps.l0.ev ?_
  rw [wid (x := w - 1) (by omega) (by omega), wid (x := m + 1) (by omega) (by omega), rd_hd h1]
  refine Ev.pos (by omega) (Ev.pos (by omega) (Ev.pos (by omega) ?_))
  by_cases hz : Hd.hd l w = 0
  ·refine Ev.pos hz (Ev.ret ?_)
   have : Hd.it (Hd.hd l) (d + 1) w = 0 := by show Hd.it (Hd.hd l) d (Hd.hd l w) = 0; rw [hz]; exact Hd.it_zero (Hd.hd_zero l) d
   rw [if_pos this, Hd.depF, if_pos hz]; simp
  ·refine Ev.neg hz ?_
   have := v w h1 h2
   have ih := impl_steps_l0 v h8 d (m + 1) (Hd.hd l w) (by omega) (by omega) (by omega) (by omega)
   have e : Hd.it (Hd.hd l) (d + 1) w = Hd.it (Hd.hd l) d (Hd.hd l w) := rfl
   rw [e, Hd.depF, if_neg hz]
   have e2 : m + ((Hd.depF (Hd.hd l) d (Hd.hd l w) + 1 : Nat) : Int) = m + 1 + (Hd.depF (Hd.hd l) d (Hd.hd l w) : Nat) := by omega
   rw [e2]; exact ih
theorem impl_steps_ev {l : List Int} (v : Hd.Vals l) (h8 : l.length ≤ 8) {w : Int} (h1 : 1 ≤ w) (h2 : w ≤ l.length) :
  Ev (fun k => impl_steps.f k l w) (if Hd.it (Hd.hd l) l.length w = 0 then (Hd.depF (Hd.hd l) l.length w : Int) else -1) := by
 have := impl_steps_l0 v h8 l.length 0 w (by omega) (by omega) h1 h2
 simp only [Int.zero_add] at this
 exact this

/-! impl_TreeOk -/
theorem impl_TreeOk.j0.ev {x0 : List Int} {x14 : Bool} {r : Bool} (h : Ev (fun k => if x14 = true then (some false) else (impl_TreeOk.l0 k x0 0 x0 (x0.length : Int) 0)) r) : Ev (fun k => impl_TreeOk.j0 k x0 x14) r := Ev.step (fun _ => rfl) h
theorem impl_TreeOk.l0.ev {x0 : List Int} {x3 : Int} {x15 : List Int} {x16 : Int} {x17 : Int} {r : Bool} (h : Ev (fun k => if x17 < x16 then (if 0 ≤ x17 then (if x17 < (x15.length : Int) then (if (rd x15 x17) < 0 then (impl_TreeOk.j2 k x0 x3 (rd x15 x17) x15 x16 x17 true) else (impl_TreeOk.j2 k x0 x3 (rd x15 x17) x15 x16 x17 (decide ((rd x15 x17) > (x0.length : Int))))) else (none)) else (none)) else (impl_TreeOk.l1 k x0 x3 (x0.length : Int) 0)) r) : Ev (fun k => impl_TreeOk.l0 k x0 x3 x15 x16 x17) r := Ev.step (fun _ => rfl) h
theorem impl_TreeOk.j2.ev {x0 : List Int} {x3 : Int} {x5 : Int} {x15 : List Int} {x16 : Int} {x17 : Int} {x28 : Bool} {r : Bool} (h : Ev (fun k => if x28 = true then (some false) else (if x5 = 0 then (impl_TreeOk.l0 k x0 (wrap64 (x3 + 1)) x15 x16 (wrap64 (x17 + 1))) else (impl_TreeOk.l0 k x0 x3 x15 x16 (wrap64 (x17 + 1))))) r) : Ev (fun k => impl_TreeOk.j2 k x0 x3 x5 x15 x16 x17 x28) r := Ev.step (fun _ => rfl) h
theorem impl_TreeOk.l1.ev {x0 : List Int} {x3 : Int} {x35 : Int} {x36 : Int} {r : Bool} (h : Ev (fun k => if x36 < x35 then ((impl_steps.f k x0 (wrap64 (x36 + 1))).bind fun t124 => (if t124 < 0 then (some false) else (impl_TreeOk.l1 k x0 x3 x35 (wrap64 (x36 + 1))))) else (some (x3 == 1))) r) : Ev (fun k => impl_TreeOk.l1 k x0 x3 x35 x36) r := Ev.step (fun _ => rfl) h
theorem impl_TreeOk_l1 {l : List Int} (v : Hd.Vals l) (h8 : l.length ≤ 8) {c : Int} (hc : c = Hd.zeros l l.length) : ∀ i : Int, i ≤ l.length → 0 ≤ i → (∀ a : Int, 1 ≤ a → a ≤ i → Hd.it (Hd.hd l) l.length a = 0) →
  Ev (fun k => impl_TreeOk.l1 k l c l.length i) (Hd.treeB l) := by
 refine Hd.down ?_
 intro i hi ih h0 hb
 refine impl_TreeOk.l1.ev ?_
 by_cases hlt : i < l.length
 ·rw [wid (x := i + 1) (by omega) (by omega)]
  refine Ev.pos hlt (Ev.bind (impl_steps_ev v h8 (by omega) (by omega)) ?_)
  by_cases hz : Hd.it (Hd.hd l) l.length (i + 1) = 0
  ·rw [if_pos hz]
   refine Ev.neg (by omega) (ih hlt (by omega) fun a h1 h2 => ?_)
   by_cases e : a = i + 1
   ·rw [e]; exact hz
   ·exact hb a h1 (by omega)
  ·rw [if_neg hz, Hd.treeB_no (fun t => hz (t.2.back _ (by omega) (by omega)))]
   exact Ev.pos (by omega) (Ev.now _)
 ·refine Ev.neg hlt (Ev.ret ?_)
  have t := Hd.T_iff h8 v (fun a h1 h2 => hb a h1 (by omega))
  by_cases e : Hd.zeros l l.length = 1
  ·rw [Hd.treeB_yes (t.2 e), hc, e]; rfl
  ·rw [Hd.treeB_no (fun x => e (t.1 x)), hc]; simp; omega
theorem impl_TreeOk_l0 {l : List Int} (h8 : l.length ≤ 8) : ∀ i : Int, i ≤ l.length → 0 ≤ i → (∀ a : Int, 1 ≤ a → a ≤ i → 0 ≤ Hd.hd l a ∧ Hd.hd l a ≤ l.length) →
  Ev (fun k => impl_TreeOk.l0 k l (Hd.zeros l i.toNat) l l.length i) (Hd.treeB l) := by
 refine Hd.down ?_
 intro i hi ih h0 hb
 refine impl_TreeOk.l0.ev ?_
 by_cases hlt : i < l.length
 ·have hz := Hd.cnt_le (fun a => decide (Hd.hd l a = 0)) i.toNat
  have hzz : Hd.zeros l (i + 1).toNat = Hd.zeros l i.toNat + if Hd.hd l (i + 1) = 0 then 1 else 0 := by
   rw [show (i + 1).toNat = i.toNat + 1 from by omega]
   show Hd.cnt _ (i.toNat + 1) = _
   rw [Hd.cnt, show ((i.toNat : Int) + 1) = i + 1 from by omega]
   simp [Hd.zeros]
  have hz' : Hd.zeros l i.toNat ≤ i.toNat := hz
  rw [rd_hd1 h0]
  refine Ev.pos hlt (Ev.pos h0 (Ev.pos hlt ?_))
  have no : ¬ (0 ≤ Hd.hd l (i + 1) ∧ Hd.hd l (i + 1) ≤ l.length) → Hd.treeB l = false := fun hn => Hd.treeB_no fun t => hn (t.vals _ (by omega) (by omega))
  by_cases hneg : Hd.hd l (i + 1) < 0
  ·refine Ev.pos hneg (impl_TreeOk.j2.ev (Ev.pos rfl (Ev.ret ?_)))
   rw [no (by omega)]
  ·refine Ev.neg hneg (impl_TreeOk.j2.ev ?_)
   by_cases hbig : Hd.hd l (i + 1) > l.length
   ·refine Ev.pos (by simpa using hbig) (Ev.ret ?_)
    rw [no (by omega)]
   ·refine Ev.neg (by simpa using hbig) ?_
    rw [wid (x := (Hd.zeros l i.toNat : Int) + 1) (by omega) (by omega), wid (x := i + 1) (by omega) (by omega)]
    have next := ih hlt (by omega) (fun a h1 h2 => by
     by_cases e : a = i + 1
     ·rw [e]; omega
     ·exact hb a h1 (by omega))
    rw [hzz] at next
    by_cases h00 : Hd.hd l (i + 1) = 0
    ·rw [if_pos h00] at next
     exact Ev.pos h00 next
    ·rw [if_neg h00] at next
     exact Ev.neg h00 next
 ·refine Ev.neg hlt ?_
  have e : i.toNat = l.length := by omega
  rw [e]
  exact impl_TreeOk_l1 (fun a h1 h2 => hb a h1 (by omega)) h8 rfl 0 (by omega) (by omega) (fun a h1 h2 => by omega)
theorem impl_TreeOk_ev (l : List Int) : Ev (fun k => impl_TreeOk.f k l) (Hd.treeB l) := by
 unfold impl_TreeOk.f
 by_cases h1 : (l.length : Int) < 1
 ·refine Ev.pos h1 (impl_TreeOk.j0.ev (Ev.pos rfl (Ev.ret ?_)))
  exact (Hd.treeB_no fun t => by have := t.2.pos; omega).symm
 ·refine Ev.neg h1 (impl_TreeOk.j0.ev ?_)
  by_cases h8 : (l.length : Int) > 8
  ·refine Ev.pos (by simpa using h8) (Ev.ret ?_)
   exact (Hd.treeB_no fun t => by have := t.1; omega).symm
  ·refine Ev.neg (by simpa using h8) ?_
   exact impl_TreeOk_l0 (by omega) 0 (by omega) (by omega) (fun a h1 h2 => by omega)

/-! laws_alive -/

theorem alive_one : Hd.treeB [0] = true := by
 have one : ∀ a : Int, 1 ≤ a → a ≤ ([0] : List Int).length → a = 1 := fun a h1 h2 => by simp at h2; omega
 exact Hd.treeB_yes ((Hd.T_iff (l := [0]) (by decide) (fun a h1 h2 => by rw [one a h1 h2]; decide) (fun a h1 h2 => by rw [one a h1 h2]; decide)).2 (by decide))
theorem alive_two : Hd.treeB [1] = false := Hd.treeB_no fun t => by
 have := t.2.not_own (a := 1) (by simp)
 exact this (by decide)
theorem laws_alive_ev : Ev (fun k => laws_alive.f k) true := by
 unfold laws_alive.f
 refine Ev.bind (impl_TreeOk_ev [0]) (Ev.pos alive_one (Ev.bind (impl_TreeOk_ev [1]) (Ev.ret ?_)))
 rw [alive_two]; rfl

/-! impl_CountTrees -/
theorem impl_CountTrees.j0.ev {x0 : Int} {x9 : Bool} {r : Int} (h : Ev (fun k => if x9 = true then (some (-1)) else (impl_CountTrees.l0 k x0 1 (wrap64 (x0 - 1)) 0)) r) : Ev (fun k => impl_CountTrees.j0 k x0 x9) r := Ev.step (fun _ => rfl) h
theorem impl_CountTrees.l0.ev {x0 : Int} {x3 : Int} {x11 : Int} {x12 : Int} {r : Int} (h : Ev (fun k => if x12 < x11 then (impl_CountTrees.l0 k x0 (wrap64 (x3 * x0)) x11 (wrap64 (x12 + 1))) else (some x3)) r) : Ev (fun k => impl_CountTrees.l0 k x0 x3 x11 x12) r := Ev.step (fun _ => rfl) h
theorem impl_CountTrees_l0 {x t : Nat} (hx : x ≤ 8) (ht : t ≤ 8) : ∀ i : Int, i ≤ t → 0 ≤ i → Ev (fun k => impl_CountTrees.l0 k (x : Int) ((x ^ i.toNat : Nat) : Int) (t : Int) i) ((x ^ t : Nat) : Int) := by
 refine Hd.down ?_
 intro i hi ih h0
 refine impl_CountTrees.l0.ev ?_
 by_cases hlt : i < t
 ·have next := ih hlt (by omega)
  have hp := pow_le (j := i.toNat + 1) hx (by omega)
  rw [show (i + 1).toNat = i.toNat + 1 from by omega] at next
  have e : ((x ^ i.toNat : Nat) : Int) * (x : Int) = ((x ^ (i.toNat + 1) : Nat) : Int) := by rw [Nat.pow_succ]; simp
  rw [e, wid (x := ((x ^ (i.toNat + 1) : Nat) : Int)) (by omega) (by omega), wid (x := i + 1) (by omega) (by omega)]
  exact Ev.pos hlt next
 ·refine Ev.neg hlt (Ev.ret ?_)
  rw [show i.toNat = t from by omega]
theorem impl_CountTrees_ev (a : Int) : Ev (fun k => impl_CountTrees.f k a) (treesN a) := by
 unfold impl_CountTrees.f treesN
 by_cases h1 : a < 1
 ·rw [if_neg (by omega)]
  exact Ev.pos h1 (impl_CountTrees.j0.ev (Ev.pos rfl (Ev.now _)))
 ·refine Ev.neg h1 (impl_CountTrees.j0.ev ?_)
  by_cases h8 : a > 8
  ·rw [if_neg (by omega)]
   exact Ev.pos (by simpa using h8) (Ev.now _)
  ·refine Ev.neg (by simpa using h8) ?_
   rw [if_pos (by omega), wid (x := a - 1) (by omega) (by omega)]
   have := impl_CountTrees_l0 (x := a.toNat) (t := a.toNat - 1) (by omega) (by omega) 0 (by omega) (by omega)
   rw [show ((a.toNat : Nat) : Int) = a from by omega, show ((a.toNat - 1 : Nat) : Int) = a - 1 from by omega] at this
   simp only [Int.toNat_zero, Nat.pow_zero] at this
   exact this

theorem laws_FnCountFlat.l0.ev {x3 : Int} {x4 : Int} {x5 : Int} {x6 : Int} {r : Bool} (h : Ev (fun k => if x6 < x3 then (if x6 = 0 then (none) else (laws_FnCountFlat.l0 k x3 x4 (wrap64 (Int.tdiv (wrap64 (x5 * (wrap64 ((wrap64 ((wrap64 (3 * x3)) - 2)) - (wrap64 (x6 - 1)))))) x6)) (wrap64 (x6 + 1)))) else (if (wrap64 (x4 * x3)) = x5 then ((impl_CountTrees.f k x3).bind fun t138 => (some (decide (x4 ≤ t138)))) else (some false))) r) : Ev (fun k => laws_FnCountFlat.l0 k x3 x4 x5 x6) r := Ev.step (fun _ => rfl) h
end Go.Proofs.Ytikajogmjfldaaa.QFnCountFlat
