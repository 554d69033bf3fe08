/- Contracts of the functions that the statement FnOrderOk reaches: what each printed function comes to. -/
import Derived.Test.YtfccopfhniobjaaQFnOrderOkx3
import Derived.Test.YtfccopfhniobjaaWSized
import Derived.Test.YtfccopfhniobjaaHdA
import Derived.Test.YtfccopfhniobjaaHdG
namespace Go.Proofs.Ytfccopfhniobjaa.PrintWords
/-- The name by which the printed row calls the word. -/
abbrev sized_ints := @Go.Proofs.YtfccopfhniobjaaW.PrintWords.sized_ints
end Go.Proofs.Ytfccopfhniobjaa.PrintWords
namespace Go.Proofs.Ytfccopfhniobjaa.QFnOrderOk
open Go.RowKit Go.Proofs.YtfccopfhniobjaaW.PrintWords Go.Proofs.YtfccopfhniobjaaW.PrintLast Go.Proofs.YtfccopfhniobjaaW.PrintMore
set_option linter.unusedVariables false
set_option linter.unusedSimpArgs false
theorem wid {x : Int} (h : -9223372036854775808 ≤ x) (h' : x ≤ 9223372036854775807) : wrap64 x = x := by unfold wrap64; omega
theorem Ev.pos {α : Type} {c : Prop} [Decidable c] {A B : Nat → Option α} {r : α} (h : c) (e : Ev A r) : Ev (fun k => if c then A k else B k) r := by simpa only [if_pos h] using e
theorem Ev.neg {α : Type} {c : Prop} [Decidable c] {A B : Nat → Option α} {r : α} (h : ¬ c) (e : Ev B r) : Ev (fun k => if c then A k else B k) r := by simpa only [if_neg h] using e
theorem Ev.bindv {α β : Type} {o : Option α} {f : Nat → α → Option β} {a : α} {r : β} (h : o = some a) (k : Ev (fun n => f n a) r) : Ev (fun n => o.bind (f n)) r := by subst h; exact k
theorem Ev.ret {α : Type} {a r : α} (h : a = r) : Ev (fun _ => some a) r := h ▸ Ev.now a
theorem rd_hd {l : List Int} {a : Int} (h : 1 ≤ a) : rd l (a - 1) = Hd.hd l a := Hd.hd_get h
theorem rd_hd1 {l : List Int} {a : Int} (h : 0 ≤ a) : rd l a = Hd.hd l (a + 1) := by rw [← rd_hd (by omega)]; congr 1; omega
theorem mn_mx (a b : Int) : (mn a b = a ∧ mx a b = b ∧ a ≤ b) ∨ (mn a b = b ∧ mx a b = a ∧ b ≤ a) := by
 unfold mn mx
 split <;> split <;> omega
theorem h_or_i64 {a b : Nat} (ha : a < 256) (hb : b < 256) : Go.bits .or .i64 (a : Int) (b : Int) = ((a ||| b : Nat) : Int) :=
 (Go.bits_nat .i64 8 (by decide) (fun n h0 h1 => by rw [Go.IntKind.wrap_i64]; omega) a b (by omega) (by omega)).2
theorem h_shl_one {x : Nat} (h : x ≤ 7) : shl .i64 1 (x : Int) = ((2 ^ x : Nat) : Int) := by
 have : ∀ x : Nat, x < 8 → shl .i64 1 (x : Int) = ((2 ^ x : Nat) : Int) := by decide
 exact this x (by omega)
theorem h_shr_bit {v x : Nat} (h : x ≤ 64) : (Int.tmod (shr .i64 (v : Int) (x : Int)) 2 = 1) ↔ v.testBit x = true := by
 unfold shr
 rw [Int.toNat_natCast, Nat.min_eq_left (by simpa [Go.IntKind.bits] using h), Nat.testBit_eq_decide_div_mod_eq]
 have : ((v : Int) / 2 ^ x) = ((v / 2 ^ x : Nat) : Int) := by simp
 rw [this, Int.tmod_eq_emod_of_nonneg (Int.natCast_nonneg _), decide_eq_true_eq]
 omega
theorem h_shr_nat {v x : Nat} (h : x ≤ 64) : shr .i64 (v : Int) (x : Int) = ((v / 2 ^ x : Nat) : Int) := by
 unfold shr
 rw [Int.toNat_natCast, Nat.min_eq_left (by simpa [Go.IntKind.bits] using h)]
 simp
theorem h_and_i64 {a b : Nat} (ha : a < 512) (hb : b < 512) : Go.bits .and .i64 (a : Int) (b : Int) = ((a &&& b : Nat) : Int) :=
 (Go.bits_nat .i64 9 (by decide) (fun n h0 h1 => by rw [Go.IntKind.wrap_i64]; omega) a b (by omega) (by omega)).1
theorem h_rd_set {P : List Int} {i j : Int} {v : Int} (h0 : 0 ≤ i) (h1 : i < P.length) (hj : 0 ≤ j) : rd (P.set i.toNat v) j = if j = i then v else rd P j := by
 unfold rd
 rw [List.getD_eq_getElem?_getD, List.getElem?_set]
 by_cases e : j = i
 ·subst e
  rw [if_pos rfl, if_pos (by omega), if_pos rfl]; rfl
 ·rw [if_neg (by omega), if_neg e, List.getD_eq_getElem?_getD]
/-- Bytes of a code, as far as they are read. -/
def Bts (b : List Int) : Prop := b.length ≤ 2000 ∧ ∀ i : Int, 0 ≤ rd b i ∧ rd b i ≤ 255
theorem bts_rd {l : List Int} (h : ∀ x, x ∈ l → 0 ≤ x ∧ x ≤ 255) (i : Int) : 0 ≤ rd l i ∧ rd l i ≤ 255 := by
 unfold rd
 rw [List.getD_eq_getElem?_getD]
 by_cases hi : i.toNat < l.length
 ·rw [List.getElem?_eq_getElem hi]; exact h _ (List.getElem_mem hi)
 ·rw [List.getElem?_eq_none (by omega)]; simp
theorem Ev.lit {α : Type} {g : Nat → Option α} {r : α} (K : Nat) (h : ∀ m, g (m + K) = some r) : Ev g r := ⟨K, fun k hk => by obtain ⟨m, rfl⟩ := Nat.exists_eq_add_of_le' hk; exact h m⟩
theorem rd_at {l : List Int} {j : Nat} (h : j < l.length) : rd l (j : Int) = l[j] := by
 simp [rd, List.getD_eq_getElem?_getD, List.getElem?_eq_getElem h]

/-! spec_l20Open -/

theorem spec_l20Open_eq {l : List Int} (h : ∀ x ∈ l, (Lit.int .u8 x).wf = true) : ∃ b, spec_l20Open.f l = some (b, 0) ∧ Bts b := by
 have hb : ∀ x, x ∈ l → 0 ≤ x ∧ x ≤ 255 := fun x hx => by
  have := h x hx
  simpa [Lit.wf, IntKind.min, IntKind.max, IntKind.signed, IntKind.bits] using this
 unfold spec_l20Open.f
 by_cases hl : (l.length : Int) > 2000
 ·rw [if_pos hl, if_pos (by omega)]
  exact ⟨_, rfl, by simp; omega, bts_rd fun x hx => hb x (List.mem_of_mem_take hx)⟩
 ·rw [if_neg hl]
  exact ⟨_, rfl, by omega, bts_rd hb⟩

/-! spec_l20Rd_pick -/
theorem spec_l20Rd_pick.j0.ev {x1 : Int} {x24 : Bool} {x1000 : List Int} {x1001 : Int} {r : Int × Int} (h : Ev (fun k => if x24 = true then (some (0, x1001)) else (if (wrap64 (x1001 - 1)) < (x1000.length : Int) then (if 0 ≤ (wrap64 (x1001 - 1)) then (if x1 = 0 then (none) else (some (Int.tmod (wrap64 (rd x1000 (wrap64 (x1001 - 1)))) x1, x1001))) else (none)) else (if (x1000.length : Int) = 0 then (none) else (if 0 ≤ (Int.tmod (wrap64 (x1001 - 1)) (x1000.length : Int)) then (if (Int.tmod (wrap64 (x1001 - 1)) (x1000.length : Int)) < (x1000.length : Int) then (if 0 ≤ (Int.tmod (wrap64 ((wrap64 ((wrap64 (x1001 - 1)) * 7)) + 3)) (x1000.length : Int)) then (if (Int.tmod (wrap64 ((wrap64 ((wrap64 (x1001 - 1)) * 7)) + 3)) (x1000.length : Int)) < (x1000.length : Int) then (if x1 = 0 then (none) else (some (Int.tmod (Go.bits .xor .i64 (wrap64 ((wrap64 ((wrap64 ((wrap64 ((wrap64 (rd x1000 (Int.tmod (wrap64 (x1001 - 1)) (x1000.length : Int)))) * 131)) + (wrap64 ((wrap64 (rd x1000 (Int.tmod (wrap64 ((wrap64 ((wrap64 (x1001 - 1)) * 7)) + 3)) (x1000.length : Int)))) * 1117)))) + (wrap64 ((wrap64 (x1001 - 1)) * 29)))) + (wrap64 ((wrap64 (Int.tdiv (wrap64 (x1001 - 1)) (x1000.length : Int))) * 53)))) (wrap64 (Int.tdiv (wrap64 ((wrap64 ((wrap64 ((wrap64 ((wrap64 (rd x1000 (Int.tmod (wrap64 (x1001 - 1)) (x1000.length : Int)))) * 131)) + (wrap64 ((wrap64 (rd x1000 (Int.tmod (wrap64 ((wrap64 ((wrap64 (x1001 - 1)) * 7)) + 3)) (x1000.length : Int)))) * 1117)))) + (wrap64 ((wrap64 (x1001 - 1)) * 29)))) + (wrap64 ((wrap64 (Int.tdiv (wrap64 (x1001 - 1)) (x1000.length : Int))) * 53)))) 64))) x1, x1001))) else (none)) else (none)) else (none)) else (none))))) r) : Ev (fun k => spec_l20Rd_pick.j0 k x1 x24 x1000 x1001) r := Ev.step (fun _ => rfl) h
theorem bits_xor_nat (k : Go.IntKind) (j : Nat) (hj : j ≤ k.bits) (hk : ∀ n : Int, 0 ≤ n → n < 2 ^ j → k.wrap n = n) (a b : Nat) (ha : a < 2 ^ j) (hb : b < 2 ^ j) : Go.bits .xor k a b = ((a ^^^ b : Nat) : Int) := by
 have hp : 2 ^ j ≤ 2 ^ k.bits := Nat.pow_le_pow_right (by decide) hj
 have ha' : a % 2 ^ k.bits = a := Nat.mod_eq_of_lt (Nat.lt_of_lt_of_le ha hp)
 have hb' : b % 2 ^ k.bits = b := Nat.mod_eq_of_lt (Nat.lt_of_lt_of_le hb hp)
 simp only [Go.bits, BitVec.ofInt_natCast, BitVec.toNat_xor, BitVec.toNat_ofNat, ha', hb']
 refine hk _ (Int.natCast_nonneg _) ?_
 exact_mod_cast Nat.xor_lt_two_pow ha hb
theorem h_xor_i64 {a b : Nat} (ha : a < 2 ^ 40) (hb : b < 2 ^ 40) : Go.bits .xor .i64 (a : Int) (b : Int) = ((a ^^^ b : Nat) : Int) :=
 bits_xor_nat .i64 40 (by decide) (fun n h0 h1 => by rw [Go.IntKind.wrap_i64]; omega) a b ha hb
theorem xor_nonneg {x : Int} (h0 : 0 ≤ x) (h1 : x < 1000000000) : 0 ≤ Go.bits .xor .i64 x (Int.tdiv x 64) ∧ Go.bits .xor .i64 x (Int.tdiv x 64) < 2 ^ 40 := by
 obtain ⟨a, rfl⟩ := Int.eq_ofNat_of_zero_le h0
 have : Int.tdiv (a : Int) 64 = ((a / 64 : Nat) : Int) := by
  rw [Int.tdiv_eq_ediv_of_nonneg (by omega)]; simp
 rw [this, h_xor_i64 (by omega) (by omega)]
 have := Nat.xor_lt_two_pow (n := 40) (x := a) (y := a / 64) (by omega) (by omega)
 omega
theorem spec_l20Rd_pick_ev {b : List Int} (B : Bts b) {p : Int} (h0 : 0 ≤ p) (h1 : p ≤ 1000000) (n : Int) : ∃ r : Int, Ev (fun k => spec_l20Rd_pick.f k b p n) (r, p + 1) ∧ 0 ≤ r ∧ (1 ≤ n → r < n) := by
 unfold spec_l20Rd_pick.f
 rw [wid (x := p + 1) (by omega) (by omega)]
 by_cases hn : n < 1
 ·exact ⟨0, Ev.pos hn (spec_l20Rd_pick.j0.ev (Ev.pos rfl (Ev.now _))), by omega, by omega⟩
 by_cases hb : b.length = 0
 ·refine ⟨0, Ev.neg hn ?_, by omega, by omega⟩
  rw [show ((b.length : Int) == 0) = true from by simp [hb]]
  exact spec_l20Rd_pick.j0.ev (Ev.pos rfl (Ev.now _))
 have hlen := B.1
 have key : ∃ r : Int, Ev (fun k => spec_l20Rd_pick.j0 k n false b (p + 1)) (r, p + 1) ∧ 0 ≤ r ∧ (1 ≤ n → r < n) := by
  by_cases hlt : p < b.length
  ·refine ⟨Int.tmod (rd b p) n, spec_l20Rd_pick.j0.ev (Ev.neg (by simp) ?_), Int.tmod_nonneg _ (B.2 p).1, fun h => Int.tmod_lt_of_pos _ (by omega)⟩
   have := B.2 p
   rw [wid (x := p + 1 - 1) (by omega) (by omega), show p + 1 - 1 = p from by omega, wid (x := rd b p) (by omega) (by omega)]
   exact Ev.pos hlt (Ev.pos h0 (Ev.neg (by omega) (Ev.now _)))
  ·have t0 : 0 ≤ Int.tmod p b.length := Int.tmod_nonneg _ h0
   have t1 : Int.tmod p b.length < b.length := Int.tmod_lt_of_pos _ (by omega)
   have u0 : 0 ≤ Int.tmod (p * 7 + 3) b.length := Int.tmod_nonneg _ (by omega)
   have u1 : Int.tmod (p * 7 + 3) b.length < b.length := Int.tmod_lt_of_pos _ (by omega)
   have v0 : 0 ≤ Int.tdiv p b.length := Int.tdiv_nonneg h0 (by omega)
   have v1 : Int.tdiv p b.length ≤ p := by
    rw [Int.tdiv_eq_ediv_of_nonneg h0]
    exact Int.ediv_le_self _ h0
   have b1 := B.2 (Int.tmod p b.length)
   have b2 := B.2 (Int.tmod (p * 7 + 3) b.length)
   generalize e1 : rd b (Int.tmod p b.length) = y1 at *
   generalize e2 : rd b (Int.tmod (p * 7 + 3) b.length) = y2 at *
   have hx0 : 0 ≤ y1 * 131 + y2 * 1117 + p * 29 + Int.tdiv p b.length * 53 := by omega
   have hx1 : y1 * 131 + y2 * 1117 + p * 29 + Int.tdiv p b.length * 53 < 1000000000 := by omega
   have hx := xor_nonneg hx0 hx1
   refine ⟨Int.tmod (Go.bits .xor .i64 (y1 * 131 + y2 * 1117 + p * 29 + Int.tdiv p b.length * 53) (Int.tdiv (y1 * 131 + y2 * 1117 + p * 29 + Int.tdiv p b.length * 53) 64)) n, spec_l20Rd_pick.j0.ev (Ev.neg (by simp) ?_), Int.tmod_nonneg _ hx.1, fun h => Int.tmod_lt_of_pos _ (by omega)⟩
   have d0 : 0 ≤ Int.tdiv (y1 * 131 + y2 * 1117 + p * 29 + Int.tdiv p b.length * 53) 64 := Int.tdiv_nonneg hx0 (by omega)
   have d1 : Int.tdiv (y1 * 131 + y2 * 1117 + p * 29 + Int.tdiv p b.length * 53) 64 ≤ y1 * 131 + y2 * 1117 + p * 29 + Int.tdiv p b.length * 53 := by
    rw [Int.tdiv_eq_ediv_of_nonneg hx0]
    exact Int.ediv_le_self _ hx0
   rw [wid (x := p + 1 - 1) (by omega) (by omega), show p + 1 - 1 = p from by omega, wid (x := p * 7) (by omega) (by omega), wid (x := p * 7 + 3) (by omega) (by omega), e1, e2]
   rw [wid (x := y1) (by omega) (by omega), wid (x := y2) (by omega) (by omega), wid (x := y1 * 131) (by omega) (by omega), wid (x := y2 * 1117) (by omega) (by omega), wid (x := y1 * 131 + y2 * 1117) (by omega) (by omega), wid (x := p * 29) (by omega) (by omega), wid (x := y1 * 131 + y2 * 1117 + p * 29) (by omega) (by omega)]
   rw [wid (x := Int.tdiv p b.length) (by omega) (by omega), wid (x := Int.tdiv p b.length * 53) (by omega) (by omega), wid (x := y1 * 131 + y2 * 1117 + p * 29 + Int.tdiv p b.length * 53) (by omega) (by omega)]
   rw [wid (x := Int.tdiv (y1 * 131 + y2 * 1117 + p * 29 + Int.tdiv p b.length * 53) 64) (by omega) (by omega)]
   exact Ev.neg hlt (Ev.neg (by omega) (Ev.pos t0 (Ev.pos t1 (Ev.pos u0 (Ev.pos u1 (Ev.neg (by omega) (Ev.now _)))))))
 obtain ⟨r, e, h2, h3⟩ := key
 refine ⟨r, Ev.neg hn ?_, h2, h3⟩
 rw [show ((b.length : Int) == 0) = false from by simpa using hb]
 exact e

/-! spec_l20Order -/
theorem spec_l20Order.l0.ev {x1 : Int} {x5 : List Int} {x6 : Int} {x7 : Int} {x1000 : List Int} {x1001 : Int} {r : List Int × Int} (h : Ev (fun k => if x7 ≤ x1 then (if x6 = 0 then ((spec_l20Rd_pick.f k x1000 x1001 x7).bind fun bt112 => ((some (([] : List Int) : List Int)).bind fun y114 => (if 0 ≤ bt112.1 then (if bt112.1 ≤ (x5.length : Int) then ((some (x5.take (bt112.1 : Int).toNat : List Int)).bind fun y117 => (if y114.length + y117.length < 17592186044416 then ((some (y114 ++ y117 : List Int)).bind fun y121 => (if y121.length < 17592186044416 then ((some (y121 ++ [x7] : List Int)).bind fun y124 => ((some (x5.drop (bt112.1 : Int).toNat : List Int)).bind fun y127 => (if y124.length + y127.length < 17592186044416 then (spec_l20Order.l0 k x1 (y124 ++ y127) x6 (wrap64 (x7 + 1)) x1000 bt112.2) else (none)))) else (none))) else (none))) else (none)) else (none)))) else ((spec_l20Rd_pick.f k x1000 x1001 3).bind fun bt134 => (if bt134.1 = 0 then ((spec_l20Rd_pick.f k x1000 bt134.2 x7).bind fun bt136 => ((some (([] : List Int) : List Int)).bind fun y138 => (if 0 ≤ bt136.1 then (if bt136.1 ≤ (x5.length : Int) then ((some (x5.take (bt136.1 : Int).toNat : List Int)).bind fun y141 => (if y138.length + y141.length < 17592186044416 then ((some (y138 ++ y141 : List Int)).bind fun y145 => (if y145.length < 17592186044416 then ((some (y145 ++ [x7] : List Int)).bind fun y148 => ((some (x5.drop (bt136.1 : Int).toNat : List Int)).bind fun y151 => (if y148.length + y151.length < 17592186044416 then (spec_l20Order.l0 k x1 (y148 ++ y151) x6 (wrap64 (x7 + 1)) x1000 bt136.2) else (none)))) else (none))) else (none))) else (none)) else (none)))) else ((some (([] : List Int) : List Int)).bind fun y158 => (if 0 ≤ (x5.length : Int) then (if (x5.length : Int) ≤ (x5.length : Int) then ((some (x5.take ((x5.length : Int) : Int).toNat : List Int)).bind fun y161 => (if y158.length + y161.length < 17592186044416 then ((some (y158 ++ y161 : List Int)).bind fun y165 => (if y165.length < 17592186044416 then ((some (y165 ++ [x7] : List Int)).bind fun y168 => ((some (x5.drop ((x5.length : Int) : Int).toNat : List Int)).bind fun y171 => (if y168.length + y171.length < 17592186044416 then (spec_l20Order.l0 k x1 (y168 ++ y171) x6 (wrap64 (x7 + 1)) x1000 bt134.2) else (none)))) else (none))) else (none))) else (none)) else (none)))))) else (some (x5, x1001))) r) : Ev (fun k => spec_l20Order.l0 k x1 x5 x6 x7 x1000 x1001) r := Ev.step (fun _ => rfl) h
/-- Numbers from 1 to many, so many of them. -/
def Ord (many : Int) (len : Nat) (o : List Int) : Prop := o.length = len ∧ ∀ x, x ∈ o → 1 ≤ x ∧ x ≤ many
theorem ord_put {many k a : Int} {o : List Int} (O : Ord many (k - 1).toNat o) (h1 : 1 ≤ k) (h2 : k ≤ many) (_h3 : 0 ≤ a) (_h4 : a < k) : Ord many (k + 1 - 1).toNat ((([] : List Int) ++ o.take a.toNat ++ [k]) ++ o.drop a.toNat) := by
 constructor
 ·have := O.1
  simp; omega
 ·intro x hx
  simp only [List.nil_append, List.mem_append, List.mem_singleton] at hx
  rcases hx with (hx | rfl) | hx
  ·exact O.2 x (List.mem_of_mem_take hx)
  ·exact ⟨h1, h2⟩
  ·exact O.2 x (List.mem_of_mem_drop hx)
theorem spec_l20Order_l0 {b : List Int} (B : Bts b) {many keep : Int} (hm : many ≤ 100) : ∀ i : Int, i ≤ many + 1 → 1 ≤ i → ∀ (o : List Int) (p : Int), Ord many (i - 1).toNat o → 0 ≤ p → p + 2 * (many + 1 - i) ≤ 900000 →
  ∃ (o' : List Int) (q : Int), Ev (fun k => spec_l20Order.l0 k many o keep i b p) (o', q) ∧ Ord many many.toNat o' ∧ p ≤ q ∧ q ≤ p + 2 * (many + 1 - i) := by
 refine Hd.down ?_
 intro i hi ih h1 o p O h0 hp
 have ol := O.1
 by_cases hlt : i ≤ many
 ·have hlen : (o.length : Int) = i - 1 := by omega
  by_cases hk : keep = 0
  ·obtain ⟨a, e, a0, a1⟩ := spec_l20Rd_pick_ev B h0 (by omega) i
   have a1 := a1 h1
   obtain ⟨o', q, e2, O2, q0, q1⟩ := ih (by omega) (by omega) _ (p + 1) (ord_put O h1 hlt a0 a1) (by omega) (by omega)
   refine ⟨o', q, spec_l20Order.l0.ev (Ev.pos hlt (Ev.pos hk (Ev.bind e ?_))), O2, by omega, by omega⟩
   rw [wid (x := i + 1) (by omega) (by omega)]
   refine Ev.bindv rfl (Ev.pos a0 (Ev.pos (by omega) (Ev.bindv rfl (Ev.pos (by simp; omega) (Ev.bindv rfl (Ev.pos (by simp; omega) (Ev.bindv rfl (Ev.bindv rfl (Ev.pos (by simp; omega) ?_)))))))))
   exact e2
  ·obtain ⟨s, es, _, _⟩ := spec_l20Rd_pick_ev B h0 (by omega) 3
   by_cases hs : s = 0
   ·obtain ⟨a, e, a0, a1⟩ := spec_l20Rd_pick_ev B (p := p + 1) (by omega) (by omega) i
    have a1 := a1 h1
    obtain ⟨o', q, e2, O2, q0, q1⟩ := ih (by omega) (by omega) _ (p + 1 + 1) (ord_put O h1 hlt a0 a1) (by omega) (by omega)
    refine ⟨o', q, spec_l20Order.l0.ev (Ev.pos hlt (Ev.neg hk (Ev.bind es (Ev.pos hs (Ev.bind e ?_))))), O2, by omega, by omega⟩
    rw [wid (x := i + 1) (by omega) (by omega)]
    refine Ev.bindv rfl (Ev.pos a0 (Ev.pos (by omega) (Ev.bindv rfl (Ev.pos (by simp; omega) (Ev.bindv rfl (Ev.pos (by simp; omega) (Ev.bindv rfl (Ev.bindv rfl (Ev.pos (by simp; omega) ?_)))))))))
    exact e2
   ·obtain ⟨o', q, e2, O2, q0, q1⟩ := ih (by omega) (by omega) _ (p + 1) (ord_put O h1 hlt (a := (o.length : Int)) (by omega) (by omega)) (by omega) (by omega)
    refine ⟨o', q, spec_l20Order.l0.ev (Ev.pos hlt (Ev.neg hk (Ev.bind es (Ev.neg hs ?_)))), O2, by omega, by omega⟩
    rw [wid (x := i + 1) (by omega) (by omega)]
    refine Ev.bindv rfl (Ev.pos (by omega) (Ev.pos (by omega) (Ev.bindv rfl (Ev.pos (by simp; omega) (Ev.bindv rfl (Ev.pos (by simp; omega) (Ev.bindv rfl (Ev.bindv rfl (Ev.pos (by simp; omega) ?_)))))))))
    exact e2
 ·refine ⟨o, p, spec_l20Order.l0.ev (Ev.neg hlt (Ev.now _)), ?_, by omega, by omega⟩
  rw [show many.toNat = (i - 1).toNat from by omega]; exact O
theorem spec_l20Order_ev {b : List Int} (B : Bts b) {p : Int} (h0 : 0 ≤ p) (h1 : p ≤ 800000) {many : Int} (hm0 : 0 ≤ many) (hm : many ≤ 100) :
  ∃ (o : List Int) (q : Int), Ev (fun k => spec_l20Order.f k b p many) (o, q) ∧ Ord many many.toNat o ∧ p ≤ q ∧ q ≤ p + 300 := by
 obtain ⟨s, es, _, _⟩ := spec_l20Rd_pick_ev B h0 (by omega) 2
 obtain ⟨o, q, e, O, q0, q1⟩ := spec_l20Order_l0 B (keep := s) hm 1 (by omega) (by omega) [] (p + 1) ⟨rfl, fun x hx => by cases hx⟩ (by omega) (by omega)
 refine ⟨o, q, ?_, O, by omega, by omega⟩
 unfold spec_l20Order.f
 exact Ev.bind es e

/-! spec_DrawOrderOk -/

theorem spec_DrawOrderOk_ev {l : List Int} (h : ∀ x ∈ l, (Lit.int .u8 x).wf = true) : ∃ (o : List Int) (m : Int), Ev (fun k => spec_DrawOrderOk.f k l) (o, m) ∧ o.length ≤ 8 ∧ m ≤ 9 := by
 obtain ⟨b, eb, B⟩ := spec_l20Open_eq h
 obtain ⟨r, e, r0, r1⟩ := spec_l20Rd_pick_ev B (p := 0) (by omega) (by omega) 8
 have r1 := r1 (by omega)
 have w := wid (x := 1 + r) (by omega) (by omega)
 obtain ⟨o, q, eo, O, q0, q1⟩ := spec_l20Order_ev B (p := 0 + 1) (by omega) (by omega) (many := 1 + r) (by omega) (by omega)
 have ol := O.1
 obtain ⟨c, ec, _, _⟩ := spec_l20Rd_pick_ev B (p := q) (by omega) (by omega) 3
 obtain ⟨i, ei, i0, i1⟩ := spec_l20Rd_pick_ev B (p := q + 1) (by omega) (by omega) (1 + r)
 have i1 := i1 (by omega)
 obtain ⟨v, ev, _, _⟩ := spec_l20Rd_pick_ev B (p := q + 1 + 1) (by omega) (by omega) 9
 obtain ⟨z, ez, z0, z1⟩ := spec_l20Rd_pick_ev B (p := q + 1 + 1 + 1) (by omega) (by omega) 9
 obtain ⟨z', ez', z0', z1'⟩ := spec_l20Rd_pick_ev B (p := q + 1) (by omega) (by omega) 9
 have z1 := z1 (by omega)
 have z1' := z1' (by omega)
 have hz := Int.tdiv_eq_ediv_of_nonneg z0 (b := 8)
 have hz' := Int.tdiv_eq_ediv_of_nonneg z0' (b := 8)
 unfold spec_DrawOrderOk.f
 by_cases hc : c = 0
 ·refine ⟨o.set i.toNat v, 1 + r + Int.tdiv z 8, Ev.bindv eb (Ev.bind e (Ev.bind (by rw [w]; exact eo) (Ev.bind ec (Ev.pos hc (Ev.bind (by rw [w]; exact ei) (Ev.bind ev (Ev.pos i0 (Ev.pos (by simp only; omega) (Ev.bind ez (Ev.ret ?_)))))))))), by rw [List.length_set]; omega, by omega⟩
  rw [w, wid (x := Int.tdiv z 8) (by omega) (by omega), wid (by omega) (by omega)]
 ·refine ⟨o, 1 + r + Int.tdiv z' 8, Ev.bindv eb (Ev.bind e (Ev.bind (by rw [w]; exact eo) (Ev.bind ec (Ev.neg hc (Ev.bind ez' (Ev.ret ?_)))))), by omega, by omega⟩
  rw [w, wid (x := Int.tdiv z' 8) (by omega) (by omega), wid (by omega) (by omega)]

/-! spec_l1In -/

theorem spec_l1In_eq (a b c : Int) : spec_l1In.f a b c = some (decide (b ≤ a ∧ a ≤ c)) := by
 unfold spec_l1In.f
 by_cases h : a ≥ b
 ·rw [if_pos h]; simp [h]
 ·rw [if_neg h]; simp; intro; omega

/-! impl_OrderOk -/

theorem impl_OrderOk_eq (o : List Int) (m : Int) : impl_OrderOk.f o m = some (Hd.ordB o m) := by
 unfold impl_OrderOk.f Ord.ordO
 congr 1
 by_cases c : 1 ≤ m ∧ m ≤ 8 ∧ (o.length : Int) = m
 ·rw [if_pos c]
  refine Bool.eq_iff_iff.2 ?_
  rw [Hd.ordB_true, Hd.ord_sorted (List.mergeSort_perm o _) (Hd.sorted_le o)]
  unfold Ord.upOK
  rw [List.all_eq_true]
  constructor
  ·intro h
   refine ⟨by omega, by omega, fun k hk => ?_⟩
   have := h k (List.mem_range.2 (by omega))
   rw [List.getD_eq_getElem?_getD]; simpa using this
  ·rintro ⟨_, _, h⟩ k hk
   have := h k (by have := List.mem_range.1 hk; omega)
   rw [List.getD_eq_getElem?_getD] at this
   simpa using this
 ·rw [if_neg c]
  cases hc : Hd.ordB o m with
  | false => rfl
  | true =>
   have h := Hd.ordB_true.1 hc
   have := h.2.len
   exact absurd ⟨h.1.1, h.1.2, by omega⟩ c

/-! spec_OrderOk -/
theorem spec_OrderOk.l0.ev {x0 : List Int} {x1 : Int} {x5 : Int} {r : Bool} (h : Ev (fun k => if x5 < (x0.length : Int) then (if 0 ≤ x5 then ((spec_l1In.f (rd x0 x5) 1 x1).bind fun t203 => (if t203 = true then (spec_OrderOk.l1 k x0 x1 x5 0) else (some false))) else (none)) else ((spec_l1In.f x1 1 8).bind fun t201 => (if t201 = true then (some ((x0.length : Int) == x1)) else (some false)))) r) : Ev (fun k => spec_OrderOk.l0 k x0 x1 x5) r := Ev.step (fun _ => rfl) h
theorem spec_OrderOk.l1.ev {x0 : List Int} {x1 : Int} {x5 : Int} {x6 : Int} {r : Bool} (h : Ev (fun k => if x6 < x5 then (if 0 ≤ x6 then (if x6 < (x0.length : Int) then (if 0 ≤ x5 then (if x5 < (x0.length : Int) then (if (rd x0 x6) = (rd x0 x5) then (some false) else (spec_OrderOk.l1 k x0 x1 x5 (wrap64 (x6 + 1)))) else (none)) else (none)) else (none)) else (none)) else (spec_OrderOk.l0 k x0 x1 (wrap64 (x5 + 1)))) r) : Ev (fun k => spec_OrderOk.l1 k x0 x1 x5 x6) r := Ev.step (fun _ => rfl) h
theorem ordB_no {o : List Int} {m : Int} (h : ¬ ((1 ≤ m ∧ m ≤ 8) ∧ Hd.Perm m.toNat o)) : false = Hd.ordB o m := by
 cases hc : Hd.ordB o m with
 | false => rfl
 | true => exact absurd (Hd.ordB_true.1 hc) h
theorem spec_OrderOk_l1 {o : List Int} (hl : o.length ≤ 1048600) {m i : Int} (h0 : 0 ≤ i) (h1 : i < o.length)
  (next : (∀ a : Int, 1 ≤ a → a ≤ i → Hd.hd o a ≠ Hd.hd o (i + 1)) → Ev (fun k => spec_OrderOk.l0 k o m (i + 1)) (Hd.ordB o m)) : ∀ j : Int, j ≤ i → 0 ≤ j → (∀ a : Int, 1 ≤ a → a ≤ j → Hd.hd o a ≠ Hd.hd o (i + 1)) → Ev (fun k => spec_OrderOk.l1 k o m i j) (Hd.ordB o m) := by
 refine Hd.down ?_
 intro j hj ih j0 hno
 refine spec_OrderOk.l1.ev ?_
 rw [wid (x := i + 1) (by omega) (by omega), wid (x := j + 1) (by omega) (by omega), rd_hd1 j0, rd_hd1 h0]
 by_cases hlt : j < i
 ·refine Ev.pos hlt (Ev.pos j0 (Ev.pos (by omega) (Ev.pos h0 (Ev.pos h1 ?_))))
  by_cases e : Hd.hd o (j + 1) = Hd.hd o (i + 1)
  ·refine Ev.pos e (Ev.ret (ordB_no fun h => ?_))
   have l := h.2.len
   have := h.2.inj (j + 1) (i + 1) (by omega) (by omega) (by omega) (by omega) e
   omega
  ·refine Ev.neg e (ih hlt (by omega) fun a k1 k2 => ?_)
   by_cases e2 : a = j + 1
   ·rw [e2]; exact e
   ·exact hno a k1 (by omega)
 ·exact Ev.neg hlt (next fun a k1 k2 => hno a k1 (by omega))
theorem spec_OrderOk_l0 {o : List Int} (hl : o.length ≤ 1048600) {m : Int} : ∀ i : Int, i ≤ o.length → 0 ≤ i → (∀ a : Int, 1 ≤ a → a ≤ i → 1 ≤ Hd.hd o a ∧ Hd.hd o a ≤ m) → (∀ a b : Int, 1 ≤ a → a < b → b ≤ i → Hd.hd o a ≠ Hd.hd o b) → Ev (fun k => spec_OrderOk.l0 k o m i) (Hd.ordB o m) := by
 refine Hd.down ?_
 intro i hi ih h0 hr hd
 refine spec_OrderOk.l0.ev ?_
 by_cases hlt : i < o.length
 ·rw [rd_hd1 h0]
  refine Ev.pos hlt (Ev.pos h0 (Ev.bindv (spec_l1In_eq _ _ _) ?_))
  by_cases hin : 1 ≤ Hd.hd o (i + 1) ∧ Hd.hd o (i + 1) ≤ m
  ·refine Ev.pos (by simpa using hin) (spec_OrderOk_l1 hl h0 hlt (fun hno => ih hlt (by omega) (fun a k1 k2 => ?_) (fun a b k1 k2 k3 => ?_)) 0 h0 (by omega) (fun a k1 k2 => by omega))
   ·by_cases e : a = i + 1
    ·rw [e]; exact hin
    ·exact hr a k1 (by omega)
   ·by_cases e : b = i + 1
    ·rw [e]; exact hno a k1 (by omega)
    ·exact hd a b k1 k2 (by omega)
  ·refine Ev.neg (by simpa using hin) (Ev.ret (ordB_no fun h => hin ?_))
   have l := h.2.len
   have := h.2.rng (i + 1) (by omega) (by omega)
   omega
 ·refine Ev.neg hlt (Ev.bindv (spec_l1In_eq _ _ _) ?_)
  by_cases hm : 1 ≤ m ∧ m ≤ 8
  ·refine Ev.pos (by simpa using hm) (Ev.ret (bool_eq ?_))
   rw [beq_iff_eq, Hd.ordB_true]
   constructor
   ·intro e
    refine ⟨hm, by omega, fun a k1 k2 => ?_, fun a b k1 k2 k3 k4 e2 => ?_⟩
    ·have := hr a k1 (by omega)
     omega
    ·apply Classical.byContradiction
     intro hne
     by_cases hab : a < b
     ·exact hd a b k1 hab (by omega) e2
     ·exact hd b a k3 (by omega) (by omega) e2.symm
   ·rintro ⟨_, h⟩
    have := h.len
    omega
  ·exact Ev.neg (by simpa using hm) (Ev.ret (ordB_no fun h => hm h.1))
theorem spec_OrderOk_ev {o : List Int} (hl : o.length ≤ 1048600) (m : Int) : Ev (fun k => spec_OrderOk.f k o m) (Hd.ordB o m) := spec_OrderOk_l0 hl 0 (by omega) (by omega) (fun a k1 k2 => by omega) (fun a b k1 k2 k3 => by omega)

/-! laws_hasInt -/
theorem laws_hasInt.l0.ev {x0 : List Int} {x1 : Int} {x5 : Int} {r : Bool} (h : Ev (fun k => if x5 < (x0.length : Int) then (if 0 ≤ x5 then (if (rd x0 x5) = x1 then (some true) else (laws_hasInt.l0 k x0 x1 (wrap64 (x5 + 1)))) else (none)) else (some false)) r) : Ev (fun k => laws_hasInt.l0 k x0 x1 x5) r := Ev.step (fun _ => rfl) h
theorem laws_hasInt_l0 {l : List Int} (hl : l.length ≤ 1048600) (x : Int) : ∀ i : Int, i ≤ l.length → 0 ≤ i → x ∉ l.take i.toNat → Ev (fun k => laws_hasInt.l0 k l x i) (decide (x ∈ l)) := by
 refine Hd.down ?_
 intro i hi ih h0 hn
 refine laws_hasInt.l0.ev ?_
 by_cases hlt : i < l.length
 ·rw [wid (x := i + 1) (by omega) (by omega)]
  obtain ⟨j, rfl⟩ := Int.eq_ofNat_of_zero_le h0
  have hj : j < l.length := by omega
  have g : rd l j = l[j] := by simp [rd, List.getD_eq_getElem?_getD, List.getElem?_eq_getElem hj]
  refine Ev.pos hlt (Ev.pos h0 ?_)
  by_cases e : rd l j = x
  ·refine Ev.pos e (Ev.ret ?_)
   have : x ∈ l := by rw [← e, g]; exact List.getElem_mem hj
   simp [this]
  ·refine Ev.neg e (ih hlt (by omega) ?_)
   rw [show ((j : Int) + 1).toNat = j + 1 from by omega, List.take_succ_eq_append_getElem hj, List.mem_append]
   rw [Int.toNat_natCast] at hn
   rintro (h | h)
   ·exact hn h
   ·rw [List.mem_singleton] at h
    exact e (by rw [g, h])
 ·refine Ev.neg hlt (Ev.ret ?_)
  rw [show i.toNat = l.length from by omega, List.take_length] at hn
  simp [hn]
theorem laws_hasInt_ev {l : List Int} (hl : l.length ≤ 1048600) (x : Int) : Ev (fun k => laws_hasInt.f k l x) (decide (x ∈ l)) := laws_hasInt_l0 hl x 0 (by omega) (by omega) (by simp)

/-! impl_steps -/
theorem impl_steps.l0.ev {x0 : List Int} {x1 : Int} {x7 : Int} {x8 : Int} {r : Int} (h : Ev (fun k => if x8 < x7 then (if 0 ≤ (wrap64 (x1 - 1)) then (if (wrap64 (x1 - 1)) < (x0.length : Int) then (if (rd x0 (wrap64 (x1 - 1))) = 0 then (some x8) else (impl_steps.l0 k x0 (rd x0 (wrap64 (x1 - 1))) x7 (wrap64 (x8 + 1)))) else (none)) else (none)) else (some (-1))) r) : Ev (fun k => impl_steps.l0 k x0 x1 x7 x8) r := Ev.step (fun _ => rfl) h
theorem impl_steps_l0 {l : List Int} (v : Hd.Vals l) (h8 : l.length ≤ 8) : ∀ (d : Nat) (m w : Int), 0 ≤ m → m + d = l.length → 1 ≤ w → w ≤ l.length →
  Ev (fun k => impl_steps.l0 k l w l.length m) (if Hd.it (Hd.hd l) d w = 0 then m + Hd.depF (Hd.hd l) d w else -1)
 | 0, m, w, h0, hd, h1, h2 => by
  refine impl_steps.l0.ev ?_
  rw [if_neg (show ¬ Hd.it (Hd.hd l) 0 w = 0 from fun e => by have : w = 0 := e; omega)]
  exact Ev.neg (by omega) (Ev.now _)
 | d + 1, m, w, h0, hd, h1, h2 => by
  refine impl_steps.l0.ev ?_
  rw [wid (x := w - 1) (by omega) (by omega), wid (x := m + 1) (by omega) (by omega), rd_hd h1]
  refine Ev.pos (by omega) (Ev.pos (by omega) (Ev.pos (by omega) ?_))
  by_cases hz : Hd.hd l w = 0
  ·refine Ev.pos hz (Ev.ret ?_)
   have : Hd.it (Hd.hd l) (d + 1) w = 0 := by show Hd.it (Hd.hd l) d (Hd.hd l w) = 0; rw [hz]; exact Hd.it_zero (Hd.hd_zero l) d
   rw [if_pos this, Hd.depF, if_pos hz]; simp
  ·refine Ev.neg hz ?_
   have := v w h1 h2
   have ih := impl_steps_l0 v h8 d (m + 1) (Hd.hd l w) (by omega) (by omega) (by omega) (by omega)
   have e : Hd.it (Hd.hd l) (d + 1) w = Hd.it (Hd.hd l) d (Hd.hd l w) := rfl
   rw [e, Hd.depF, if_neg hz]
   have e2 : m + ((Hd.depF (Hd.hd l) d (Hd.hd l w) + 1 : Nat) : Int) = m + 1 + (Hd.depF (Hd.hd l) d (Hd.hd l w) : Nat) := by omega
   rw [e2]; exact ih
theorem impl_steps_ev {l : List Int} (v : Hd.Vals l) (h8 : l.length ≤ 8) {w : Int} (h1 : 1 ≤ w) (h2 : w ≤ l.length) :
  Ev (fun k => impl_steps.f k l w) (if Hd.it (Hd.hd l) l.length w = 0 then (Hd.depF (Hd.hd l) l.length w : Int) else -1) := by
 have := impl_steps_l0 v h8 l.length 0 w (by omega) (by omega) h1 h2
 simp only [Int.zero_add] at this
 exact this

/-! impl_TreeOk -/
theorem impl_TreeOk.j0.ev {x0 : List Int} {x14 : Bool} {r : Bool} (h : Ev (fun k => if x14 = true then (some false) else (impl_TreeOk.l0 k x0 0 x0 (x0.length : Int) 0)) r) : Ev (fun k => impl_TreeOk.j0 k x0 x14) r := Ev.step (fun _ => rfl) h
theorem impl_TreeOk.l0.ev {x0 : List Int} {x3 : Int} {x15 : List Int} {x16 : Int} {x17 : Int} {r : Bool} (h : Ev (fun k => if x17 < x16 then (if 0 ≤ x17 then (if x17 < (x15.length : Int) then (if (rd x15 x17) < 0 then (impl_TreeOk.j2 k x0 x3 (rd x15 x17) x15 x16 x17 true) else (impl_TreeOk.j2 k x0 x3 (rd x15 x17) x15 x16 x17 (decide ((rd x15 x17) > (x0.length : Int))))) else (none)) else (none)) else (impl_TreeOk.l1 k x0 x3 (x0.length : Int) 0)) r) : Ev (fun k => impl_TreeOk.l0 k x0 x3 x15 x16 x17) r := Ev.step (fun _ => rfl) h
theorem impl_TreeOk.j2.ev {x0 : List Int} {x3 : Int} {x5 : Int} {x15 : List Int} {x16 : Int} {x17 : Int} {x28 : Bool} {r : Bool} (h : Ev (fun k => if x28 = true then (some false) else (if x5 = 0 then (impl_TreeOk.l0 k x0 (wrap64 (x3 + 1)) x15 x16 (wrap64 (x17 + 1))) else (impl_TreeOk.l0 k x0 x3 x15 x16 (wrap64 (x17 + 1))))) r) : Ev (fun k => impl_TreeOk.j2 k x0 x3 x5 x15 x16 x17 x28) r := Ev.step (fun _ => rfl) h
theorem impl_TreeOk.l1.ev {x0 : List Int} {x3 : Int} {x35 : Int} {x36 : Int} {r : Bool} (h : Ev (fun k => if x36 < x35 then ((impl_steps.f k x0 (wrap64 (x36 + 1))).bind fun t209 => (if t209 < 0 then (some false) else (impl_TreeOk.l1 k x0 x3 x35 (wrap64 (x36 + 1))))) else (some (x3 == 1))) r) : Ev (fun k => impl_TreeOk.l1 k x0 x3 x35 x36) r := Ev.step (fun _ => rfl) h
theorem impl_TreeOk_l1 {l : List Int} (v : Hd.Vals l) (h8 : l.length ≤ 8) {c : Int} (hc : c = Hd.zeros l l.length) : ∀ i : Int, i ≤ l.length → 0 ≤ i → (∀ a : Int, 1 ≤ a → a ≤ i → Hd.it (Hd.hd l) l.length a = 0) →
  Ev (fun k => impl_TreeOk.l1 k l c l.length i) (Hd.treeB l) := by
 refine Hd.down ?_
 intro i hi ih h0 hb
 refine impl_TreeOk.l1.ev ?_
 by_cases hlt : i < l.length
 ·rw [wid (x := i + 1) (by omega) (by omega)]
  refine Ev.pos hlt (Ev.bind (impl_steps_ev v h8 (by omega) (by omega)) ?_)
  by_cases hz : Hd.it (Hd.hd l) l.length (i + 1) = 0
  ·rw [if_pos hz]
   refine Ev.neg (by omega) (ih hlt (by omega) fun a h1 h2 => ?_)
   by_cases e : a = i + 1
   ·rw [e]; exact hz
   ·exact hb a h1 (by omega)
  ·rw [if_neg hz, Hd.treeB_no (fun t => hz (t.2.back _ (by omega) (by omega)))]
   exact Ev.pos (by omega) (Ev.now _)
 ·refine Ev.neg hlt (Ev.ret ?_)
  have t := Hd.T_iff h8 v (fun a h1 h2 => hb a h1 (by omega))
  by_cases e : Hd.zeros l l.length = 1
  ·rw [Hd.treeB_yes (t.2 e), hc, e]; rfl
  ·rw [Hd.treeB_no (fun x => e (t.1 x)), hc]; simp; omega
theorem impl_TreeOk_l0 {l : List Int} (h8 : l.length ≤ 8) : ∀ i : Int, i ≤ l.length → 0 ≤ i → (∀ a : Int, 1 ≤ a → a ≤ i → 0 ≤ Hd.hd l a ∧ Hd.hd l a ≤ l.length) →
  Ev (fun k => impl_TreeOk.l0 k l (Hd.zeros l i.toNat) l l.length i) (Hd.treeB l) := by
 refine Hd.down ?_
 intro i hi ih h0 hb
 refine impl_TreeOk.l0.ev ?_
 by_cases hlt : i < l.length
 ·have hz := Hd.cnt_le (fun a => decide (Hd.hd l a = 0)) i.toNat
  have hzz : Hd.zeros l (i + 1).toNat = Hd.zeros l i.toNat + if Hd.hd l (i + 1) = 0 then 1 else 0 := by
   rw [show (i + 1).toNat = i.toNat + 1 from by omega]
   show Hd.cnt _ (i.toNat + 1) = _
   rw [Hd.cnt, show ((i.toNat : Int) + 1) = i + 1 from by omega]
   simp [Hd.zeros]
  have hz' : Hd.zeros l i.toNat ≤ i.toNat := hz
  rw [rd_hd1 h0]
  refine Ev.pos hlt (Ev.pos h0 (Ev.pos hlt ?_))
  have no : ¬ (0 ≤ Hd.hd l (i + 1) ∧ Hd.hd l (i + 1) ≤ l.length) → Hd.treeB l = false := fun hn => Hd.treeB_no fun t => hn (t.vals _ (by omega) (by omega))
  by_cases hneg : Hd.hd l (i + 1) < 0
  ·refine Ev.pos hneg (impl_TreeOk.j2.ev (Ev.pos rfl (Ev.ret ?_)))
   rw [no (by omega)]
  ·refine Ev.neg hneg (impl_TreeOk.j2.ev ?_)
   by_cases hbig : Hd.hd l (i + 1) > l.length
   ·refine Ev.pos (by simpa using hbig) (Ev.ret ?_)
    rw [no (by omega)]
   ·refine Ev.neg (by simpa using hbig) ?_
    rw [wid (x := (Hd.zeros l i.toNat : Int) + 1) (by omega) (by omega), wid (x := i + 1) (by omega) (by omega)]
    have next := ih hlt (by omega) (fun a h1 h2 => by
     by_cases e : a = i + 1
     ·rw [e]; omega
     ·exact hb a h1 (by omega))
    rw [hzz] at next
    by_cases h00 : Hd.hd l (i + 1) = 0
    ·rw [if_pos h00] at next
     exact Ev.pos h00 next
    ·rw [if_neg h00] at next
     exact Ev.neg h00 next
 ·refine Ev.neg hlt ?_
  have e : i.toNat = l.length := by omega
  rw [e]
  exact impl_TreeOk_l1 (fun a h1 h2 => hb a h1 (by omega)) h8 rfl 0 (by omega) (by omega) (fun a h1 h2 => by omega)
theorem impl_TreeOk_ev (l : List Int) : Ev (fun k => impl_TreeOk.f k l) (Hd.treeB l) := by
 unfold impl_TreeOk.f
 by_cases h1 : (l.length : Int) < 1
 ·refine Ev.pos h1 (impl_TreeOk.j0.ev (Ev.pos rfl (Ev.ret ?_)))
  exact (Hd.treeB_no fun t => by have := t.2.pos; omega).symm
 ·refine Ev.neg h1 (impl_TreeOk.j0.ev ?_)
  by_cases h8 : (l.length : Int) > 8
  ·refine Ev.pos (by simpa using h8) (Ev.ret ?_)
   exact (Hd.treeB_no fun t => by have := t.1; omega).symm
  ·refine Ev.neg (by simpa using h8) ?_
   exact impl_TreeOk_l0 (by omega) 0 (by omega) (by omega) (fun a h1 h2 => by omega)

/-! laws_alive -/

theorem alive_one : Hd.treeB [0] = true := by
 have one : ∀ a : Int, 1 ≤ a → a ≤ ([0] : List Int).length → a = 1 := fun a h1 h2 => by simp at h2; omega
 exact Hd.treeB_yes ((Hd.T_iff (l := [0]) (by decide) (fun a h1 h2 => by rw [one a h1 h2]; decide) (fun a h1 h2 => by rw [one a h1 h2]; decide)).2 (by decide))
theorem alive_two : Hd.treeB [1] = false := Hd.treeB_no fun t => by
 have := t.2.not_own (a := 1) (by simp)
 exact this (by decide)
theorem laws_alive_ev : Ev (fun k => laws_alive.f k) true := by
 unfold laws_alive.f
 refine Ev.bind (impl_TreeOk_ev [0]) (Ev.pos alive_one (Ev.bind (impl_TreeOk_ev [1]) (Ev.ret ?_)))
 rw [alive_two]; rfl

theorem laws_FnOrderOk.l0.ev {x3 : List Int} {x4 : Int} {x5 : Bool} {x6 : List Int} {x7 : Int} {r : Bool} (h : Ev (fun k => if x7 ≥ 0 then (if 0 ≤ x7 then (if x7 < (x3.length : Int) then (if x6.length < 17592186044416 then (laws_FnOrderOk.l0 k x3 x4 x5 (x6 ++ [rd x3 x7]) (wrap64 (x7 - 1))) else (none)) else (none)) else (none)) else (laws_FnOrderOk.l1 k x3 x4 x5 x6 1)) r) : Ev (fun k => laws_FnOrderOk.l0 k x3 x4 x5 x6 x7) r := Ev.step (fun _ => rfl) h
theorem laws_FnOrderOk.l1.ev {x3 : List Int} {x4 : Int} {x5 : Bool} {x6 : List Int} {x8 : Int} {r : Bool} (h : Ev (fun k => if x8 ≤ x4 then (laws_FnOrderOk.j2 k x3 x4 x5 x6 x8 x5) else (laws_FnOrderOk.j2 k x3 x4 x5 x6 x8 false)) r) : Ev (fun k => laws_FnOrderOk.l1 k x3 x4 x5 x6 x8) r := Ev.step (fun _ => rfl) h
theorem laws_FnOrderOk.j2.ev {x3 : List Int} {x4 : Int} {x5 : Bool} {x6 : List Int} {x8 : Int} {x45 : Bool} {r : Bool} (h : Ev (fun k => if x45 = true then ((laws_hasInt.f k x3 x8).bind fun t231 => (if t231 = true then (laws_FnOrderOk.l1 k x3 x4 x5 x6 (wrap64 (x8 + 1))) else (some false))) else ((impl_OrderOk.f x6 x4).bind fun t232 => (if (t232 == x5) = true then ((impl_OrderOk.f (([1] : List Int)) 1).bind fun t236 => (if t236 = true then ((impl_OrderOk.f (([] : List Int)) 0).bind fun t240 => (if t240 = true then (some false) else ((laws_alive.f k).bind fun t241 => (some t241)))) else (some false))) else (some false)))) r) : Ev (fun k => laws_FnOrderOk.j2 k x3 x4 x5 x6 x8 x45) r := Ev.step (fun _ => rfl) h
end Go.Proofs.Ytfccopfhniobjaa.QFnOrderOk
