/- Contracts of the functions that the statement FnTurnsOk reaches: what each printed function comes to. -/
import Derived.Test.YtafkabhnldahdaaQFnTurnsOkx10
import Derived.Test.YtafkabhnldahdaaWSized
import Derived.Test.YtafkabhnldahdaaHdA
import Derived.Test.YtafkabhnldahdaaHdB
namespace Go.Proofs.Ytafkabhnldahdaa.PrintWords
/-- The name by which the printed row calls the word. -/
abbrev sized_ints := @Go.Proofs.YtafkabhnldahdaaW.PrintWords.sized_ints
end Go.Proofs.Ytafkabhnldahdaa.PrintWords
namespace Go.Proofs.Ytafkabhnldahdaa.QFnTurnsOk
open Go.RowKit Go.Proofs.YtafkabhnldahdaaW.PrintWords Go.Proofs.YtafkabhnldahdaaW.PrintLast Go.Proofs.YtafkabhnldahdaaW.PrintMore
set_option linter.unusedVariables false
set_option linter.unusedSimpArgs false
theorem wid {x : Int} (h : -9223372036854775808 ≤ x) (h' : x ≤ 9223372036854775807) : wrap64 x = x := by unfold wrap64; omega
theorem Ev.pos {α : Type} {c : Prop} [Decidable c] {A B : Nat → Option α} {r : α} (h : c) (e : Ev A r) : Ev (fun k => if c then A k else B k) r := by simpa only [if_pos h] using e
theorem Ev.neg {α : Type} {c : Prop} [Decidable c] {A B : Nat → Option α} {r : α} (h : ¬ c) (e : Ev B r) : Ev (fun k => if c then A k else B k) r := by simpa only [if_neg h] using e
theorem Ev.bindv {α β : Type} {o : Option α} {f : Nat → α → Option β} {a : α} {r : β} (h : o = some a) (k : Ev (fun n => f n a) r) : Ev (fun n => o.bind (f n)) r := by subst h; exact k
theorem Ev.ret {α : Type} {a r : α} (h : a = r) : Ev (fun _ => some a) r := h ▸ Ev.now a
theorem rd_hd {l : List Int} {a : Int} (h : 1 ≤ a) : rd l (a - 1) = Hd.hd l a := Hd.hd_get h
theorem rd_hd1 {l : List Int} {a : Int} (h : 0 ≤ a) : rd l a = Hd.hd l (a + 1) := by rw [← rd_hd (by omega)]; congr 1; omega
theorem mn_mx (a b : Int) : (mn a b = a ∧ mx a b = b ∧ a ≤ b) ∨ (mn a b = b ∧ mx a b = a ∧ b ≤ a) := by
 unfold mn mx
 split <;> split <;> omega
theorem h_or_i64 {a b : Nat} (ha : a < 256) (hb : b < 256) : Go.bits .or .i64 (a : Int) (b : Int) = ((a ||| b : Nat) : Int) :=
 (Go.bits_nat .i64 8 (by decide) (fun n h0 h1 => by rw [Go.IntKind.wrap_i64]; omega) a b (by omega) (by omega)).2
theorem h_shl_one {x : Nat} (h : x ≤ 7) : shl .i64 1 (x : Int) = ((2 ^ x : Nat) : Int) := by
 have : ∀ x : Nat, x < 8 → shl .i64 1 (x : Int) = ((2 ^ x : Nat) : Int) := by decide
 exact this x (by omega)
theorem h_shr_bit {v x : Nat} (h : x ≤ 64) : (Int.tmod (shr .i64 (v : Int) (x : Int)) 2 = 1) ↔ v.testBit x = true := by
 unfold shr
 rw [Int.toNat_natCast, Nat.min_eq_left (by simpa [Go.IntKind.bits] using h), Nat.testBit_eq_decide_div_mod_eq]
 have : ((v : Int) / 2 ^ x) = ((v / 2 ^ x : Nat) : Int) := by simp
 rw [this, Int.tmod_eq_emod_of_nonneg (Int.natCast_nonneg _), decide_eq_true_eq]
 omega
theorem h_shr_nat {v x : Nat} (h : x ≤ 64) : shr .i64 (v : Int) (x : Int) = ((v / 2 ^ x : Nat) : Int) := by
 unfold shr
 rw [Int.toNat_natCast, Nat.min_eq_left (by simpa [Go.IntKind.bits] using h)]
 simp
theorem h_and_i64 {a b : Nat} (ha : a < 512) (hb : b < 512) : Go.bits .and .i64 (a : Int) (b : Int) = ((a &&& b : Nat) : Int) :=
 (Go.bits_nat .i64 9 (by decide) (fun n h0 h1 => by rw [Go.IntKind.wrap_i64]; omega) a b (by omega) (by omega)).1
theorem h_rd_set {P : List Int} {i j : Int} {v : Int} (h0 : 0 ≤ i) (h1 : i < P.length) (hj : 0 ≤ j) : rd (P.set i.toNat v) j = if j = i then v else rd P j := by
 unfold rd
 rw [List.getD_eq_getElem?_getD, List.getElem?_set]
 by_cases e : j = i
 ·subst e
  rw [if_pos rfl, if_pos (by omega), if_pos rfl]; rfl
 ·rw [if_neg (by omega), if_neg e, List.getD_eq_getElem?_getD]
/-- Bytes of a code, as far as they are read. -/
def Bts (b : List Int) : Prop := b.length ≤ 2000 ∧ ∀ i : Int, 0 ≤ rd b i ∧ rd b i ≤ 255
theorem bts_rd {l : List Int} (h : ∀ x, x ∈ l → 0 ≤ x ∧ x ≤ 255) (i : Int) : 0 ≤ rd l i ∧ rd l i ≤ 255 := by
 unfold rd
 rw [List.getD_eq_getElem?_getD]
 by_cases hi : i.toNat < l.length
 ·rw [List.getElem?_eq_getElem hi]; exact h _ (List.getElem_mem hi)
 ·rw [List.getElem?_eq_none (by omega)]; simp
theorem Ev.lit {α : Type} {g : Nat → Option α} {r : α} (K : Nat) (h : ∀ m, g (m + K) = some r) : Ev g r := ⟨K, fun k hk => by obtain ⟨m, rfl⟩ := Nat.exists_eq_add_of_le' hk; exact h m⟩

/-! spec_l20Open -/

theorem spec_l20Open_eq {l : List Int} (h : ∀ x ∈ l, (Lit.int .u8 x).wf = true) : ∃ b, spec_l20Open.f l = some (b, 0) ∧ Bts b := by
 have hb : ∀ x, x ∈ l → 0 ≤ x ∧ x ≤ 255 := fun x hx => by
  have := h x hx
  simpa [Lit.wf, IntKind.min, IntKind.max, IntKind.signed, IntKind.bits] using this
 unfold spec_l20Open.f
 by_cases hl : (l.length : Int) > 2000
 ·rw [if_pos hl, if_pos (by omega)]
  exact ⟨_, rfl, by simp; omega, bts_rd fun x hx => hb x (List.mem_of_mem_take hx)⟩
 ·rw [if_neg hl]
  exact ⟨_, rfl, by omega, bts_rd hb⟩

/-! spec_l1In -/

theorem spec_l1In_eq (a b c : Int) : spec_l1In.f a b c = some (decide (b ≤ a ∧ a ≤ c)) := by
 unfold spec_l1In.f
 by_cases h : a ≥ b
 ·rw [if_pos h]; simp [h]
 ·rw [if_neg h]; simp; intro; omega

/-! spec_TreeOk -/
theorem spec_TreeOk.l0.ev {x0 : List Int} {x3 : Int} {x4 : Int} {x5 : Int} {r : Bool} (h : Ev (fun k => if x5 < x3 then (if 0 ≤ x5 then (if x5 < (x0.length : Int) then ((spec_l1In.f (rd x0 x5) 0 x3).bind fun t106 => (if t106 = true then (spec_TreeOk.j1 k x0 x3 x4 x5 ((rd x0 x5) == (wrap64 (x5 + 1)))) else (spec_TreeOk.j1 k x0 x3 x4 x5 true))) else (none)) else (none)) else (some (x4 == 1))) r) : Ev (fun k => spec_TreeOk.l0 k x0 x3 x4 x5) r := Ev.step (fun _ => rfl) h
theorem spec_TreeOk.j1.ev {x0 : List Int} {x3 : Int} {x4 : Int} {x5 : Int} {x33 : Bool} {r : Bool} (h : Ev (fun k => if x33 = true then (some false) else (if 0 ≤ x5 then (if x5 < (x0.length : Int) then (if (rd x0 x5) = 0 then (spec_TreeOk.j2 k x0 x3 (wrap64 (x4 + 1)) x5) else (spec_TreeOk.j2 k x0 x3 x4 x5)) else (none)) else (none))) r) : Ev (fun k => spec_TreeOk.j1 k x0 x3 x4 x5 x33) r := Ev.step (fun _ => rfl) h
theorem spec_TreeOk.j2.ev {x0 : List Int} {x3 : Int} {x4 : Int} {x5 : Int} {r : Bool} (h : Ev (fun k => spec_TreeOk.l1 k x0 x3 x4 x5 (wrap64 (x5 + 1)) 0) r) : Ev (fun k => spec_TreeOk.j2 k x0 x3 x4 x5) r := Ev.step (fun _ => rfl) h
theorem spec_TreeOk.l1.ev {x0 : List Int} {x3 : Int} {x4 : Int} {x5 : Int} {x6 : Int} {x7 : Int} {r : Bool} (h : Ev (fun k => if x6 > 0 then (spec_TreeOk.j4 k x0 x3 x4 x5 x6 x7 (decide (x7 < x3))) else (spec_TreeOk.j4 k x0 x3 x4 x5 x6 x7 false)) r) : Ev (fun k => spec_TreeOk.l1 k x0 x3 x4 x5 x6 x7) r := Ev.step (fun _ => rfl) h
theorem spec_TreeOk.j4.ev {x0 : List Int} {x3 : Int} {x4 : Int} {x5 : Int} {x6 : Int} {x7 : Int} {x49 : Bool} {r : Bool} (h : Ev (fun k => if x49 = true then (if 0 ≤ (wrap64 (x6 - 1)) then (if (wrap64 (x6 - 1)) < (x0.length : Int) then ((spec_l1In.f (rd x0 (wrap64 (x6 - 1))) 0 x3).bind fun t110 => (if t110 = true then (spec_TreeOk.l1 k x0 x3 x4 x5 (rd x0 (wrap64 (x6 - 1))) (wrap64 (x7 + 1))) else (some false))) else (none)) else (none)) else (if x6 > 0 then (some false) else (spec_TreeOk.l0 k x0 x3 x4 (wrap64 (x5 + 1))))) r) : Ev (fun k => spec_TreeOk.j4 k x0 x3 x4 x5 x6 x7 x49) r := Ev.step (fun _ => rfl) h
theorem spec_TreeOk_l1 {l : List Int} (h8 : l.length ≤ 8) {c i : Int} (h0 : 0 ≤ i) (hlt : i < l.length)
  (next : Hd.it (Hd.hd l) l.length (i + 1) = 0 → Ev (fun k => spec_TreeOk.l0 k l l.length c (i + 1)) (Hd.treeB l)) :
  ∀ s : Int, s ≤ l.length → 0 ≤ s → ∀ a : Int, 0 ≤ a → a ≤ l.length → a = Hd.it (Hd.hd l) s.toNat (i + 1) → Ev (fun k => spec_TreeOk.l1 k l l.length c i a s) (Hd.treeB l) := by
 refine Hd.down ?_
 intro s hs ih h1 a ha1 ha2 ea
 refine spec_TreeOk.l1.ev ?_
 by_cases hz : a > 0
 ·refine Ev.pos hz (spec_TreeOk.j4.ev ?_)
  by_cases hsn : s < l.length
  ·rw [wid (x := a - 1) (by omega) (by omega), rd_hd (by omega), wid (x := s + 1) (by omega) (by omega)]
   refine Ev.pos (by simpa using hsn) (Ev.pos (by omega) (Ev.pos (by omega) (Ev.bindv (spec_l1In_eq _ _ _) ?_)))
   by_cases hin : 0 ≤ Hd.hd l a ∧ Hd.hd l a ≤ l.length
   ·refine Ev.pos (by simpa using hin) (ih hsn (by omega) _ hin.1 hin.2 ?_)
    rw [show (s + 1).toNat = s.toNat + 1 from by omega, Hd.it_succ, ← ea]
   ·refine Ev.neg (by simpa using hin) (Ev.ret ?_)
    exact (Hd.treeB_no fun t => hin (t.vals _ (by omega) (by omega))).symm
  ·refine Ev.neg (by simpa using hsn) (Ev.pos hz (Ev.ret ?_))
   refine (Hd.treeB_no fun t => ?_).symm
   have := t.2.back (i + 1) (by omega) (by omega)
   rw [show s.toNat = l.length from by omega, this] at ea
   omega
 ·refine Ev.neg hz (spec_TreeOk.j4.ev (Ev.neg (by simp) (Ev.neg hz ?_)))
  rw [wid (x := i + 1) (by omega) (by omega)]
  exact next (Hd.it_more (Hd.hd_zero l) (j := s.toNat) (by omega) (by omega))
theorem spec_TreeOk_l0 {l : List Int} (h8 : l.length ≤ 8) : ∀ i : Int, i ≤ l.length → 0 ≤ i → (∀ a : Int, 1 ≤ a → a ≤ i → (0 ≤ Hd.hd l a ∧ Hd.hd l a ≤ l.length) ∧ Hd.it (Hd.hd l) l.length a = 0) →
  Ev (fun k => spec_TreeOk.l0 k l l.length (Hd.zeros l i.toNat) i) (Hd.treeB l) := by
 refine Hd.down ?_
 intro i hi ih h0 hb
 refine spec_TreeOk.l0.ev ?_
 by_cases hlt : i < l.length
 ·have hz := Hd.cnt_le (fun a => decide (Hd.hd l a = 0)) i.toNat
  have hzz : Hd.zeros l (i + 1).toNat = Hd.zeros l i.toNat + if Hd.hd l (i + 1) = 0 then 1 else 0 := by
   rw [show (i + 1).toNat = i.toNat + 1 from by omega]
   show Hd.cnt _ (i.toNat + 1) = _
   rw [Hd.cnt, show ((i.toNat : Int) + 1) = i + 1 from by omega]
   simp [Hd.zeros]
  have hz' : Hd.zeros l i.toNat ≤ i.toNat := hz
  rw [rd_hd1 h0, wid (x := i + 1) (by omega) (by omega)]
  refine Ev.pos hlt (Ev.pos h0 (Ev.pos hlt (Ev.bindv (spec_l1In_eq _ _ _) ?_)))
  by_cases hin : 0 ≤ Hd.hd l (i + 1) ∧ Hd.hd l (i + 1) ≤ l.length
  ·refine Ev.pos (by simpa using hin) (spec_TreeOk.j1.ev ?_)
   by_cases hown : Hd.hd l (i + 1) = i + 1
   ·refine Ev.pos (by simpa using hown) (Ev.ret ?_)
    exact (Hd.treeB_no fun t => t.2.not_own (a := i + 1) (by omega) hown).symm
   ·refine Ev.neg (by simpa using hown) (Ev.pos h0 (Ev.pos hlt ?_))
    rw [rd_hd1 h0, wid (x := (Hd.zeros l i.toNat : Int) + 1) (by omega) (by omega)]
    have next : Hd.it (Hd.hd l) l.length (i + 1) = 0 → Ev (fun k => spec_TreeOk.l0 k l l.length (Hd.zeros l (i + 1).toNat) (i + 1)) (Hd.treeB l) := fun hit =>
     ih hlt (by omega) (fun a h1 h2 => by
      by_cases e : a = i + 1
      ·rw [e]; exact ⟨hin, hit⟩
      ·exact hb a h1 (by omega))
    rw [hzz] at next
    by_cases h00 : Hd.hd l (i + 1) = 0
    ·rw [if_pos h00] at next
     refine Ev.pos h00 (spec_TreeOk.j2.ev ?_)
     rw [wid (x := i + 1) (by omega) (by omega)]
     exact spec_TreeOk_l1 h8 h0 hlt next 0 (by omega) (by omega) (i + 1) (by omega) (by omega) rfl
    ·rw [if_neg h00] at next
     refine Ev.neg h00 (spec_TreeOk.j2.ev ?_)
     rw [wid (x := i + 1) (by omega) (by omega)]
     exact spec_TreeOk_l1 h8 h0 hlt next 0 (by omega) (by omega) (i + 1) (by omega) (by omega) rfl
  ·refine Ev.neg (by simpa using hin) (spec_TreeOk.j1.ev (Ev.pos rfl (Ev.ret ?_)))
   exact (Hd.treeB_no fun t => hin (t.vals _ (by omega) (by omega))).symm
 ·refine Ev.neg hlt (Ev.ret ?_)
  have e : i.toNat = l.length := by omega
  rw [e]
  have t := Hd.T_iff h8 (fun a h1 h2 => (hb a h1 (by omega)).1) (fun a h1 h2 => (hb a h1 (by omega)).2)
  by_cases e : Hd.zeros l l.length = 1
  ·rw [Hd.treeB_yes (t.2 e), e]; rfl
  ·rw [Hd.treeB_no (fun x => e (t.1 x))]; simp; omega
theorem spec_TreeOk_ev (l : List Int) : Ev (fun k => spec_TreeOk.f k l) (Hd.treeB l) := by
 unfold spec_TreeOk.f
 refine Ev.bindv (spec_l1In_eq _ _ _) ?_
 by_cases h : 1 ≤ (l.length : Int) ∧ (l.length : Int) ≤ 8
 ·refine Ev.pos (by simpa using h) ?_
  exact spec_TreeOk_l0 (by omega) 0 (by omega) (by omega) (fun a h1 h2 => by omega)
 ·refine Ev.neg (by simpa using h) (Ev.ret ?_)
  exact (Hd.treeB_no fun t => by have := t.1; have := t.2.pos; omega).symm

/-! spec_l20Rd_pick -/
theorem spec_l20Rd_pick.j0.ev {x1 : Int} {x24 : Bool} {x1000 : List Int} {x1001 : Int} {r : Int × Int} (h : Ev (fun k => if x24 = true then (some (0, x1001)) else (if (wrap64 (x1001 - 1)) < (x1000.length : Int) then (if 0 ≤ (wrap64 (x1001 - 1)) then (if x1 = 0 then (none) else (some (Int.tmod (wrap64 (rd x1000 (wrap64 (x1001 - 1)))) x1, x1001))) else (none)) else (if (x1000.length : Int) = 0 then (none) else (if 0 ≤ (Int.tmod (wrap64 (x1001 - 1)) (x1000.length : Int)) then (if (Int.tmod (wrap64 (x1001 - 1)) (x1000.length : Int)) < (x1000.length : Int) then (if 0 ≤ (Int.tmod (wrap64 ((wrap64 ((wrap64 (x1001 - 1)) * 7)) + 3)) (x1000.length : Int)) then (if (Int.tmod (wrap64 ((wrap64 ((wrap64 (x1001 - 1)) * 7)) + 3)) (x1000.length : Int)) < (x1000.length : Int) then (if x1 = 0 then (none) else (some (Int.tmod (Go.bits .xor .i64 (wrap64 ((wrap64 ((wrap64 ((wrap64 ((wrap64 (rd x1000 (Int.tmod (wrap64 (x1001 - 1)) (x1000.length : Int)))) * 131)) + (wrap64 ((wrap64 (rd x1000 (Int.tmod (wrap64 ((wrap64 ((wrap64 (x1001 - 1)) * 7)) + 3)) (x1000.length : Int)))) * 1117)))) + (wrap64 ((wrap64 (x1001 - 1)) * 29)))) + (wrap64 ((wrap64 (Int.tdiv (wrap64 (x1001 - 1)) (x1000.length : Int))) * 53)))) (wrap64 (Int.tdiv (wrap64 ((wrap64 ((wrap64 ((wrap64 ((wrap64 (rd x1000 (Int.tmod (wrap64 (x1001 - 1)) (x1000.length : Int)))) * 131)) + (wrap64 ((wrap64 (rd x1000 (Int.tmod (wrap64 ((wrap64 ((wrap64 (x1001 - 1)) * 7)) + 3)) (x1000.length : Int)))) * 1117)))) + (wrap64 ((wrap64 (x1001 - 1)) * 29)))) + (wrap64 ((wrap64 (Int.tdiv (wrap64 (x1001 - 1)) (x1000.length : Int))) * 53)))) 64))) x1, x1001))) else (none)) else (none)) else (none)) else (none))))) r) : Ev (fun k => spec_l20Rd_pick.j0 k x1 x24 x1000 x1001) r := Ev.step (fun _ => rfl) h
theorem bits_xor_nat (k : Go.IntKind) (j : Nat) (hj : j ≤ k.bits) (hk : ∀ n : Int, 0 ≤ n → n < 2 ^ j → k.wrap n = n) (a b : Nat) (ha : a < 2 ^ j) (hb : b < 2 ^ j) : Go.bits .xor k a b = ((a ^^^ b : Nat) : Int) := by
 have hp : 2 ^ j ≤ 2 ^ k.bits := Nat.pow_le_pow_right (by decide) hj
 have ha' : a % 2 ^ k.bits = a := Nat.mod_eq_of_lt (Nat.lt_of_lt_of_le ha hp)
 have hb' : b % 2 ^ k.bits = b := Nat.mod_eq_of_lt (Nat.lt_of_lt_of_le hb hp)
 simp only [Go.bits, BitVec.ofInt_natCast, BitVec.toNat_xor, BitVec.toNat_ofNat, ha', hb']
 refine hk _ (Int.natCast_nonneg _) ?_
 exact_mod_cast Nat.xor_lt_two_pow ha hb
theorem h_xor_i64 {a b : Nat} (ha : a < 2 ^ 40) (hb : b < 2 ^ 40) : Go.bits .xor .i64 (a : Int) (b : Int) = ((a ^^^ b : Nat) : Int) :=
 bits_xor_nat .i64 40 (by decide) (fun n h0 h1 => by rw [Go.IntKind.wrap_i64]; omega) a b ha hb
theorem xor_nonneg {x : Int} (h0 : 0 ≤ x) (h1 : x < 1000000000) : 0 ≤ Go.bits .xor .i64 x (Int.tdiv x 64) ∧ Go.bits .xor .i64 x (Int.tdiv x 64) < 2 ^ 40 := by
 obtain ⟨a, rfl⟩ := Int.eq_ofNat_of_zero_le h0
 have : Int.tdiv (a : Int) 64 = ((a / 64 : Nat) : Int) := by
  rw [Int.tdiv_eq_ediv_of_nonneg (by omega)]; simp
 rw [this, h_xor_i64 (by omega) (by omega)]
 have := Nat.xor_lt_two_pow (n := 40) (x := a) (y := a / 64) (by omega) (by omega)
 omega
theorem spec_l20Rd_pick_ev {b : List Int} (B : Bts b) {p : Int} (h0 : 0 ≤ p) (h1 : p ≤ 1000000) (n : Int) : ∃ r : Int, Ev (fun k => spec_l20Rd_pick.f k b p n) (r, p + 1) ∧ 0 ≤ r ∧ (1 ≤ n → r < n) := by
 unfold spec_l20Rd_pick.f
 rw [wid (x := p + 1) (by omega) (by omega)]
 by_cases hn : n < 1
 ·exact ⟨0, Ev.pos hn (spec_l20Rd_pick.j0.ev (Ev.pos rfl (Ev.now _))), by omega, by omega⟩
 by_cases hb : b.length = 0
 ·refine ⟨0, Ev.neg hn ?_, by omega, by omega⟩
  rw [show ((b.length : Int) == 0) = true from by simp [hb]]
  exact spec_l20Rd_pick.j0.ev (Ev.pos rfl (Ev.now _))
 have hlen := B.1
 have key : ∃ r : Int, Ev (fun k => spec_l20Rd_pick.j0 k n false b (p + 1)) (r, p + 1) ∧ 0 ≤ r ∧ (1 ≤ n → r < n) := by
  by_cases hlt : p < b.length
  ·refine ⟨Int.tmod (rd b p) n, spec_l20Rd_pick.j0.ev (Ev.neg (by simp) ?_), Int.tmod_nonneg _ (B.2 p).1, fun h => Int.tmod_lt_of_pos _ (by omega)⟩
   have := B.2 p
   rw [wid (x := p + 1 - 1) (by omega) (by omega), show p + 1 - 1 = p from by omega, wid (x := rd b p) (by omega) (by omega)]
   exact Ev.pos hlt (Ev.pos h0 (Ev.neg (by omega) (Ev.now _)))
  ·have t0 : 0 ≤ Int.tmod p b.length := Int.tmod_nonneg _ h0
   have t1 : Int.tmod p b.length < b.length := Int.tmod_lt_of_pos _ (by omega)
   have u0 : 0 ≤ Int.tmod (p * 7 + 3) b.length := Int.tmod_nonneg _ (by omega)
   have u1 : Int.tmod (p * 7 + 3) b.length < b.length := Int.tmod_lt_of_pos _ (by omega)
   have v0 : 0 ≤ Int.tdiv p b.length := Int.tdiv_nonneg h0 (by omega)
   have v1 : Int.tdiv p b.length ≤ p := by
    rw [Int.tdiv_eq_ediv_of_nonneg h0]
    exact Int.ediv_le_self _ h0
   have b1 := B.2 (Int.tmod p b.length)
   have b2 := B.2 (Int.tmod (p * 7 + 3) b.length)
   generalize e1 : rd b (Int.tmod p b.length) = y1 at *
   generalize e2 : rd b (Int.tmod (p * 7 + 3) b.length) = y2 at *
   have hx0 : 0 ≤ y1 * 131 + y2 * 1117 + p * 29 + Int.tdiv p b.length * 53 := by omega
   have hx1 : y1 * 131 + y2 * 1117 + p * 29 + Int.tdiv p b.length * 53 < 1000000000 := by omega
   have hx := xor_nonneg hx0 hx1
   refine ⟨Int.tmod (Go.bits .xor .i64 (y1 * 131 + y2 * 1117 + p * 29 + Int.tdiv p b.length * 53) (Int.tdiv (y1 * 131 + y2 * 1117 + p * 29 + Int.tdiv p b.length * 53) 64)) n, spec_l20Rd_pick.j0.ev (Ev.neg (by simp) ?_), Int.tmod_nonneg _ hx.1, fun h => Int.tmod_lt_of_pos _ (by omega)⟩
   have d0 : 0 ≤ Int.tdiv (y1 * 131 + y2 * 1117 + p * 29 + Int.tdiv p b.length * 53) 64 := Int.tdiv_nonneg hx0 (by omega)
   have d1 : Int.tdiv (y1 * 131 + y2 * 1117 + p * 29 + Int.tdiv p b.length * 53) 64 ≤ y1 * 131 + y2 * 1117 + p * 29 + Int.tdiv p b.length * 53 := by
    rw [Int.tdiv_eq_ediv_of_nonneg hx0]
    exact Int.ediv_le_self _ hx0
   rw [wid (x := p + 1 - 1) (by omega) (by omega), show p + 1 - 1 = p from by omega, wid (x := p * 7) (by omega) (by omega), wid (x := p * 7 + 3) (by omega) (by omega), e1, e2]
   rw [wid (x := y1) (by omega) (by omega), wid (x := y2) (by omega) (by omega), wid (x := y1 * 131) (by omega) (by omega), wid (x := y2 * 1117) (by omega) (by omega), wid (x := y1 * 131 + y2 * 1117) (by omega) (by omega), wid (x := p * 29) (by omega) (by omega), wid (x := y1 * 131 + y2 * 1117 + p * 29) (by omega) (by omega)]
   rw [wid (x := Int.tdiv p b.length) (by omega) (by omega), wid (x := Int.tdiv p b.length * 53) (by omega) (by omega), wid (x := y1 * 131 + y2 * 1117 + p * 29 + Int.tdiv p b.length * 53) (by omega) (by omega)]
   rw [wid (x := Int.tdiv (y1 * 131 + y2 * 1117 + p * 29 + Int.tdiv p b.length * 53) 64) (by omega) (by omega)]
   exact Ev.neg hlt (Ev.neg (by omega) (Ev.pos t0 (Ev.pos t1 (Ev.pos u0 (Ev.pos u1 (Ev.neg (by omega) (Ev.now _)))))))
 obtain ⟨r, e, h2, h3⟩ := key
 refine ⟨r, Ev.neg hn ?_, h2, h3⟩
 rw [show ((b.length : Int) == 0) = false from by simpa using hb]
 exact e

/-! spec_l20Order -/
theorem spec_l20Order.l0.ev {x1 : Int} {x5 : List Int} {x6 : Int} {x7 : Int} {x1000 : List Int} {x1001 : Int} {r : List Int × Int} (h : Ev (fun k => if x7 ≤ x1 then (if x6 = 0 then ((spec_l20Rd_pick.f k x1000 x1001 x7).bind fun bt119 => ((some (([] : List Int) : List Int)).bind fun y121 => (if 0 ≤ bt119.1 then (if bt119.1 ≤ (x5.length : Int) then ((some (x5.take (bt119.1 : Int).toNat : List Int)).bind fun y124 => (if y121.length + y124.length < 17592186044416 then ((some (y121 ++ y124 : List Int)).bind fun y128 => (if y128.length < 17592186044416 then ((some (y128 ++ [x7] : List Int)).bind fun y131 => ((some (x5.drop (bt119.1 : Int).toNat : List Int)).bind fun y134 => (if y131.length + y134.length < 17592186044416 then (spec_l20Order.l0 k x1 (y131 ++ y134) x6 (wrap64 (x7 + 1)) x1000 bt119.2) else (none)))) else (none))) else (none))) else (none)) else (none)))) else ((spec_l20Rd_pick.f k x1000 x1001 3).bind fun bt141 => (if bt141.1 = 0 then ((spec_l20Rd_pick.f k x1000 bt141.2 x7).bind fun bt143 => ((some (([] : List Int) : List Int)).bind fun y145 => (if 0 ≤ bt143.1 then (if bt143.1 ≤ (x5.length : Int) then ((some (x5.take (bt143.1 : Int).toNat : List Int)).bind fun y148 => (if y145.length + y148.length < 17592186044416 then ((some (y145 ++ y148 : List Int)).bind fun y152 => (if y152.length < 17592186044416 then ((some (y152 ++ [x7] : List Int)).bind fun y155 => ((some (x5.drop (bt143.1 : Int).toNat : List Int)).bind fun y158 => (if y155.length + y158.length < 17592186044416 then (spec_l20Order.l0 k x1 (y155 ++ y158) x6 (wrap64 (x7 + 1)) x1000 bt143.2) else (none)))) else (none))) else (none))) else (none)) else (none)))) else ((some (([] : List Int) : List Int)).bind fun y165 => (if 0 ≤ (x5.length : Int) then (if (x5.length : Int) ≤ (x5.length : Int) then ((some (x5.take ((x5.length : Int) : Int).toNat : List Int)).bind fun y168 => (if y165.length + y168.length < 17592186044416 then ((some (y165 ++ y168 : List Int)).bind fun y172 => (if y172.length < 17592186044416 then ((some (y172 ++ [x7] : List Int)).bind fun y175 => ((some (x5.drop ((x5.length : Int) : Int).toNat : List Int)).bind fun y178 => (if y175.length + y178.length < 17592186044416 then (spec_l20Order.l0 k x1 (y175 ++ y178) x6 (wrap64 (x7 + 1)) x1000 bt141.2) else (none)))) else (none))) else (none))) else (none)) else (none)))))) else (some (x5, x1001))) r) : Ev (fun k => spec_l20Order.l0 k x1 x5 x6 x7 x1000 x1001) r := Ev.step (fun _ => rfl) h
/-- Numbers from 1 to many, so many of them. -/
def Ord (many : Int) (len : Nat) (o : List Int) : Prop := o.length = len ∧ ∀ x, x ∈ o → 1 ≤ x ∧ x ≤ many
theorem ord_put {many k a : Int} {o : List Int} (O : Ord many (k - 1).toNat o) (h1 : 1 ≤ k) (h2 : k ≤ many) (_h3 : 0 ≤ a) (_h4 : a < k) : Ord many (k + 1 - 1).toNat ((([] : List Int) ++ o.take a.toNat ++ [k]) ++ o.drop a.toNat) := by
 constructor
 ·have := O.1
  simp; omega
 ·intro x hx
  simp only [List.nil_append, List.mem_append, List.mem_singleton] at hx
  rcases hx with (hx | rfl) | hx
  ·exact O.2 x (List.mem_of_mem_take hx)
  ·exact ⟨h1, h2⟩
  ·exact O.2 x (List.mem_of_mem_drop hx)
theorem spec_l20Order_l0 {b : List Int} (B : Bts b) {many keep : Int} (hm : many ≤ 100) : ∀ i : Int, i ≤ many + 1 → 1 ≤ i → ∀ (o : List Int) (p : Int), Ord many (i - 1).toNat o → 0 ≤ p → p + 2 * (many + 1 - i) ≤ 900000 →
  ∃ (o' : List Int) (q : Int), Ev (fun k => spec_l20Order.l0 k many o keep i b p) (o', q) ∧ Ord many many.toNat o' ∧ p ≤ q ∧ q ≤ p + 2 * (many + 1 - i) := by
 refine Hd.down ?_
 intro i hi ih h1 o p O h0 hp
 have ol := O.1
 by_cases hlt : i ≤ many
 ·have hlen : (o.length : Int) = i - 1 := by omega
  by_cases hk : keep = 0
  ·obtain ⟨a, e, a0, a1⟩ := spec_l20Rd_pick_ev B h0 (by omega) i
   have a1 := a1 h1
   obtain ⟨o', q, e2, O2, q0, q1⟩ := ih (by omega) (by omega) _ (p + 1) (ord_put O h1 hlt a0 a1) (by omega) (by omega)
   refine ⟨o', q, spec_l20Order.l0.ev (Ev.pos hlt (Ev.pos hk (Ev.bind e ?_))), O2, by omega, by omega⟩
   rw [wid (x := i + 1) (by omega) (by omega)]
   refine Ev.bindv rfl (Ev.pos a0 (Ev.pos (by omega) (Ev.bindv rfl (Ev.pos (by simp; omega) (Ev.bindv rfl (Ev.pos (by simp; omega) (Ev.bindv rfl (Ev.bindv rfl (Ev.pos (by simp; omega) ?_)))))))))
   exact e2
  ·obtain ⟨s, es, _, _⟩ := spec_l20Rd_pick_ev B h0 (by omega) 3
   by_cases hs : s = 0
   ·obtain ⟨a, e, a0, a1⟩ := spec_l20Rd_pick_ev B (p := p + 1) (by omega) (by omega) i
    have a1 := a1 h1
    obtain ⟨o', q, e2, O2, q0, q1⟩ := ih (by omega) (by omega) _ (p + 1 + 1) (ord_put O h1 hlt a0 a1) (by omega) (by omega)
    refine ⟨o', q, spec_l20Order.l0.ev (Ev.pos hlt (Ev.neg hk (Ev.bind es (Ev.pos hs (Ev.bind e ?_))))), O2, by omega, by omega⟩
    rw [wid (x := i + 1) (by omega) (by omega)]
    refine Ev.bindv rfl (Ev.pos a0 (Ev.pos (by omega) (Ev.bindv rfl (Ev.pos (by simp; omega) (Ev.bindv rfl (Ev.pos (by simp; omega) (Ev.bindv rfl (Ev.bindv rfl (Ev.pos (by simp; omega) ?_)))))))))
    exact e2
   ·obtain ⟨o', q, e2, O2, q0, q1⟩ := ih (by omega) (by omega) _ (p + 1) (ord_put O h1 hlt (a := (o.length : Int)) (by omega) (by omega)) (by omega) (by omega)
    refine ⟨o', q, spec_l20Order.l0.ev (Ev.pos hlt (Ev.neg hk (Ev.bind es (Ev.neg hs ?_)))), O2, by omega, by omega⟩
    rw [wid (x := i + 1) (by omega) (by omega)]
    refine Ev.bindv rfl (Ev.pos (by omega) (Ev.pos (by omega) (Ev.bindv rfl (Ev.pos (by simp; omega) (Ev.bindv rfl (Ev.pos (by simp; omega) (Ev.bindv rfl (Ev.bindv rfl (Ev.pos (by simp; omega) ?_)))))))))
    exact e2
 ·refine ⟨o, p, spec_l20Order.l0.ev (Ev.neg hlt (Ev.now _)), ?_, by omega, by omega⟩
  rw [show many.toNat = (i - 1).toNat from by omega]; exact O
theorem spec_l20Order_ev {b : List Int} (B : Bts b) {p : Int} (h0 : 0 ≤ p) (h1 : p ≤ 800000) {many : Int} (hm0 : 0 ≤ many) (hm : many ≤ 100) :
  ∃ (o : List Int) (q : Int), Ev (fun k => spec_l20Order.f k b p many) (o, q) ∧ Ord many many.toNat o ∧ p ≤ q ∧ q ≤ p + 300 := by
 obtain ⟨s, es, _, _⟩ := spec_l20Rd_pick_ev B h0 (by omega) 2
 obtain ⟨o, q, e, O, q0, q1⟩ := spec_l20Order_l0 B (keep := s) hm 1 (by omega) (by omega) [] (p + 1) ⟨rfl, fun x hx => by cases hx⟩ (by omega) (by omega)
 refine ⟨o, q, ?_, O, by omega, by omega⟩
 unfold spec_l20Order.f
 exact Ev.bind es e

/-! spec_l20Rd_odd -/

theorem spec_l20Rd_odd_ev {b : List Int} (B : Bts b) {p : Int} (h0 : 0 ≤ p) (h1 : p ≤ 1000000) (n : Int) : ∃ (r : Bool) (q : Int), Ev (fun k => spec_l20Rd_odd.f k b p n) (r, q) ∧ p ≤ q ∧ q ≤ p + 1 := by
 unfold spec_l20Rd_odd.f
 by_cases hn : n > 0
 ·obtain ⟨r, e, _, _⟩ := spec_l20Rd_pick_ev B h0 h1 n
  exact ⟨_, _, Ev.pos hn (Ev.bind e (Ev.now _)), by omega, by omega⟩
 ·exact ⟨_, _, Ev.neg hn (Ev.now _), by omega, by omega⟩

/-! spec_l20Tree -/
theorem spec_l20Tree.l0.ev {x1 : Int} {x5 : Int} {x6 : List Int} {x7 : List Int} {x8 : Int} {x9 : Int} {x1000 : List Int} {x1001 : Int} {r : List Int × Int} (h : Ev (fun k => if x9 < x5 then ((spec_l20Rd_pick.f k x1000 x1001 x9).bind fun bt198 => (if x8 = 1 then ((spec_l20Rd_pick.f k x1000 bt198.2 2).bind fun bt200 => (if bt200.1 = 0 then (if 0 ≤ x9 then (if x9 < (x6.length : Int) then (if 0 ≤ (wrap64 (x9 - 1)) then (if (wrap64 (x9 - 1)) < (x6.length : Int) then (if 0 ≤ (wrap64 ((rd x6 x9) - 1)) then (if (wrap64 ((rd x6 x9) - 1)) < (x7.length : Int) then (spec_l20Tree.l0 k x1 x5 x6 (x7.set ((wrap64 ((rd x6 x9) - 1)) : Int).toNat (rd x6 (wrap64 (x9 - 1)))) x8 (wrap64 (x9 + 1)) x1000 bt200.2) else (none)) else (none)) else (none)) else (none)) else (none)) else (none)) else (if 0 ≤ x9 then (if x9 < (x6.length : Int) then (if 0 ≤ bt198.1 then (if bt198.1 < (x6.length : Int) then (if 0 ≤ (wrap64 ((rd x6 x9) - 1)) then (if (wrap64 ((rd x6 x9) - 1)) < (x7.length : Int) then (spec_l20Tree.l0 k x1 x5 x6 (x7.set ((wrap64 ((rd x6 x9) - 1)) : Int).toNat (rd x6 bt198.1)) x8 (wrap64 (x9 + 1)) x1000 bt200.2) else (none)) else (none)) else (none)) else (none)) else (none)) else (none)))) else (if 0 ≤ x9 then (if x9 < (x6.length : Int) then (if 0 ≤ bt198.1 then (if bt198.1 < (x6.length : Int) then (if 0 ≤ (wrap64 ((rd x6 x9) - 1)) then (if (wrap64 ((rd x6 x9) - 1)) < (x7.length : Int) then (spec_l20Tree.l0 k x1 x5 x6 (x7.set ((wrap64 ((rd x6 x9) - 1)) : Int).toNat (rd x6 bt198.1)) x8 (wrap64 (x9 + 1)) x1000 bt198.2) else (none)) else (none)) else (none)) else (none)) else (none)) else (none)))) else ((spec_l20Rd_odd.f k x1000 x1001 x1).bind fun bt211 => (if bt211.1 = true then ((spec_l20Rd_pick.f k x1000 bt211.2 4).bind fun bt213 => (if bt213.1 = 0 then (some ((([] : List Int)), bt213.2)) else (if bt213.1 = 1 then (some ((([2, 1, 0] : List Int)), bt213.2)) else (if bt213.1 = 2 then ((spec_l20Rd_pick.f k x1000 bt213.2 x5).bind fun bt221 => (if 0 ≤ bt221.1 then (if bt221.1 < (x7.length : Int) then ((some (x7.set (bt221.1 : Int).toNat 0 : List Int)).bind fun y223 => (if y223.length < 17592186044416 then (some ((y223 ++ [0]), bt221.2)) else (none))) else (none)) else (none))) else ((some (([1, wrap64 (x5 + 1), (-1)] : List Int) : List Int)).bind fun y227 => ((spec_l20Rd_pick.f k x1000 bt213.2 3).bind fun bt230 => (if 0 ≤ bt230.1 then (if bt230.1 < (y227.length : Int) then (if 0 < (x7.length : Int) then (some ((x7.set (0 : Int).toNat (rd y227 bt230.1)), bt230.2)) else (none)) else (none)) else (none)))))))) else (some (x7, bt211.2))))) r) : Ev (fun k => spec_l20Tree.l0 k x1 x5 x6 x7 x8 x9 x1000 x1001) r := Ev.step (fun _ => rfl) h
theorem ord_rd {many : Int} {n : Nat} {o : List Int} (O : Ord many n o) {i : Int} (h0 : 0 ≤ i) (h1 : i < n) : 1 ≤ rd o i ∧ rd o i ≤ many := by
 have := O.1
 unfold rd
 rw [List.getD_eq_getElem?_getD, List.getElem?_eq_getElem (by omega)]
 exact O.2 _ (List.getElem_mem _)
theorem spec_l20Tree_l0 {b : List Int} (B : Bts b) {odd many near : Int} (hm1 : 1 ≤ many) (hm : many ≤ 8) {o : List Int} (O : Ord many many.toNat o) : ∀ i : Int, i ≤ many → 1 ≤ i → ∀ (h : List Int) (p : Int), h.length = many.toNat → 0 ≤ p → p + 2 * (many - i) ≤ 900000 →
  ∃ (h' : List Int) (q : Int), Ev (fun k => spec_l20Tree.l0 k odd many o h near i b p) (h', q) ∧ h'.length ≤ 9 ∧ p ≤ q ∧ q ≤ p + 2 * (many - i) + 4 := by
 refine Hd.down ?_
 intro i hi ih h1 h p hl h0 hp
 have ol := O.1
 by_cases hlt : i < many
 ·obtain ⟨a, e, a0, a1⟩ := spec_l20Rd_pick_ev B h0 (by omega) i
  have a1 := a1 h1
  have r1 := ord_rd O (i := i) (by omega) (by omega)
  obtain ⟨s, es, _, _⟩ := spec_l20Rd_pick_ev B (p := p + 1) (by omega) (by omega) 2
  by_cases hn : near = 1
  ·by_cases hs : s = 0
   ·obtain ⟨h', q, e2, l2, q0, q1⟩ := ih hlt (by omega) (h.set (rd o i - 1).toNat (rd o (i - 1))) (p + 1 + 1) (by simpa using hl) (by omega) (by omega)
    refine ⟨h', q, spec_l20Tree.l0.ev (Ev.pos hlt (Ev.bind e (Ev.pos hn (Ev.bind es (Ev.pos hs ?_))))), l2, by omega, by omega⟩
    rw [wid (x := i + 1) (by omega) (by omega), wid (x := i - 1) (by omega) (by omega), wid (x := rd o i - 1) (by omega) (by omega)]
    exact Ev.pos (by omega) (Ev.pos (by omega) (Ev.pos (by omega) (Ev.pos (by omega) (Ev.pos (by omega) (Ev.pos (by omega) e2)))))
   ·obtain ⟨h', q, e2, l2, q0, q1⟩ := ih hlt (by omega) (h.set (rd o i - 1).toNat (rd o a)) (p + 1 + 1) (by simpa using hl) (by omega) (by omega)
    refine ⟨h', q, spec_l20Tree.l0.ev (Ev.pos hlt (Ev.bind e (Ev.pos hn (Ev.bind es (Ev.neg hs ?_))))), l2, by omega, by omega⟩
    rw [wid (x := i + 1) (by omega) (by omega), wid (x := rd o i - 1) (by omega) (by omega)]
    exact Ev.pos (by omega) (Ev.pos (by omega) (Ev.pos (by omega) (Ev.pos (by omega) (Ev.pos (by omega) (Ev.pos (by omega) e2)))))
  ·obtain ⟨h', q, e2, l2, q0, q1⟩ := ih hlt (by omega) (h.set (rd o i - 1).toNat (rd o a)) (p + 1) (by simpa using hl) (by omega) (by omega)
   refine ⟨h', q, spec_l20Tree.l0.ev (Ev.pos hlt (Ev.bind e (Ev.neg hn ?_))), l2, by omega, by omega⟩
   rw [wid (x := i + 1) (by omega) (by omega), wid (x := rd o i - 1) (by omega) (by omega)]
   exact Ev.pos (by omega) (Ev.pos (by omega) (Ev.pos (by omega) (Ev.pos (by omega) (Ev.pos (by omega) (Ev.pos (by omega) e2)))))
 ·obtain ⟨t, q, et, q0, q1⟩ := spec_l20Rd_odd_ev B h0 (by omega) odd
  cases t with
  | false => exact ⟨h, q, spec_l20Tree.l0.ev (Ev.neg hlt (Ev.bind et (Ev.neg (by simp) (Ev.now _)))), by omega, by omega, by omega⟩
  | true =>
   obtain ⟨c, ec, _, _⟩ := spec_l20Rd_pick_ev B (p := q) (by omega) (by omega) 4
   by_cases c0 : c = 0
   ·exact ⟨_, _, spec_l20Tree.l0.ev (Ev.neg hlt (Ev.bind et (Ev.pos rfl (Ev.bind ec (Ev.pos c0 (Ev.now _)))))), by simp, by omega, by omega⟩
   by_cases c1 : c = 1
   ·exact ⟨_, _, spec_l20Tree.l0.ev (Ev.neg hlt (Ev.bind et (Ev.pos rfl (Ev.bind ec (Ev.neg c0 (Ev.pos c1 (Ev.now _))))))), by simp, by omega, by omega⟩
   by_cases c2 : c = 2
   ·obtain ⟨d, ed, d0, d1⟩ := spec_l20Rd_pick_ev B (p := q + 1) (by omega) (by omega) many
    have d1 := d1 hm1
    exact ⟨_, _, spec_l20Tree.l0.ev (Ev.neg hlt (Ev.bind et (Ev.pos rfl (Ev.bind ec (Ev.neg c0 (Ev.neg c1 (Ev.pos c2 (Ev.bind ed (Ev.pos d0 (Ev.pos (by omega) (Ev.bindv rfl (Ev.pos (by simp; omega) (Ev.now _))))))))))))), by simp; omega, by omega, by omega⟩
   ·obtain ⟨d, ed, d0, d1⟩ := spec_l20Rd_pick_ev B (p := q + 1) (by omega) (by omega) 3
    have d1 := d1 (by omega)
    exact ⟨_, _, spec_l20Tree.l0.ev (Ev.neg hlt (Ev.bind et (Ev.pos rfl (Ev.bind ec (Ev.neg c0 (Ev.neg c1 (Ev.neg c2 (Ev.bindv rfl (Ev.bind ed (Ev.pos d0 (Ev.pos (by simp; omega) (Ev.pos (by omega) (Ev.now _))))))))))))), by simp; omega, by omega, by omega⟩
theorem spec_l20Tree_ev {b : List Int} (B : Bts b) {p : Int} (h0 : 0 ≤ p) (h1 : p ≤ 700000) (odd : Int) :
  ∃ (h : List Int) (q : Int), Ev (fun k => spec_l20Tree.f k b p odd) (h, q) ∧ h.length ≤ 9 ∧ p ≤ q ∧ q ≤ p + 400 := by
 obtain ⟨m, em, m0, m1⟩ := spec_l20Rd_pick_ev B h0 (by omega) 7
 have m1 := m1 (by omega)
 obtain ⟨o, q, eo, O, q0, q1⟩ := spec_l20Order_ev B (p := p + 1) (by omega) (by omega) (many := 1 + m) (by omega) (by omega)
 obtain ⟨s, es, _, _⟩ := spec_l20Rd_pick_ev B (p := q) (by omega) (by omega) 2
 obtain ⟨h, r, e, hl, r0, r1⟩ := spec_l20Tree_l0 B (odd := odd) (near := s) (many := 1 + m) (by omega) (by omega) O 1 (by omega) (by omega) (List.replicate (1 + m).toNat 0) (q + 1) (by simp) (by omega) (by omega)
 refine ⟨h, r, ?_, hl, by omega, by omega⟩
 unfold spec_l20Tree.f
 refine Ev.bind em ?_
 rw [wid (x := 1 + m) (by omega) (by omega)]
 exact Ev.bind eo (Ev.pos (by omega) (Ev.pos (by omega) (Ev.bind es e)))

/-! spec_l20Fill -/
theorem spec_l20Fill.l0.ev {x1 : List Int} {x3 : Int} {x10 : Int} {x11 : Int} {x1000 : List Int} {x1001 : Int} {r : Int × List Int} (h : Ev (fun k => if x11 < x10 then ((spec_l20Rd_pick.f k x1000 x1001 (wrap64 (x10 - x11))).bind fun bt237 => ((spec_l20Fill.f k x1000 bt237.2 x1 x11 (wrap64 (x11 + bt237.1)) x10).bind fun bt239 => (spec_l20Fill.l0 k bt239.2 x3 x10 (wrap64 ((wrap64 (x11 + bt237.1)) + 1)) x1000 bt239.1))) else (spec_l20Fill.l1 k x1 x3 x10 (wrap64 (x10 + 1)) x1000 x1001)) r) : Ev (fun k => spec_l20Fill.l0 k x1 x3 x10 x11 x1000 x1001) r := Ev.step (fun _ => rfl) h
theorem spec_l20Fill.l1.ev {x1 : List Int} {x3 : Int} {x10 : Int} {x11 : Int} {x1000 : List Int} {x1001 : Int} {r : Int × List Int} (h : Ev (fun k => if x11 ≤ x3 then ((spec_l20Rd_pick.f k x1000 x1001 (wrap64 ((wrap64 (x3 - x11)) + 1))).bind fun bt241 => ((spec_l20Fill.f k x1000 bt241.2 x1 x11 (wrap64 (x11 + bt241.1)) x10).bind fun bt243 => (spec_l20Fill.l1 k bt243.2 x3 x10 (wrap64 ((wrap64 (x11 + bt241.1)) + 1)) x1000 bt243.1))) else (some (x1001, x1))) r) : Ev (fun k => spec_l20Fill.l1 k x1 x3 x10 x11 x1000 x1001) r := Ev.step (fun _ => rfl) h
theorem spec_l20Fill.f.ev {s0_0 : List Int} {s0_1 : Int} {l1 : List Int} {a2 : Int} {a3 : Int} {a4 : Int} {r : Int × List Int} (h : Ev (fun k => if a2 > a3 then (some (s0_1, l1)) else ((spec_l20Rd_pick.f k s0_0 s0_1 (wrap64 ((wrap64 (a3 - a2)) + 1))).bind fun bt234 => (if 0 ≤ (wrap64 ((wrap64 (a2 + bt234.1)) - 1)) then (if (wrap64 ((wrap64 (a2 + bt234.1)) - 1)) < (l1.length : Int) then (spec_l20Fill.l0 k (l1.set ((wrap64 ((wrap64 (a2 + bt234.1)) - 1)) : Int).toNat a4) a3 (wrap64 (a2 + bt234.1)) a2 s0_0 bt234.2) else (none)) else (none)))) r) : Ev (fun k => spec_l20Fill.f k s0_0 s0_1 l1 a2 a3 a4) r := Ev.step (fun _ => rfl) h
/-- What one call on s words is good for. -/
def FillOk (b : List Int) (d : Int) : Prop := ∀ (s low head : Int) (h : List Int) (p : Int), 1 ≤ s → s ≤ d → 1 ≤ low → low + s - 1 ≤ h.length → h.length ≤ 100 → 0 ≤ p → p + 2 * s ≤ 600000 →
 ∃ (q : Int) (h' : List Int), Ev (fun k => spec_l20Fill.f k b p h low (low + s - 1) head) (q, h') ∧ h'.length = h.length ∧ p ≤ q ∧ q ≤ p + 2 * s - 1
theorem spec_l20Fill_l1 {b : List Int} (B : Bts b) {d : Int} (F : FillOk b d) {high root : Int} (hr : 1 ≤ root) (hd : high - root ≤ d) : ∀ i : Int, i ≤ high + 1 → root < i → ∀ (h : List Int) (p : Int), high ≤ h.length → h.length ≤ 100 → 0 ≤ p → p + 2 * (high - i + 1) ≤ 599999 →
  ∃ (q : Int) (h' : List Int), Ev (fun k => spec_l20Fill.l1 k h high root i b p) (q, h') ∧ h'.length = h.length ∧ p ≤ q ∧ q ≤ p + 2 * (high - i + 1) := by
 have key : ∀ (m : Nat) (i : Int), i ≤ high + 1 → root < i → high - i + 1 ≤ m → ∀ (h : List Int) (p : Int), high ≤ h.length → h.length ≤ 100 → 0 ≤ p → p + 2 * (high - i + 1) ≤ 599999 →
  ∃ (q : Int) (h' : List Int), Ev (fun k => spec_l20Fill.l1 k h high root i b p) (q, h') ∧ h'.length = h.length ∧ p ≤ q ∧ q ≤ p + 2 * (high - i + 1) := by
  intro m
  induction m with
  | zero =>
   intro i h1 h2 h3 h p _ _ h0 _
   exact ⟨p, h, spec_l20Fill.l1.ev (Ev.neg (by omega) (Ev.now _)), rfl, by omega, by omega⟩
  | succ m ih =>
   intro i h1 h2 h3 h p hh hh2 h0 hp
   by_cases hle : i ≤ high
   ·obtain ⟨r, er, r0, r1⟩ := spec_l20Rd_pick_ev B h0 (by omega) (high - i + 1)
    have r1 := r1 (by omega)
    obtain ⟨q1, hh1, e1, l1, a1, b1⟩ := F (r + 1) i root h (p + 1) (by omega) (by omega) (by omega) (by omega) hh2 (by omega) (by omega)
    obtain ⟨q2, hh3, e2, l2, a2, b2⟩ := ih (i + r + 1) (by omega) (by omega) (by omega) hh1 q1 (by omega) (by omega) (by omega) (by omega)
    refine ⟨q2, hh3, spec_l20Fill.l1.ev (Ev.pos hle ?_), by omega, by omega, by omega⟩
    rw [wid (x := high - i) (by omega) (by omega), wid (x := high - i + 1) (by omega) (by omega)]
    refine Ev.bind er ?_
    rw [wid (x := i + r) (by omega) (by omega), wid (x := i + r + 1) (by omega) (by omega)]
    rw [show i + (r + 1) - 1 = i + r from by omega] at e1
    exact Ev.bind e1 e2
   ·exact ⟨p, h, spec_l20Fill.l1.ev (Ev.neg hle (Ev.now _)), rfl, by omega, by omega⟩
 intro i h1 h2 h p
 exact key (high - i + 1).toNat i h1 h2 (by omega) h p
theorem spec_l20Fill_l0 {b : List Int} (B : Bts b) {d : Int} (F : FillOk b d) {high root : Int} (hh0 : root ≤ high) (hd : high - root ≤ d) : ∀ i : Int, i ≤ root → 1 ≤ i → root - i ≤ d → ∀ (h : List Int) (p : Int), high ≤ h.length → h.length ≤ 100 → 0 ≤ p → p + 2 * (high - i) ≤ 599999 →
  ∃ (q : Int) (h' : List Int), Ev (fun k => spec_l20Fill.l0 k h high root i b p) (q, h') ∧ h'.length = h.length ∧ p ≤ q ∧ q ≤ p + 2 * (high - i) := by
 have key : ∀ (m : Nat) (i : Int), i ≤ root → 1 ≤ i → root - i ≤ d → root - i ≤ m → ∀ (h : List Int) (p : Int), high ≤ h.length → h.length ≤ 100 → 0 ≤ p → p + 2 * (high - i) ≤ 599999 →
  ∃ (q : Int) (h' : List Int), Ev (fun k => spec_l20Fill.l0 k h high root i b p) (q, h') ∧ h'.length = h.length ∧ p ≤ q ∧ q ≤ p + 2 * (high - i) := by
  intro m
  have last : ∀ (i : Int), root ≤ i → 1 ≤ i → i ≤ root → ∀ (h : List Int) (p : Int), high ≤ h.length → h.length ≤ 100 → 0 ≤ p → p + 2 * (high - i) ≤ 599999 →
   ∃ (q : Int) (h' : List Int), Ev (fun k => spec_l20Fill.l0 k h high root i b p) (q, h') ∧ h'.length = h.length ∧ p ≤ q ∧ q ≤ p + 2 * (high - i) := by
   intro i h1 h2 h4 h p hh hh2 h0 hp
   obtain ⟨q, h', e, l, a, b'⟩ := spec_l20Fill_l1 B F (high := high) (root := root) (by omega) hd (root + 1) (by omega) (by omega) h p hh hh2 h0 (by omega)
   refine ⟨q, h', spec_l20Fill.l0.ev (Ev.neg (by omega) ?_), l, a, by omega⟩
   rw [wid (x := root + 1) (by omega) (by omega)]
   exact e
  induction m with
  | zero => intro i h1 h2 _ h3; exact last i (by omega) h2 h1
  | succ m ih =>
   intro i h1 h2 hdi h3 h p hh hh2 h0 hp
   by_cases hlt : i < root
   ·obtain ⟨r, er, r0, r1⟩ := spec_l20Rd_pick_ev B h0 (by omega) (root - i)
    have r1 := r1 (by omega)
    obtain ⟨q1, hh1, e1, l1, a1, b1⟩ := F (r + 1) i root h (p + 1) (by omega) (by omega) (by omega) (by omega) hh2 (by omega) (by omega)
    obtain ⟨q2, hh3, e2, l2, a2, b2⟩ := ih (i + r + 1) (by omega) (by omega) (by omega) (by omega) hh1 q1 (by omega) (by omega) (by omega) (by omega)
    refine ⟨q2, hh3, spec_l20Fill.l0.ev (Ev.pos hlt ?_), by omega, by omega, by omega⟩
    rw [wid (x := root - i) (by omega) (by omega)]
    refine Ev.bind er ?_
    rw [wid (x := i + r) (by omega) (by omega), wid (x := i + r + 1) (by omega) (by omega)]
    rw [show i + (r + 1) - 1 = i + r from by omega] at e1
    exact Ev.bind e1 e2
   ·exact last i (by omega) h2 h1 h p hh hh2 h0 hp
 intro i h1 h2 h3 h p
 exact key (root - i).toNat i h1 h2 h3 (by omega) h p
theorem spec_l20Fill_ok {b : List Int} (B : Bts b) : ∀ d : Nat, FillOk b d
 | 0 => fun s low head h p h1 h2 => by omega
 | d + 1 => fun s low head h p h1 h2 h3 h4 h5 h6 h7 => by
  obtain ⟨r, er, r0, r1⟩ := spec_l20Rd_pick_ev B h6 (by omega) s
  have r1 := r1 (by omega)
  obtain ⟨q, h', e, l, a, c⟩ := spec_l20Fill_l0 B (spec_l20Fill_ok B d) (high := low + s - 1) (root := low + r) (by omega) (by omega) low (by omega) h3 (by omega) (h.set (low + r - 1).toNat head) (p + 1) (by rw [List.length_set]; omega) (by rw [List.length_set]; omega) (by omega) (by omega)
  refine ⟨q, h', spec_l20Fill.f.ev (Ev.neg (by omega) ?_), by rw [l, List.length_set], by omega, by omega⟩
  rw [wid (x := low + s - 1 - low) (by omega) (by omega), wid (x := low + s - 1 - low + 1) (by omega) (by omega), show low + s - 1 - low + 1 = s from by omega]
  refine Ev.bind er ?_
  rw [wid (x := low + r) (by omega) (by omega), wid (x := low + r - 1) (by omega) (by omega)]
  exact Ev.pos (by omega) (Ev.pos (by omega) e)

/-! spec_l20Flat -/

theorem spec_l20Flat_ev {b : List Int} (B : Bts b) {p : Int} (h0 : 0 ≤ p) (h1 : p ≤ 500000) (odd : Int) :
  ∃ (h : List Int) (q : Int), Ev (fun k => spec_l20Flat.f k b p odd) (h, q) ∧ h.length ≤ 9 ∧ p ≤ q ∧ q ≤ p + 500 := by
 unfold spec_l20Flat.f
 obtain ⟨c, ec, _, _⟩ := spec_l20Rd_pick_ev B h0 (by omega) 3
 by_cases hc : c = 0
 ·obtain ⟨h, q, e, hl, q0, q1⟩ := spec_l20Tree_ev B (p := p + 1) (by omega) (by omega) odd
  exact ⟨h, q, Ev.bind ec (Ev.pos hc (Ev.bind e (Ev.now _))), hl, by omega, by omega⟩
 ·obtain ⟨m, em, m0, m1⟩ := spec_l20Rd_pick_ev B (p := p + 1) (by omega) (by omega) 7
  have m1 := m1 (by omega)
  obtain ⟨q, h, e, hl, q0, q1⟩ := spec_l20Fill_ok B 7 (1 + m) 1 0 (List.replicate (1 + m).toNat 0) (p + 1 + 1) (by omega) (by omega) (by omega) (by simp; omega) (by simp; omega) (by omega) (by omega)
  refine ⟨h, q, Ev.bind ec (Ev.neg hc (Ev.bind em ?_)), by rw [hl]; simp; omega, by omega, by omega⟩
  rw [show 1 + (1 + m) - 1 = 1 + m from by omega] at e
  rw [wid (x := 1 + m) (by omega) (by omega)]
  exact Ev.pos (by omega) (Ev.pos (by omega) (Ev.bind e (Ev.now _)))

/-! spec_OrderOk -/
theorem spec_OrderOk.l0.ev {x0 : List Int} {x1 : Int} {x5 : Int} {r : Bool} (h : Ev (fun k => if x5 < (x0.length : Int) then (if 0 ≤ x5 then ((spec_l1In.f (rd x0 x5) 1 x1).bind fun t260 => (if t260 = true then (spec_OrderOk.l1 k x0 x1 x5 0) else (some false))) else (none)) else ((spec_l1In.f x1 1 8).bind fun t258 => (if t258 = true then (some ((x0.length : Int) == x1)) else (some false)))) r) : Ev (fun k => spec_OrderOk.l0 k x0 x1 x5) r := Ev.step (fun _ => rfl) h
theorem spec_OrderOk.l1.ev {x0 : List Int} {x1 : Int} {x5 : Int} {x6 : Int} {r : Bool} (h : Ev (fun k => if x6 < x5 then (if 0 ≤ x6 then (if x6 < (x0.length : Int) then (if 0 ≤ x5 then (if x5 < (x0.length : Int) then (if (rd x0 x6) = (rd x0 x5) then (some false) else (spec_OrderOk.l1 k x0 x1 x5 (wrap64 (x6 + 1)))) else (none)) else (none)) else (none)) else (none)) else (spec_OrderOk.l0 k x0 x1 (wrap64 (x5 + 1)))) r) : Ev (fun k => spec_OrderOk.l1 k x0 x1 x5 x6) r := Ev.step (fun _ => rfl) h
theorem ordB_no {o : List Int} {m : Int} (h : ¬ ((1 ≤ m ∧ m ≤ 8) ∧ Hd.Perm m.toNat o)) : false = Hd.ordB o m := by
 cases hc : Hd.ordB o m with
 | false => rfl
 | true => exact absurd (Hd.ordB_true.1 hc) h
theorem spec_OrderOk_l1 {o : List Int} (hl : o.length ≤ 1048600) {m i : Int} (h0 : 0 ≤ i) (h1 : i < o.length)
  (next : (∀ a : Int, 1 ≤ a → a ≤ i → Hd.hd o a ≠ Hd.hd o (i + 1)) → Ev (fun k => spec_OrderOk.l0 k o m (i + 1)) (Hd.ordB o m)) : ∀ j : Int, j ≤ i → 0 ≤ j → (∀ a : Int, 1 ≤ a → a ≤ j → Hd.hd o a ≠ Hd.hd o (i + 1)) → Ev (fun k => spec_OrderOk.l1 k o m i j) (Hd.ordB o m) := by
 refine Hd.down ?_
 intro j hj ih j0 hno
 refine spec_OrderOk.l1.ev ?_
 rw [wid (x := i + 1) (by omega) (by omega), wid (x := j + 1) (by omega) (by omega), rd_hd1 j0, rd_hd1 h0]
 by_cases hlt : j < i
 ·refine Ev.pos hlt (Ev.pos j0 (Ev.pos (by omega) (Ev.pos h0 (Ev.pos h1 ?_))))
  by_cases e : Hd.hd o (j + 1) = Hd.hd o (i + 1)
  ·refine Ev.pos e (Ev.ret (ordB_no fun h => ?_))
   have l := h.2.len
   have := h.2.inj (j + 1) (i + 1) (by omega) (by omega) (by omega) (by omega) e
   omega
  ·refine Ev.neg e (ih hlt (by omega) fun a k1 k2 => ?_)
   by_cases e2 : a = j + 1
   ·rw [e2]; exact e
   ·exact hno a k1 (by omega)
 ·exact Ev.neg hlt (next fun a k1 k2 => hno a k1 (by omega))
theorem spec_OrderOk_l0 {o : List Int} (hl : o.length ≤ 1048600) {m : Int} : ∀ i : Int, i ≤ o.length → 0 ≤ i → (∀ a : Int, 1 ≤ a → a ≤ i → 1 ≤ Hd.hd o a ∧ Hd.hd o a ≤ m) → (∀ a b : Int, 1 ≤ a → a < b → b ≤ i → Hd.hd o a ≠ Hd.hd o b) → Ev (fun k => spec_OrderOk.l0 k o m i) (Hd.ordB o m) := by
 refine Hd.down ?_
 intro i hi ih h0 hr hd
 refine spec_OrderOk.l0.ev ?_
 by_cases hlt : i < o.length
 ·rw [rd_hd1 h0]
  refine Ev.pos hlt (Ev.pos h0 (Ev.bindv (spec_l1In_eq _ _ _) ?_))
  by_cases hin : 1 ≤ Hd.hd o (i + 1) ∧ Hd.hd o (i + 1) ≤ m
  ·refine Ev.pos (by simpa using hin) (spec_OrderOk_l1 hl h0 hlt (fun hno => ih hlt (by omega) (fun a k1 k2 => ?_) (fun a b k1 k2 k3 => ?_)) 0 h0 (by omega) (fun a k1 k2 => by omega))
   ·by_cases e : a = i + 1
    ·rw [e]; exact hin
    ·exact hr a k1 (by omega)
   ·by_cases e : b = i + 1
    ·rw [e]; exact hno a k1 (by omega)
    ·exact hd a b k1 k2 (by omega)
  ·refine Ev.neg (by simpa using hin) (Ev.ret (ordB_no fun h => hin ?_))
   have l := h.2.len
   have := h.2.rng (i + 1) (by omega) (by omega)
   omega
 ·refine Ev.neg hlt (Ev.bindv (spec_l1In_eq _ _ _) ?_)
  by_cases hm : 1 ≤ m ∧ m ≤ 8
  ·refine Ev.pos (by simpa using hm) (Ev.ret (bool_eq ?_))
   rw [beq_iff_eq, Hd.ordB_true]
   constructor
   ·intro e
    refine ⟨hm, by omega, fun a k1 k2 => ?_, fun a b k1 k2 k3 k4 e2 => ?_⟩
    ·have := hr a k1 (by omega)
     omega
    ·apply Classical.byContradiction
     intro hne
     by_cases hab : a < b
     ·exact hd a b k1 hab (by omega) e2
     ·exact hd b a k3 (by omega) (by omega) e2.symm
   ·rintro ⟨_, h⟩
    have := h.len
    omega
  ·exact Ev.neg (by simpa using hm) (Ev.ret (ordB_no fun h => hm h.1))
theorem spec_OrderOk_ev {o : List Int} (hl : o.length ≤ 1048600) (m : Int) : Ev (fun k => spec_OrderOk.f k o m) (Hd.ordB o m) := spec_OrderOk_l0 hl 0 (by omega) (by omega) (fun a k1 k2 => by omega) (fun a b k1 k2 k3 => by omega)

/-! spec_PutInOrder -/
theorem spec_PutInOrder.j0.ev {x0 : List Int} {x1 : List Int} {x19 : Bool} {r : List Int × Bool} (h : Ev (fun k => if x19 = true then (some ((([] : List Int)), false)) else (if 0 ≤ (wrap64 ((x0.length : Int) + 1)) then (if (wrap64 ((x0.length : Int) + 1) : Int).toNat ≤ 35184372088832 then (spec_PutInOrder.l0 k x0 x1 (List.replicate (wrap64 ((x0.length : Int) + 1) : Int).toNat 0) 0) else (none)) else (none))) r) : Ev (fun k => spec_PutInOrder.j0 k x0 x1 x19) r := Ev.step (fun _ => rfl) h
theorem spec_PutInOrder.l0.ev {x0 : List Int} {x1 : List Int} {x6 : List Int} {x7 : Int} {r : List Int × Bool} (h : Ev (fun k => if x7 < (x1.length : Int) then (if 0 ≤ x7 then (if 0 ≤ (rd x1 x7) then (if (rd x1 x7) < (x6.length : Int) then (spec_PutInOrder.l0 k x0 x1 (x6.set ((rd x1 x7) : Int).toNat (wrap64 (x7 + 1))) (wrap64 (x7 + 1))) else (none)) else (none)) else (none)) else (spec_PutInOrder.l1 k x0 x1 x6 (([] : List Int)) 0)) r) : Ev (fun k => spec_PutInOrder.l0 k x0 x1 x6 x7) r := Ev.step (fun _ => rfl) h
theorem spec_PutInOrder.l1.ev {x0 : List Int} {x1 : List Int} {x6 : List Int} {x8 : List Int} {x9 : Int} {r : List Int × Bool} (h : Ev (fun k => if x9 < (x1.length : Int) then (if 0 ≤ x9 then (if 0 ≤ (wrap64 ((rd x1 x9) - 1)) then (if (wrap64 ((rd x1 x9) - 1)) < (x0.length : Int) then (if 0 ≤ (rd x0 (wrap64 ((rd x1 x9) - 1))) then (if (rd x0 (wrap64 ((rd x1 x9) - 1))) < (x6.length : Int) then (if x8.length < 17592186044416 then (spec_PutInOrder.l1 k x0 x1 x6 (x8 ++ [rd x6 (rd x0 (wrap64 ((rd x1 x9) - 1)))]) (wrap64 (x9 + 1))) else (none)) else (none)) else (none)) else (none)) else (none)) else (none)) else (some (x8, true))) r) : Ev (fun k => spec_PutInOrder.l1 k x0 x1 x6 x8 x9) r := Ev.step (fun _ => rfl) h
theorem spec_PutInOrder_l1 {l o P : List Int} (t : Hd.T l) (O : Hd.Perm l.length o) (hP : P.length = l.length + 1) : ∀ i : Int, i ≤ l.length → 0 ≤ i →
  Ev (fun k => spec_PutInOrder.l1 k l o P (Hd.tab (fun a => rd P (Hd.hd l (Hd.hd o a))) i.toNat) i) (Hd.tab (fun a => rd P (Hd.hd l (Hd.hd o a))) l.length, true) := by
 have h8 := t.1
 have ol := O.len
 refine Hd.down ?_
 intro i hi ih h0
 refine spec_PutInOrder.l1.ev ?_
 by_cases hlt : i < l.length
 ·have next := ih hlt (by omega)
  rw [show (i + 1).toNat = i.toNat + 1 from by omega, Hd.tab, show ((i.toNat : Int) + 1) = i + 1 from by omega] at next
  have r := O.rng (i + 1) (by omega) (by omega)
  have lo := t.2.lo (Hd.hd o (i + 1))
  have hi2 := t.2.hi (Hd.hd o (i + 1))
  rw [rd_hd1 (l := o) h0, wid (x := Hd.hd o (i + 1) - 1) (by omega) (by omega), rd_hd r.1, wid (x := i + 1) (by omega) (by omega)]
  exact Ev.pos (by omega) (Ev.pos h0 (Ev.pos (by omega) (Ev.pos (by omega) (Ev.pos lo (Ev.pos (by omega) (Ev.pos (by rw [Hd.tab_length]; omega) next))))))
 ·refine Ev.neg (by omega) (Ev.ret ?_)
  rw [show i.toNat = l.length from by omega]
theorem spec_PutInOrder_l0 {l o : List Int} (t : Hd.T l) (O : Hd.Perm l.length o) : ∀ i : Int, i ≤ l.length → 0 ≤ i → ∀ P : List Int, P.length = l.length + 1 → rd P 0 = 0 → (∀ a : Int, 1 ≤ a → a ≤ i → rd P (Hd.hd o a) = a) →
  Ev (fun k => spec_PutInOrder.l0 k l o P i) (Hd.putL l o, true) := by
 have h8 := t.1
 have ol := O.len
 refine Hd.down ?_
 intro i hi ih h0 P hP hz hQ
 refine spec_PutInOrder.l0.ev ?_
 by_cases hlt : i < l.length
 ·have r := O.rng (i + 1) (by omega) (by omega)
  have e := ih hlt (by omega) (P.set (Hd.hd o (i + 1)).toNat (i + 1)) (by rw [List.length_set]; exact hP)
   (by rw [h_rd_set (by omega) (by omega) (by omega), if_neg (by omega)]; exact hz)
   (fun a h1 h2 => by
    have ra := O.rng a h1 (by omega)
    rw [h_rd_set (by omega) (by omega) (by omega)]
    by_cases e : a = i + 1
    ·rw [e, if_pos rfl]
    ·rw [if_neg fun e2 => e (O.inj a (i + 1) h1 (by omega) (by omega) (by omega) e2)]
     exact hQ a h1 (by omega))
  rw [rd_hd1 (l := o) h0, wid (x := i + 1) (by omega) (by omega)]
  exact Ev.pos (by omega) (Ev.pos h0 (Ev.pos (by omega) (Ev.pos (by omega) e)))
 ·have := spec_PutInOrder_l1 t O hP 0 (by omega) (by omega)
  rw [Hd.putL_eq t O hz (fun a h1 h2 => hQ a h1 (by omega))] at this
  exact Ev.neg (by omega) this
theorem spec_PutInOrder_ev {l o : List Int} (hl : o.length ≤ 1048600) : Ev (fun k => spec_PutInOrder.f k l o) (Hd.putL l o, Hd.putB l o) := by
 unfold spec_PutInOrder.f
 refine Ev.bind (spec_TreeOk_ev l) ?_
 have no : ¬ (Hd.T l ∧ Hd.Perm l.length o) → Ev (fun k => spec_PutInOrder.j0 k l o true) (Hd.putL l o, Hd.putB l o) := fun h => by
  refine spec_PutInOrder.j0.ev (Ev.pos rfl (Ev.ret ?_))
  have : Hd.putB l o = false := by
   cases hc : Hd.putB l o with
   | false => rfl
   | true => exact absurd (Hd.putB_true.1 hc) h
  rw [this, Hd.putL, if_neg h]
 by_cases t : Hd.T l
 ·have h8 := t.1
  have hp := t.2.pos
  refine Ev.pos (Hd.treeB_yes t) (Ev.bind (spec_OrderOk_ev hl _) ?_)
  by_cases hy : Hd.ordB o l.length = true
  ·have O := (Hd.ordB_true.1 hy).2
   rw [Int.toNat_natCast] at O
   rw [hy, Hd.putB_true.2 ⟨t, O⟩]
   refine spec_PutInOrder.j0.ev (Ev.neg (by simp) ?_)
   rw [wid (x := (l.length : Int) + 1) (by omega) (by omega), show ((l.length : Int) + 1).toNat = l.length + 1 from by omega]
   exact Ev.pos (by omega) (Ev.pos (by omega) (spec_PutInOrder_l0 t O 0 (by omega) (by omega) _ (by simp) (by simp [rd, List.replicate_succ]) (fun a h1 h2 => by omega)))
  ·rw [Bool.not_eq_true] at hy
   rw [hy]
   refine no fun h => ?_
   rw [Hd.ordB_true.2 ⟨by omega, by rw [Int.toNat_natCast]; exact h.2⟩] at hy
   cases hy
 ·exact Ev.neg (by rw [Hd.treeB_no t]; simp) (no fun h => t h.1)

/-! spec_l20Wild -/
theorem spec_l20Wild.j0.ev {x1 : Int} {x5 : List Int} {x17 : Bool} {x1000 : List Int} {x1001 : Int} {r : List Int × Int} (h : Ev (fun k => if x17 = true then ((spec_l20Order.f k x1000 x1001 (x5.length : Int)).bind fun bt289 => ((spec_PutInOrder.f k x5 bt289.1).bind fun bt293 => (some (bt293.1, bt289.2)))) else ((spec_l20Rd_pick.f k x1000 x1001 3).bind fun bt297 => (if bt297.1 = 0 then ((spec_l20Flat.f k x1000 bt297.2 x1).bind fun bt299 => (some (bt299.1, bt299.2))) else (some (x5, bt297.2))))) r) : Ev (fun k => spec_l20Wild.j0 k x1 x5 x17 x1000 x1001) r := Ev.step (fun _ => rfl) h
theorem spec_l20Wild_ev {b : List Int} (B : Bts b) {p : Int} (h0 : 0 ≤ p) (h1 : p ≤ 300000) (odd : Int) :
  ∃ (h : List Int) (q : Int), Ev (fun k => spec_l20Wild.f k b p odd) (h, q) ∧ h.length ≤ 9 ∧ p ≤ q ∧ q ≤ p + 2000 := by
 unfold spec_l20Wild.f
 obtain ⟨h, q, e, hl, q0, q1⟩ := spec_l20Tree_ev B h0 (by omega) odd
 obtain ⟨c, ec, _, _⟩ := spec_l20Rd_pick_ev B (p := q) (by omega) (by omega) 2
 have no : ∃ (h' : List Int) (q' : Int), Ev (fun k => spec_l20Wild.j0 k odd h false b (q + 1)) (h', q') ∧ h'.length ≤ 9 ∧ p ≤ q' ∧ q' ≤ p + 2000 := by
  obtain ⟨d, ed, _, _⟩ := spec_l20Rd_pick_ev B (p := q + 1) (by omega) (by omega) 3
  by_cases hd : d = 0
  ·obtain ⟨h', q', e', hl', a, b'⟩ := spec_l20Flat_ev B (p := q + 1 + 1) (by omega) (by omega) odd
   exact ⟨h', q', spec_l20Wild.j0.ev (Ev.neg (by simp) (Ev.bind ed (Ev.pos hd (Ev.bind e' (Ev.now _))))), hl', by omega, by omega⟩
  ·exact ⟨h, q + 1 + 1, spec_l20Wild.j0.ev (Ev.neg (by simp) (Ev.bind ed (Ev.neg hd (Ev.now _)))), hl, by omega, by omega⟩
 by_cases hc : c = 0
 ·by_cases ht : Hd.treeB h = true
  ·obtain ⟨o, q', eo, O, a, b'⟩ := spec_l20Order_ev B (p := q + 1) (by omega) (by omega) (many := (h.length : Int)) (by omega) (by omega)
   have ol := O.1
   have pl := Hd.putL_len h o
   refine ⟨Hd.putL h o, q', Ev.bind e (Ev.bind ec (Ev.pos hc (Ev.bind (spec_TreeOk_ev h) ?_))), by omega, by omega, by omega⟩
   rw [ht]
   exact spec_l20Wild.j0.ev (Ev.pos rfl (Ev.bind eo (Ev.bind (spec_PutInOrder_ev (o := o) (by omega)) (Ev.now _))))
  ·obtain ⟨h', q', e', hl', a, b'⟩ := no
   refine ⟨h', q', Ev.bind e (Ev.bind ec (Ev.pos hc (Ev.bind (spec_TreeOk_ev h) ?_))), hl', a, b'⟩
   rw [Bool.not_eq_true] at ht
   rw [ht]; exact e'
 ·obtain ⟨h', q', e', hl', a, b'⟩ := no
  exact ⟨h', q', Ev.bind e (Ev.bind ec (Ev.neg hc e')), hl', a, b'⟩

/-! spec_DrawTurnsOk -/

theorem spec_DrawTurnsOk_ev {l : List Int} (h : ∀ x ∈ l, (Lit.int .u8 x).wf = true) : ∃ (r : List Int) (a b : Int), Ev (fun k => spec_DrawTurnsOk.f k l) (r, a, b) := by
 obtain ⟨b, eb, B⟩ := spec_l20Open_eq h
 obtain ⟨r, q, e, hl, q0, q1⟩ := spec_l20Wild_ev B (p := 0) (by omega) (by omega) 12
 obtain ⟨c, ec, _, _⟩ := spec_l20Rd_pick_ev B (p := q) (by omega) (by omega) 3
 unfold spec_DrawTurnsOk.f
 by_cases hc : c = 0
 ·obtain ⟨i, ei, i0, i1⟩ := spec_l20Rd_pick_ev B (p := q + 1) (by omega) (by omega) 4
  have i1 := i1 (by omega)
  obtain ⟨d, ed, _, _⟩ := spec_l20Rd_pick_ev B (p := q + 1 + 1) (by omega) (by omega) 3
  by_cases hd : d > 0
  ·exact ⟨_, _, _, Ev.bindv eb (Ev.bind e (Ev.bind ec (Ev.pos hc (Ev.bind ei (Ev.bindv rfl (Ev.pos i0 (Ev.pos (by simpa using i1) (Ev.bind ed (Ev.pos hd (Ev.bindv rfl (Ev.pos (by simpa using i1) (Ev.bindv rfl (Ev.pos (by simpa using i1) (Ev.now _))))))))))))))⟩
  ·obtain ⟨u, eu, _, _⟩ := spec_l20Rd_pick_ev B (p := q + 1 + 1 + 1) (by omega) (by omega) (wrap64 (((rd_L2 [[5, 5, 1, 2, 0], [0, 1, 1, 2, 3], [6, 6, 1, 2, 1, 0], [3, 4, 0, 3, 1, 2]] i).length : Int) + 1))
   obtain ⟨v, ev, _, _⟩ := spec_l20Rd_pick_ev B (p := q + 1 + 1 + 1 + 1) (by omega) (by omega) (wrap64 (((rd_L2 [[5, 5, 1, 2, 0], [0, 1, 1, 2, 3], [6, 6, 1, 2, 1, 0], [3, 4, 0, 3, 1, 2]] i).length : Int) + 2))
   exact ⟨_, _, _, Ev.bindv eb (Ev.bind e (Ev.bind ec (Ev.pos hc (Ev.bind ei (Ev.bindv rfl (Ev.pos i0 (Ev.pos (by simpa using i1) (Ev.bind ed (Ev.neg hd (Ev.bind eu (Ev.bind ev (Ev.now _))))))))))))⟩
 ·obtain ⟨u, eu, _, _⟩ := spec_l20Rd_pick_ev B (p := q + 1) (by omega) (by omega) (wrap64 ((r.length : Int) + 1))
  obtain ⟨v, ev, _, _⟩ := spec_l20Rd_pick_ev B (p := q + 1 + 1) (by omega) (by omega) (wrap64 ((r.length : Int) + 2))
  exact ⟨_, _, _, Ev.bindv eb (Ev.bind e (Ev.bind ec (Ev.neg hc (Ev.bind eu (Ev.bind ev (Ev.now _))))))⟩

/-! impl_steps -/
theorem impl_steps.l0.ev {x0 : List Int} {x1 : Int} {x7 : Int} {x8 : Int} {r : Int} (h : Ev (fun k => if x8 < x7 then (if 0 ≤ (wrap64 (x1 - 1)) then (if (wrap64 (x1 - 1)) < (x0.length : Int) then (if (rd x0 (wrap64 (x1 - 1))) = 0 then (some x8) else (impl_steps.l0 k x0 (rd x0 (wrap64 (x1 - 1))) x7 (wrap64 (x8 + 1)))) else (none)) else (none)) else (some (-1))) r) : Ev (fun k => impl_steps.l0 k x0 x1 x7 x8) r := Ev.step (fun _ => rfl) h
theorem impl_steps_l0 {l : List Int} (v : Hd.Vals l) (h8 : l.length ≤ 8) : ∀ (d : Nat) (m w : Int), 0 ≤ m → m + d = l.length → 1 ≤ w → w ≤ l.length →
  Ev (fun k => impl_steps.l0 k l w l.length m) (if Hd.it (Hd.hd l) d w = 0 then m + Hd.depF (Hd.hd l) d w else -1)
 | 0, m, w, h0, hd, h1, h2 => by
  refine impl_steps.l0.ev ?_
  rw [if_neg (show ¬ Hd.it (Hd.hd l) 0 w = 0 from fun e => by have : w = 0 := e; omega)]
  exact Ev.neg (by omega) (Ev.now _)
 | d + 1, m, w, h0, hd, h1, h2 => by
  refine impl_steps.l0.ev ?_
  rw [wid (x := w - 1) (by omega) (by omega), wid (x := m + 1) (by omega) (by omega), rd_hd h1]
  refine Ev.pos (by omega) (Ev.pos (by omega) (Ev.pos (by omega) ?_))
  by_cases hz : Hd.hd l w = 0
  ·refine Ev.pos hz (Ev.ret ?_)
   have : Hd.it (Hd.hd l) (d + 1) w = 0 := by show Hd.it (Hd.hd l) d (Hd.hd l w) = 0; rw [hz]; exact Hd.it_zero (Hd.hd_zero l) d
   rw [if_pos this, Hd.depF, if_pos hz]; simp
  ·refine Ev.neg hz ?_
   have := v w h1 h2
   have ih := impl_steps_l0 v h8 d (m + 1) (Hd.hd l w) (by omega) (by omega) (by omega) (by omega)
   have e : Hd.it (Hd.hd l) (d + 1) w = Hd.it (Hd.hd l) d (Hd.hd l w) := rfl
   rw [e, Hd.depF, if_neg hz]
   have e2 : m + ((Hd.depF (Hd.hd l) d (Hd.hd l w) + 1 : Nat) : Int) = m + 1 + (Hd.depF (Hd.hd l) d (Hd.hd l w) : Nat) := by omega
   rw [e2]; exact ih
theorem impl_steps_ev {l : List Int} (v : Hd.Vals l) (h8 : l.length ≤ 8) {w : Int} (h1 : 1 ≤ w) (h2 : w ≤ l.length) :
  Ev (fun k => impl_steps.f k l w) (if Hd.it (Hd.hd l) l.length w = 0 then (Hd.depF (Hd.hd l) l.length w : Int) else -1) := by
 have := impl_steps_l0 v h8 l.length 0 w (by omega) (by omega) h1 h2
 simp only [Int.zero_add] at this
 exact this

/-! impl_TreeOk -/
theorem impl_TreeOk.j0.ev {x0 : List Int} {x14 : Bool} {r : Bool} (h : Ev (fun k => if x14 = true then (some false) else (impl_TreeOk.l0 k x0 0 x0 (x0.length : Int) 0)) r) : Ev (fun k => impl_TreeOk.j0 k x0 x14) r := Ev.step (fun _ => rfl) h
theorem impl_TreeOk.l0.ev {x0 : List Int} {x3 : Int} {x15 : List Int} {x16 : Int} {x17 : Int} {r : Bool} (h : Ev (fun k => if x17 < x16 then (if 0 ≤ x17 then (if x17 < (x15.length : Int) then (if (rd x15 x17) < 0 then (impl_TreeOk.j2 k x0 x3 (rd x15 x17) x15 x16 x17 true) else (impl_TreeOk.j2 k x0 x3 (rd x15 x17) x15 x16 x17 (decide ((rd x15 x17) > (x0.length : Int))))) else (none)) else (none)) else (impl_TreeOk.l1 k x0 x3 (x0.length : Int) 0)) r) : Ev (fun k => impl_TreeOk.l0 k x0 x3 x15 x16 x17) r := Ev.step (fun _ => rfl) h
theorem impl_TreeOk.j2.ev {x0 : List Int} {x3 : Int} {x5 : Int} {x15 : List Int} {x16 : Int} {x17 : Int} {x28 : Bool} {r : Bool} (h : Ev (fun k => if x28 = true then (some false) else (if x5 = 0 then (impl_TreeOk.l0 k x0 (wrap64 (x3 + 1)) x15 x16 (wrap64 (x17 + 1))) else (impl_TreeOk.l0 k x0 x3 x15 x16 (wrap64 (x17 + 1))))) r) : Ev (fun k => impl_TreeOk.j2 k x0 x3 x5 x15 x16 x17 x28) r := Ev.step (fun _ => rfl) h
theorem impl_TreeOk.l1.ev {x0 : List Int} {x3 : Int} {x35 : Int} {x36 : Int} {r : Bool} (h : Ev (fun k => if x36 < x35 then ((impl_steps.f k x0 (wrap64 (x36 + 1))).bind fun t350 => (if t350 < 0 then (some false) else (impl_TreeOk.l1 k x0 x3 x35 (wrap64 (x36 + 1))))) else (some (x3 == 1))) r) : Ev (fun k => impl_TreeOk.l1 k x0 x3 x35 x36) r := Ev.step (fun _ => rfl) h
theorem impl_TreeOk_l1 {l : List Int} (v : Hd.Vals l) (h8 : l.length ≤ 8) {c : Int} (hc : c = Hd.zeros l l.length) : ∀ i : Int, i ≤ l.length → 0 ≤ i → (∀ a : Int, 1 ≤ a → a ≤ i → Hd.it (Hd.hd l) l.length a = 0) →
  Ev (fun k => impl_TreeOk.l1 k l c l.length i) (Hd.treeB l) := by
 refine Hd.down ?_
 intro i hi ih h0 hb
 refine impl_TreeOk.l1.ev ?_
 by_cases hlt : i < l.length
 ·rw [wid (x := i + 1) (by omega) (by omega)]
  refine Ev.pos hlt (Ev.bind (impl_steps_ev v h8 (by omega) (by omega)) ?_)
  by_cases hz : Hd.it (Hd.hd l) l.length (i + 1) = 0
  ·rw [if_pos hz]
   refine Ev.neg (by omega) (ih hlt (by omega) fun a h1 h2 => ?_)
   by_cases e : a = i + 1
   ·rw [e]; exact hz
   ·exact hb a h1 (by omega)
  ·rw [if_neg hz, Hd.treeB_no (fun t => hz (t.2.back _ (by omega) (by omega)))]
   exact Ev.pos (by omega) (Ev.now _)
 ·refine Ev.neg hlt (Ev.ret ?_)
  have t := Hd.T_iff h8 v (fun a h1 h2 => hb a h1 (by omega))
  by_cases e : Hd.zeros l l.length = 1
  ·rw [Hd.treeB_yes (t.2 e), hc, e]; rfl
  ·rw [Hd.treeB_no (fun x => e (t.1 x)), hc]; simp; omega
theorem impl_TreeOk_l0 {l : List Int} (h8 : l.length ≤ 8) : ∀ i : Int, i ≤ l.length → 0 ≤ i → (∀ a : Int, 1 ≤ a → a ≤ i → 0 ≤ Hd.hd l a ∧ Hd.hd l a ≤ l.length) →
  Ev (fun k => impl_TreeOk.l0 k l (Hd.zeros l i.toNat) l l.length i) (Hd.treeB l) := by
 refine Hd.down ?_
 intro i hi ih h0 hb
 refine impl_TreeOk.l0.ev ?_
 by_cases hlt : i < l.length
 ·have hz := Hd.cnt_le (fun a => decide (Hd.hd l a = 0)) i.toNat
  have hzz : Hd.zeros l (i + 1).toNat = Hd.zeros l i.toNat + if Hd.hd l (i + 1) = 0 then 1 else 0 := by
   rw [show (i + 1).toNat = i.toNat + 1 from by omega]
   show Hd.cnt _ (i.toNat + 1) = _
   rw [Hd.cnt, show ((i.toNat : Int) + 1) = i + 1 from by omega]
   simp [Hd.zeros]
  have hz' : Hd.zeros l i.toNat ≤ i.toNat := hz
  rw [rd_hd1 h0]
  refine Ev.pos hlt (Ev.pos h0 (Ev.pos hlt ?_))
  have no : ¬ (0 ≤ Hd.hd l (i + 1) ∧ Hd.hd l (i + 1) ≤ l.length) → Hd.treeB l = false := fun hn => Hd.treeB_no fun t => hn (t.vals _ (by omega) (by omega))
  by_cases hneg : Hd.hd l (i + 1) < 0
  ·refine Ev.pos hneg (impl_TreeOk.j2.ev (Ev.pos rfl (Ev.ret ?_)))
   rw [no (by omega)]
  ·refine Ev.neg hneg (impl_TreeOk.j2.ev ?_)
   by_cases hbig : Hd.hd l (i + 1) > l.length
   ·refine Ev.pos (by simpa using hbig) (Ev.ret ?_)
    rw [no (by omega)]
   ·refine Ev.neg (by simpa using hbig) ?_
    rw [wid (x := (Hd.zeros l i.toNat : Int) + 1) (by omega) (by omega), wid (x := i + 1) (by omega) (by omega)]
    have next := ih hlt (by omega) (fun a h1 h2 => by
     by_cases e : a = i + 1
     ·rw [e]; omega
     ·exact hb a h1 (by omega))
    rw [hzz] at next
    by_cases h00 : Hd.hd l (i + 1) = 0
    ·rw [if_pos h00] at next
     exact Ev.pos h00 next
    ·rw [if_neg h00] at next
     exact Ev.neg h00 next
 ·refine Ev.neg hlt ?_
  have e : i.toNat = l.length := by omega
  rw [e]
  exact impl_TreeOk_l1 (fun a h1 h2 => hb a h1 (by omega)) h8 rfl 0 (by omega) (by omega) (fun a h1 h2 => by omega)
theorem impl_TreeOk_ev (l : List Int) : Ev (fun k => impl_TreeOk.f k l) (Hd.treeB l) := by
 unfold impl_TreeOk.f
 by_cases h1 : (l.length : Int) < 1
 ·refine Ev.pos h1 (impl_TreeOk.j0.ev (Ev.pos rfl (Ev.ret ?_)))
  exact (Hd.treeB_no fun t => by have := t.2.pos; omega).symm
 ·refine Ev.neg h1 (impl_TreeOk.j0.ev ?_)
  by_cases h8 : (l.length : Int) > 8
  ·refine Ev.pos (by simpa using h8) (Ev.ret ?_)
   exact (Hd.treeB_no fun t => by have := t.1; omega).symm
  ·refine Ev.neg (by simpa using h8) ?_
   exact impl_TreeOk_l0 (by omega) 0 (by omega) (by omega) (fun a h1 h2 => by omega)

/-! impl_isWord -/

theorem impl_isWord_ev (l : List Int) (a : Int) : Ev (fun k => impl_isWord.f k l a) (wordB l a) := by
 unfold impl_isWord.f
 refine Ev.bind (impl_TreeOk_ev l) ?_
 unfold wordB
 by_cases ht : Hd.treeB l = true
 ·refine Ev.pos ht ?_
  rw [ht]
  by_cases h1 : a ≥ 1
  ·refine Ev.pos h1 (Ev.ret (bool_eq ?_)); simp; omega
  ·refine Ev.neg h1 (Ev.ret (bool_eq ?_)); simp; omega
 ·refine Ev.neg ht (Ev.ret ?_)
  rw [Bool.not_eq_true] at ht
  rw [ht]; rfl

/-! impl_under -/
theorem impl_under.l0.ev {x0 : List Int} {x1 : Int} {x2 : Int} {r : Bool} (h : Ev (fun k => if x1 = 0 then (some (x1 == x2)) else (if x1 = x2 then (some (x1 == x2)) else (if 0 ≤ (wrap64 (x1 - 1)) then (if (wrap64 (x1 - 1)) < (x0.length : Int) then (impl_under.l0 k x0 (rd x0 (wrap64 (x1 - 1))) x2) else (none)) else (none)))) r) : Ev (fun k => impl_under.l0 k x0 x1 x2) r := Ev.step (fun _ => rfl) h
theorem impl_under_l0 {l : List Int} (t : Hd.T l) (b : Int) : ∀ (k : Nat) (a : Int), 0 ≤ a → a ≤ l.length → Hd.it (Hd.hd l) k a = 0 → Ev (fun j => impl_under.l0 j l a b) (Hd.undB l a b)
 | k, a, h1, h2, e => by
  refine impl_under.l0.ev ?_
  by_cases hz : a = 0
  ·subst hz
   refine Ev.pos rfl (Ev.ret (bool_eq ?_))
   rw [Hd.undB_true]; simp
   constructor
   ·rintro rfl; exact Hd.Und.refl _ _
   ·intro u; exact (t.2.und_zero u).symm
  ·refine Ev.neg hz ?_
   by_cases hab : a = b
   ·refine Ev.pos hab (Ev.ret (bool_eq ?_))
    rw [Hd.undB_true]; simp [hab]
    exact Hd.Und.refl _ _
   ·refine Ev.neg hab ?_
    rw [wid (x := a - 1) (by omega) (by have := t.1; omega), rd_hd (by omega)]
    refine Ev.pos (by omega) (Ev.pos (by omega) ?_)
    match k, e with
    | 0, e => exact absurd e hz
    | k + 1, e =>
     have ih := impl_under_l0 t b k (Hd.hd l a) (t.2.lo a) (t.2.hi a) e
     have : Hd.undB l a b = Hd.undB l (Hd.hd l a) b := bool_eq (by
      rw [Hd.undB_true, Hd.undB_true]
      exact ⟨fun u => u.cases.elim (fun e => absurd e hab) id, fun u => u.up⟩)
     rw [this]; exact ih
theorem impl_under_ev {l : List Int} (t : Hd.T l) {a : Int} (h1 : 1 ≤ a) (h2 : a ≤ l.length) (b : Int) : Ev (fun k => impl_under.f k l a b) (Hd.undB l a b) :=
 impl_under_l0 t b l.length a (by omega) h2 (t.2.back a h1 h2)

/-! impl_TurnsOk -/
theorem impl_TurnsOk.j0.ev {x0 : List Int} {x1 : Int} {x2 : Int} {x33 : Bool} {r : Bool} (h : Ev (fun k => if x33 = true then (some false) else (impl_TurnsOk.l0 k x0 x1 x2 0 0 (x0.length : Int) 0)) r) : Ev (fun k => impl_TurnsOk.j0 k x0 x1 x2 x33) r := Ev.step (fun _ => rfl) h
theorem impl_TurnsOk.l0.ev {x0 : List Int} {x1 : Int} {x2 : Int} {x7 : Int} {x8 : Int} {x35 : Int} {x36 : Int} {r : Bool} (h : Ev (fun k => if x36 < x35 then ((some (([x1, x2] : List Int) : List Int)).bind fun y357 => (impl_TurnsOk.l1 k x0 x1 x2 x7 x8 x36 x35 x36 y357 (y357.length : Int) 0)) else (some (decide (x7 ≥ 3)))) r) : Ev (fun k => impl_TurnsOk.l0 k x0 x1 x2 x7 x8 x35 x36) r := Ev.step (fun _ => rfl) h
theorem impl_TurnsOk.l1.ev {x0 : List Int} {x1 : Int} {x2 : Int} {x7 : Int} {x8 : Int} {x9 : Int} {x35 : Int} {x36 : Int} {x41 : List Int} {x42 : Int} {x43 : Int} {r : Bool} (h : Ev (fun k => if x43 < x42 then (if 0 ≤ x43 then (if x43 < (x41.length : Int) then ((impl_under.f k x0 (wrap64 (x9 + 1)) (rd x41 x43)).bind fun t361 => (if t361 = true then (if x8 = 0 then (impl_TurnsOk.l1 k x0 x1 x2 x7 (rd x41 x43) x9 x35 x36 x41 x42 (wrap64 (x43 + 1))) else (if x8 = (rd x41 x43) then (impl_TurnsOk.l1 k x0 x1 x2 x7 (rd x41 x43) x9 x35 x36 x41 x42 (wrap64 (x43 + 1))) else (impl_TurnsOk.l1 k x0 x1 x2 (wrap64 (x7 + 1)) (rd x41 x43) x9 x35 x36 x41 x42 (wrap64 (x43 + 1))))) else (impl_TurnsOk.l1 k x0 x1 x2 x7 x8 x9 x35 x36 x41 x42 (wrap64 (x43 + 1))))) else (none)) else (none)) else (impl_TurnsOk.l0 k x0 x1 x2 x7 x8 x35 (wrap64 (x36 + 1)))) r) : Ev (fun k => impl_TurnsOk.l1 k x0 x1 x2 x7 x8 x9 x35 x36 x41 x42 x43) r := Ev.step (fun _ => rfl) h
theorem impl_TurnsOk_l0 {l : List Int} (t : Hd.T l) {a b : Int} (ha : 1 ≤ a ∧ a ≤ (l.length : Int)) (hb : 1 ≤ b ∧ b ≤ (l.length : Int)) (dis : ∀ x : Int, 1 ≤ x → x ≤ l.length → ¬ (Hd.undB l x a = true ∧ Hd.undB l x b = true)) :
  ∀ i : Int, i ≤ l.length → 0 ≤ i → ∀ turns last : Int,
  ((tnS (fun x => Hd.undB l x a) (fun x => Hd.undB l x b) i.toNat).1 = 0 ∧ last = 0 ∧ turns = (tnS (fun x => Hd.undB l x a) (fun x => Hd.undB l x b) i.toNat).2) ∨
  ((tnS (fun x => Hd.undB l x a) (fun x => Hd.undB l x b) i.toNat).1 = 1 ∧ last = a ∧ turns + 1 = (tnS (fun x => Hd.undB l x a) (fun x => Hd.undB l x b) i.toNat).2) ∨
  ((tnS (fun x => Hd.undB l x a) (fun x => Hd.undB l x b) i.toNat).1 = 2 ∧ last = b ∧ turns + 1 = (tnS (fun x => Hd.undB l x a) (fun x => Hd.undB l x b) i.toNat).2) →
  Ev (fun k => impl_TurnsOk.l0 k l a b turns last l.length i) (decide ((tnS (fun x => Hd.undB l x a) (fun x => Hd.undB l x b) l.length).2 ≥ 4)) := by
 have h8 := t.1
 have hab : a ≠ b := fun e => dis a ha.1 ha.2 ⟨Hd.undB_true.2 (Hd.Und.refl _ _), by rw [e]; exact Hd.undB_true.2 (Hd.Und.refl _ _)⟩
 refine Hd.down ?_
 intro i hi ih h0 turns last st
 refine impl_TurnsOk.l0.ev ?_
 have bd := tnS_bd (fun x => Hd.undB l x a) (fun x => Hd.undB l x b) i.toNat
 by_cases hlt : i < l.length
 ·have next := ih hlt (by omega)
  rw [show (i + 1).toNat = i.toNat + 1 from by omega, tnS, show ((i.toNat : Int) + 1) = i + 1 from by omega] at next
  generalize tnS (fun x => Hd.undB l x a) (fun x => Hd.undB l x b) i.toNat = s at *
  have r0 : rd [a, b] 0 = a := rfl
  have r1 : rd [a, b] 1 = b := rfl
  refine Ev.pos hlt (Ev.bindv rfl (impl_TurnsOk.l1.ev ?_))
  rw [wid (x := i + 1) (by omega) (by omega), wid (x := 0 + 1) (by omega) (by omega), wid (x := turns + 1) (by omega) (by omega), r0]
  refine Ev.pos (by simp) (Ev.pos (by omega) (Ev.pos (by simp) (Ev.bind (impl_under_ev t (by omega) (by omega) a) ?_)))
  have two : ∀ turns' last' : Int, 0 ≤ turns' → turns' ≤ 100 → (¬ Hd.undB l (i + 1) b = true → Ev (fun k => impl_TurnsOk.l0 k l a b turns' last' l.length (i + 1)) (decide ((tnS (fun x => Hd.undB l x a) (fun x => Hd.undB l x b) l.length).2 ≥ 4))) →
    (Hd.undB l (i + 1) b = true → Ev (fun k => impl_TurnsOk.l0 k l a b (if last' = 0 ∨ last' = b then turns' else turns' + 1) b l.length (i + 1)) (decide ((tnS (fun x => Hd.undB l x a) (fun x => Hd.undB l x b) l.length).2 ≥ 4))) →
    Ev (fun k => impl_TurnsOk.l1 k l a b turns' last' i l.length i [a, b] ([a, b] : List Int).length (0 + 1)) (decide ((tnS (fun x => Hd.undB l x a) (fun x => Hd.undB l x b) l.length).2 ≥ 4)) := by
   intro turns' last' k0 k1 hno hyes
   have stop : ∀ u v : Int, Ev (fun k => impl_TurnsOk.l0 k l a b u v l.length (i + 1)) (decide ((tnS (fun x => Hd.undB l x a) (fun x => Hd.undB l x b) l.length).2 ≥ 4)) → Ev (fun k => impl_TurnsOk.l1 k l a b u v i l.length i [a, b] ([a, b] : List Int).length (0 + 1 + 1)) (decide ((tnS (fun x => Hd.undB l x a) (fun x => Hd.undB l x b) l.length).2 ≥ 4)) := by
    intro u v e
    refine impl_TurnsOk.l1.ev (Ev.neg (by simp) ?_)
    rw [wid (x := i + 1) (by omega) (by omega)]
    exact e
   refine impl_TurnsOk.l1.ev ?_
   rw [wid (x := i + 1) (by omega) (by omega), wid (x := (0 : Int) + 1 + 1) (by omega) (by omega), wid (x := turns' + 1) (by omega) (by omega), show rd [a, b] (0 + 1) = b from rfl]
   refine Ev.pos (by simp) (Ev.pos (by omega) (Ev.pos (by simp) (Ev.bind (impl_under_ev t (by omega) (by omega) b) ?_)))
   by_cases hb2 : Hd.undB l (i + 1) b = true
   ·have hy := hyes hb2
    refine Ev.pos hb2 ?_
    by_cases z0 : last' = 0
    ·rw [if_pos (.inl z0)] at hy
     exact Ev.pos z0 (stop _ _ hy)
    ·refine Ev.neg z0 ?_
     by_cases z1 : last' = b
     ·rw [if_pos (.inr z1)] at hy
      exact Ev.pos z1 (stop _ _ hy)
     ·rw [if_neg (by omega)] at hy
      exact Ev.neg z1 (stop _ _ hy)
   ·exact Ev.neg hb2 (stop _ _ (hno hb2))
  by_cases hp : Hd.undB l (i + 1) a = true
  ·have hq : ¬ Hd.undB l (i + 1) b = true := fun hq => dis _ (by omega) (by omega) ⟨hp, hq⟩
   rw [if_pos hp] at next
   refine Ev.pos hp ?_
   by_cases z0 : last = 0
   ·refine Ev.pos z0 (two _ _ (by omega) (by omega) (fun _ => next _ _ ?_) (fun h => absurd h hq))
    rw [if_neg (by omega)]
    exact .inr (.inl ⟨rfl, rfl, by simp only; omega⟩)
   ·refine Ev.neg z0 ?_
    by_cases z1 : last = a
    ·refine Ev.pos z1 (two _ _ (by omega) (by omega) (fun _ => next _ _ ?_) (fun h => absurd h hq))
     rw [if_pos (by omega)]
     omega
    ·refine Ev.neg z1 (two _ _ (by omega) (by omega) (fun _ => next _ _ ?_) (fun h => absurd h hq))
     rw [if_neg (by omega)]
     exact .inr (.inl ⟨rfl, rfl, by simp only; omega⟩)
  ·rw [if_neg hp] at next
   refine Ev.neg hp (two _ _ (by omega) (by omega) (fun hq => next _ _ ?_) (fun hq => next _ _ ?_))
   ·rw [if_neg hq]; exact st
   ·rw [if_pos hq]
    by_cases z : s.1 = 2
    ·rw [if_pos z, if_pos (by omega)]; omega
    ·rw [if_neg z]
     by_cases z0 : last = 0
     ·rw [if_pos (.inl z0)]; exact .inr (.inr ⟨rfl, rfl, by simp only; omega⟩)
     ·rw [if_neg (by omega)]; exact .inr (.inr ⟨rfl, rfl, by simp only; omega⟩)
 ·refine Ev.neg hlt (Ev.ret (decide_eq_decide.2 ?_))
  rw [show i.toNat = l.length from by omega] at *
  omega
theorem impl_TurnsOk_ev (l : List Int) (a b : Int) : Ev (fun k => impl_TurnsOk.f k l a b) (turnsB l a b) := by
 unfold impl_TurnsOk.f
 refine Ev.bind (impl_isWord_ev l a) ?_
 have no : ¬ (wordB l a = true ∧ wordB l b = true ∧ ¬ Hd.Und (Hd.hd l) a b ∧ ¬ Hd.Und (Hd.hd l) b a) → Ev (fun k => impl_TurnsOk.j0 k l a b true) (turnsB l a b) := fun h => impl_TurnsOk.j0.ev (Ev.pos rfl (Ev.ret (by
  cases hc : turnsB l a b with
  | false => rfl
  | true => have := turnsB_true.1 hc; exact absurd ⟨wordB_true.2 ⟨this.1, this.2.1⟩, wordB_true.2 ⟨this.1, this.2.2.1⟩, this.2.2.2.1, this.2.2.2.2.1⟩ h)))
 by_cases ha : wordB l a = true
 ·refine Ev.pos ha (Ev.bind (impl_isWord_ev l b) ?_)
  by_cases hb : wordB l b = true
  ·have h1 := wordB_true.1 ha
   have h2 := wordB_true.1 hb
   refine Ev.pos hb (Ev.bind (impl_under_ev h1.1 h1.2.1 h1.2.2 b) ?_)
   by_cases u1 : Hd.undB l a b = true
   ·exact Ev.pos u1 (no fun h => h.2.2.1 (Hd.undB_true.1 u1))
   ·refine Ev.neg u1 (Ev.bind (impl_under_ev h1.1 h2.2.1 h2.2.2 a) ?_)
    by_cases u2 : Hd.undB l b a = true
    ·rw [u2]
     exact no fun h => h.2.2.2 (Hd.undB_true.1 u2)
    ·rw [Bool.not_eq_true] at u1 u2
     rw [u2]
     refine impl_TurnsOk.j0.ev (Ev.neg (by simp) ?_)
     have ap : ¬ Hd.Und (Hd.hd l) a b ∧ ¬ Hd.Und (Hd.hd l) b a := ⟨Hd.undB_false.1 u1, Hd.undB_false.1 u2⟩
     have e : turnsB l a b = decide ((tnS (fun x => Hd.undB l x a) (fun x => Hd.undB l x b) l.length).2 ≥ 4) := bool_eq (by
      rw [turnsB_true, decide_eq_true_eq]
      exact ⟨fun h => h.2.2.2.2.2, fun h => ⟨h1.1, h1.2, h2.2, ap.1, ap.2, h⟩⟩)
     rw [e]
     exact impl_TurnsOk_l0 h1.1 h1.2 h2.2 ((apart_iff h1.1 h1.2 h2.2).2 ap) 0 (by omega) (by omega) 0 0 (.inl ⟨rfl, rfl, rfl⟩)
  ·exact Ev.neg hb (no fun h => hb h.2.1)
 ·exact Ev.neg ha (no fun h => ha h.1)

/-! spec_l2Yield -/
theorem spec_l2Yield.l0.ev {x0 : List Int} {x1 : Int} {x5 : Int} {x6 : Int} {r : Int} (h : Ev (fun k => if x6 < (x0.length : Int) then (if 0 ≤ x6 then (if (rd x0 x6) = x1 then ((spec_l2Yield.f k x0 (wrap64 (x6 + 1))).bind fun t363 => (spec_l2Yield.l0 k x0 x1 (Go.bits .or .i64 x5 t363) (wrap64 (x6 + 1)))) else (spec_l2Yield.l0 k x0 x1 x5 (wrap64 (x6 + 1)))) else (none)) else (some x5)) r) : Ev (fun k => spec_l2Yield.l0 k x0 x1 x5 x6) r := Ev.step (fun _ => rfl) h
theorem spec_l2Yield.f.ev {l0 : List Int} {a1 : Int} {r : Int} (h : Ev (fun k => if 0 ≤ (wrap64 (a1 - 1)) then (spec_l2Yield.l0 k l0 a1 (shl .i64 1 (wrap64 (a1 - 1))) 0) else (none)) r) : Ev (fun k => spec_l2Yield.f k l0 a1) r := Ev.step (fun _ => rfl) h
theorem spec_l2Yield_l0 {l : List Int} (t : Hd.T l) {w : Int} (hw : 1 ≤ w ∧ w ≤ l.length)
  (rec : ∀ c : Int, 1 ≤ c → c ≤ l.length → Hd.hd l c = w → Ev (fun k => spec_l2Yield.f k l c) (Hd.ybits l c : Int)) :
  ∀ i : Int, i ≤ l.length → 0 ≤ i → ∀ q : Int → Bool, (∀ x, q x = true ↔ x = w ∨ ∃ c, (1 ≤ c ∧ c ≤ i) ∧ Hd.hd l c = w ∧ Hd.Und (Hd.hd l) x c) →
  Ev (fun k => spec_l2Yield.l0 k l w (Hd.ysum q l.length : Int) i) (Hd.ybits l w : Int) := by
 refine Hd.down ?_
 intro i hi ih h0 q hq
 have h8 := t.1
 refine spec_l2Yield.l0.ev ?_
 by_cases hlt : i < l.length
 ·rw [wid (x := i + 1) (by omega) (by omega), rd_hd1 h0]
  refine Ev.pos hlt (Ev.pos h0 ?_)
  by_cases hc : Hd.hd l (i + 1) = w
  ·refine Ev.pos hc (Ev.bind (rec (i + 1) (by omega) (by omega) hc) ?_)
   unfold Hd.ybits at *
   rw [h_or_i64 (Hd.ysum_le h8) (Hd.ysum_le h8), Hd.ysum_or]
   refine ih hlt (by omega) _ fun x => ?_
   rw [Bool.or_eq_true, hq, Hd.undB_true]
   constructor
   ·rintro ((e | ⟨c, h1, h2, h3⟩) | u)
    ·exact .inl e
    ·exact .inr ⟨c, ⟨h1.1, by omega⟩, h2, h3⟩
    ·exact .inr ⟨i + 1, ⟨by omega, by omega⟩, hc, u⟩
   ·rintro (e | ⟨c, h1, h2, h3⟩)
    ·exact .inl (.inl e)
    ·by_cases e : c = i + 1
     ·subst e; exact .inr h3
     ·exact .inl (.inr ⟨c, ⟨h1.1, by omega⟩, h2, h3⟩)
  ·refine Ev.neg hc (ih hlt (by omega) q fun x => ?_)
   rw [hq]
   constructor
   ·rintro (e | ⟨c, h1, h2, h3⟩)
    ·exact .inl e
    ·exact .inr ⟨c, ⟨h1.1, by omega⟩, h2, h3⟩
   ·rintro (e | ⟨c, h1, h2, h3⟩)
    ·exact .inl e
    ·by_cases e : c = i + 1
     ·subst e; exact absurd h2 hc
     ·exact .inr ⟨c, ⟨h1.1, by omega⟩, h2, h3⟩
 ·refine Ev.neg hlt (Ev.ret ?_)
  unfold Hd.ybits
  congr 1
  refine Hd.ysum_congr fun a h1 h2 => bool_eq ?_
  rw [hq, Hd.undB_true, Hd.und_child t.2 hw]
  constructor
  ·rintro (e | ⟨c, h1, h2, h3⟩)
   ·exact .inl e
   ·exact .inr ⟨c, ⟨h1.1, by omega⟩, h2, h3⟩
  ·rintro (e | ⟨c, h1, h2, h3⟩)
   ·exact .inl e
   ·exact .inr ⟨c, ⟨h1.1, by omega⟩, h2, h3⟩
theorem spec_l2Yield_all {l : List Int} (t : Hd.T l) : ∀ (d : Nat) (w : Int), 1 ≤ w → w ≤ l.length → l.length ≤ d + Hd.dep l.length (Hd.hd l) w → Ev (fun k => spec_l2Yield.f k l w) (Hd.ybits l w : Int)
 | 0, w, h1, h2, h3 => by have := t.2.dep_lt ⟨h1, h2⟩; omega
 | d + 1, w, h1, h2, h3 => by
  have h8 := t.1
  refine spec_l2Yield.f.ev ?_
  rw [wid (x := w - 1) (by omega) (by omega)]
  refine Ev.pos (by omega) ?_
  obtain ⟨v, rfl⟩ : ∃ v : Nat, w = (v : Int) + 1 := ⟨(w - 1).toNat, by omega⟩
  rw [show ((v : Int) + 1 - 1) = (v : Int) from by omega, h_shl_one (by omega), Hd.ysum_one (m := l.length) (by omega)]
  refine spec_l2Yield_l0 t ⟨h1, h2⟩ (fun c k1 k2 e => spec_l2Yield_all t d c k1 k2 ?_) 0 (by omega) (by omega) _ fun x => ?_
  ·have := t.2.dep_head (a := c) (by omega)
   rw [e] at this
   omega
  ·simp; intro c _ _; omega
theorem spec_l2Yield_ev {l : List Int} (t : Hd.T l) {w : Int} (h1 : 1 ≤ w) (h2 : w ≤ l.length) : Ev (fun k => spec_l2Yield.f k l w) (Hd.ybits l w : Int) :=
 spec_l2Yield_all t l.length w h1 h2 (by omega)
theorem ybits_at {l : List Int} (t : Hd.T l) {a w : Int} (h1 : 1 ≤ a) (h2 : a ≤ l.length) : (Int.tmod (shr .i64 (Hd.ybits l w : Int) (a - 1)) 2 = 1) ↔ Hd.undB l a w = true := by
 have h8 := t.1
 obtain ⟨v, rfl⟩ : ∃ v : Nat, a = (v : Int) + 1 := ⟨(a - 1).toNat, by omega⟩
 rw [show ((v : Int) + 1 - 1) = (v : Int) from by omega, h_shr_bit (by omega)]
 unfold Hd.ybits
 rw [Hd.ysum_bit, show decide (v < l.length) = true from by simp; omega, Bool.true_and]

/-! spec_l5Turns -/
theorem spec_l5Turns.l0.ev {x0 : Int} {x1 : Int} {x5 : Int} {x6 : Int} {x7 : Int} {r : Bool} (h : Ev (fun k => if x7 < 8 then (if 0 ≤ x7 then (if (wrap64 ((Int.tmod (shr .i64 x0 x7) 2) + (wrap64 (2 * (Int.tmod (shr .i64 x1 x7) 2))))) > 0 then (if (wrap64 ((Int.tmod (shr .i64 x0 x7) 2) + (wrap64 (2 * (Int.tmod (shr .i64 x1 x7) 2))))) = x5 then (spec_l5Turns.l0 k x0 x1 x5 x6 (wrap64 (x7 + 1))) else (spec_l5Turns.l0 k x0 x1 (wrap64 ((Int.tmod (shr .i64 x0 x7) 2) + (wrap64 (2 * (Int.tmod (shr .i64 x1 x7) 2))))) (wrap64 (x6 + 1)) (wrap64 (x7 + 1)))) else (spec_l5Turns.l0 k x0 x1 x5 x6 (wrap64 (x7 + 1)))) else (none)) else (some (decide (x6 ≥ 4)))) r) : Ev (fun k => spec_l5Turns.l0 k x0 x1 x5 x6 x7) r := Ev.step (fun _ => rfl) h
theorem spec_l5Turns_l0 {p q : Int → Bool} {n : Nat} (h8 : n ≤ 8) (dis : ∀ a : Int, 1 ≤ a → a ≤ n → ¬ (p a = true ∧ q a = true)) : ∀ i : Int, i ≤ 8 → 0 ≤ i →
  Ev (fun k => spec_l5Turns.l0 k (Hd.ysum p n : Int) (Hd.ysum q n : Int) (tnS p q (min i.toNat n)).1 (tnS p q (min i.toNat n)).2 i) (decide ((tnS p q n).2 ≥ 4)) := by
 refine Hd.down ?_
 intro i hi ih h0
 refine spec_l5Turns.l0.ev ?_
 have bd := tnS_bd p q (min i.toNat n)
 by_cases hlt : i < 8
 ·have next := ih hlt (by omega)
  obtain ⟨j, rfl⟩ := Int.eq_ofNat_of_zero_le h0
  rw [show ((j : Int) + 1).toNat = j + 1 from by omega] at next
  rw [Int.toNat_natCast] at bd ⊢
  have bit : ∀ r : Int → Bool, Int.tmod (shr .i64 (Hd.ysum r n : Int) (j : Int)) 2 = if (decide (j < n) && r ((j : Int) + 1)) = true then 1 else 0 := by
   intro r
   have b := h_shr_bit (v := Hd.ysum r n) (x := j) (by omega)
   rw [Hd.ysum_bit] at b
   by_cases h : (decide (j < n) && r ((j : Int) + 1)) = true
   ·rw [if_pos h]; exact b.2 h
   ·rw [if_neg h]
    have h2 : Int.tmod (shr .i64 (Hd.ysum r n : Int) (j : Int)) 2 ≠ 1 := fun e => h (b.1 e)
    rw [h_shr_nat (by omega)] at *
    have h3 := Int.tmod_nonneg (a := ((Hd.ysum r n / 2 ^ j : Nat) : Int)) 2 (Int.natCast_nonneg _)
    have h4 := Int.tmod_lt_of_pos ((Hd.ysum r n / 2 ^ j : Nat) : Int) (b := 2) (by omega)
    omega
  rw [bit p, bit q, wid (x := (j : Int) + 1) (by omega) (by omega)]
  refine Ev.pos hlt (Ev.pos h0 ?_)
  by_cases hn : j < n
  ·rw [show min (j + 1) n = min j n + 1 from by omega, tnS, show ((min j n : Nat) : Int) = (j : Int) from by omega] at next
   rw [decide_eq_true hn, Bool.true_and, Bool.true_and]
   generalize tnS p q (min j n) = s at *
   rw [wid (x := s.2 + 1) (by omega) (by omega)]
   by_cases hp : p ((j : Int) + 1) = true
   ·have hq : ¬ q ((j : Int) + 1) = true := fun hq => dis _ (by omega) (by omega) ⟨hp, hq⟩
    rw [if_pos hp] at next
    rw [if_pos hp, if_neg hq]
    rw [show wrap64 (1 + wrap64 (2 * 0)) = 1 from by unfold wrap64; omega]
    refine Ev.pos (by omega) ?_
    by_cases h1 : s.1 = 1
    ·rw [if_pos h1] at next
     exact Ev.pos h1.symm next
    ·rw [if_neg h1] at next
     exact Ev.neg (fun e => h1 e.symm) next
   ·rw [if_neg hp] at next
    by_cases hq : q ((j : Int) + 1) = true
    ·rw [if_pos hq] at next
     rw [if_neg hp, if_pos hq]
     rw [show wrap64 (0 + wrap64 (2 * 1)) = 2 from by unfold wrap64; omega]
     refine Ev.pos (by omega) ?_
     by_cases h1 : s.1 = 2
     ·rw [if_pos h1] at next
      exact Ev.pos h1.symm next
     ·rw [if_neg h1] at next
      exact Ev.neg (fun e => h1 e.symm) next
    ·rw [if_neg hq] at next
     rw [if_neg hp, if_neg hq]
     rw [show wrap64 (0 + wrap64 (2 * 0)) = 0 from by unfold wrap64; omega]
     exact Ev.neg (by omega) next
  ·rw [show min (j + 1) n = min j n from by omega] at next
   rw [decide_eq_false hn, Bool.false_and, Bool.false_and, if_neg (by simp)]
   rw [show wrap64 (0 + wrap64 (2 * 0)) = 0 from by unfold wrap64; omega]
   exact Ev.neg (by omega) next
 ·refine Ev.neg hlt (Ev.ret ?_)
  rw [show min i.toNat n = n from by omega]
theorem spec_l5Turns_ev {p q : Int → Bool} {n : Nat} (h8 : n ≤ 8) (dis : ∀ a : Int, 1 ≤ a → a ≤ n → ¬ (p a = true ∧ q a = true)) : Ev (fun k => spec_l5Turns.f k (Hd.ysum p n : Int) (Hd.ysum q n : Int)) (decide ((tnS p q n).2 ≥ 4)) := by
 have := spec_l5Turns_l0 h8 dis 0 (by omega) (by omega)
 rw [show min (Int.toNat 0) n = 0 from by simp] at this
 exact this

/-! spec_TurnsOk -/
theorem spec_TurnsOk.j0.ev {x0 : List Int} {x1 : Int} {x2 : Int} {x25 : Bool} {r : Bool} (h : Ev (fun k => if x25 = true then (some false) else ((spec_l2Yield.f k x0 x1).bind fun t367 => ((spec_l2Yield.f k x0 x2).bind fun t368 => (if (Go.bits .and .i64 t367 t368) = 0 then ((spec_l5Turns.f k t367 t368).bind fun t369 => (some t369)) else (some false))))) r) : Ev (fun k => spec_TurnsOk.j0 k x0 x1 x2 x25) r := Ev.step (fun _ => rfl) h
theorem spec_TurnsOk_ev (l : List Int) (a b : Int) : Ev (fun k => spec_TurnsOk.f k l a b) (turnsB l a b) := by
 unfold spec_TurnsOk.f
 refine Ev.bind (spec_TreeOk_ev l) ?_
 have no : ¬ (Hd.T l ∧ (1 ≤ a ∧ a ≤ (l.length : Int)) ∧ (1 ≤ b ∧ b ≤ (l.length : Int))) → false = turnsB l a b := fun h => by
  cases hc : turnsB l a b with
  | false => rfl
  | true => have := turnsB_true.1 hc; exact absurd ⟨this.1, this.2.1, this.2.2.1⟩ h
 by_cases t : Hd.T l
 ·have h8 := t.1
  refine Ev.pos (Hd.treeB_yes t) (Ev.bindv (spec_l1In_eq _ _ _) ?_)
  by_cases ha : 1 ≤ a ∧ a ≤ (l.length : Int)
  ·refine Ev.pos (by simpa using ha) (Ev.bindv (spec_l1In_eq _ _ _) (spec_TurnsOk.j0.ev ?_))
   by_cases hb : 1 ≤ b ∧ b ≤ (l.length : Int)
   ·refine Ev.neg (by simpa using hb) (Ev.bind (spec_l2Yield_ev t ha.1 ha.2) (Ev.bind (spec_l2Yield_ev t hb.1 hb.2) ?_))
    have k1 := Hd.ysum_le (p := fun x => Hd.undB l x a) h8
    have k2 := Hd.ysum_le (p := fun x => Hd.undB l x b) h8
    unfold Hd.ybits
    rw [h_and_i64 (by omega) (by omega), Hd.ysum_and]
    by_cases hz : Hd.ysum (fun x => Hd.undB l x a && Hd.undB l x b) l.length = 0
    ·have dis : ∀ x : Int, 1 ≤ x → x ≤ l.length → ¬ (Hd.undB l x a = true ∧ Hd.undB l x b = true) := fun x h1 h2 => by
      have := Hd.ysum_zero.1 hz x h1 h2
      simpa using this
     have ap := (apart_iff t ha hb).1 dis
     refine Ev.pos (by omega) (Ev.bind (spec_l5Turns_ev h8 dis) (Ev.ret (bool_eq ?_)))
     rw [turnsB_true, decide_eq_true_eq]
     exact ⟨fun h => ⟨t, ha, hb, ap.1, ap.2, h⟩, fun h => h.2.2.2.2.2⟩
    ·refine Ev.neg (by omega) (Ev.ret ?_)
     cases hc : turnsB l a b with
     | false => rfl
     | true =>
      have := turnsB_true.1 hc
      refine absurd (Hd.ysum_zero.2 fun x h1 h2 => ?_) hz
      have := (apart_iff t ha hb).2 ⟨this.2.2.2.1, this.2.2.2.2.1⟩ x h1 h2
      simpa using this
   ·exact Ev.pos (by simp; omega) (Ev.ret (no fun h => hb h.2.2))
  ·exact Ev.neg (by simpa using ha) (spec_TurnsOk.j0.ev (Ev.pos rfl (Ev.ret (no fun h => ha h.2.1))))
 ·exact Ev.neg (by rw [Hd.treeB_no t]; simp) (spec_TurnsOk.j0.ev (Ev.pos rfl (Ev.ret (no fun h => t h.1))))

/-! impl_UnderOk -/

theorem impl_UnderOk_ev (l : List Int) (a b : Int) : Ev (fun k => impl_UnderOk.f k l a b) (uokB l a b) := by
 unfold impl_UnderOk.f uokB
 refine Ev.bind (impl_isWord_ev l a) ?_
 by_cases h1 : wordB l a = true
 ·refine Ev.pos h1 (Ev.bind (impl_isWord_ev l b) ?_)
  by_cases h2 : wordB l b = true
  ·have w := wordB_true.1 h1
   refine Ev.pos h2 (Ev.bind (impl_under_ev w.1 w.2.1 w.2.2 b) (Ev.ret ?_))
   rw [h1, h2]; rfl
  ·refine Ev.neg h2 (Ev.ret ?_)
   rw [Bool.not_eq_true] at h2
   rw [h2]; simp
 ·refine Ev.neg h1 (Ev.ret ?_)
  rw [Bool.not_eq_true] at h1
  rw [h1]; rfl

/-! impl_YieldOf -/
theorem impl_YieldOf.l0.ev {x0 : List Int} {x1 : Int} {x5 : List Int} {x13 : Int} {x14 : Int} {r : List Int} (h : Ev (fun k => if x14 < x13 then ((impl_under.f k x0 (wrap64 (x14 + 1)) x1).bind fun t377 => (if t377 = true then (if x5.length < 17592186044416 then (impl_YieldOf.l0 k x0 x1 (x5 ++ [wrap64 (x14 + 1)]) x13 (wrap64 (x14 + 1))) else (none)) else (impl_YieldOf.l0 k x0 x1 x5 x13 (wrap64 (x14 + 1))))) else (some x5)) r) : Ev (fun k => impl_YieldOf.l0 k x0 x1 x5 x13 x14) r := Ev.step (fun _ => rfl) h
theorem impl_YieldOf_l0 {l : List Int} (t : Hd.T l) {w : Int} (hw : 1 ≤ w ∧ w ≤ (l.length : Int)) : ∀ i : Int, i ≤ l.length → 0 ≤ i → Ev (fun k => impl_YieldOf.l0 k l w (Hd.sel (fun x => Hd.undB l x w) i.toNat) l.length i) (Hd.yldL l w) := by
 have h8 := t.1
 refine Hd.down ?_
 intro i hi ih h0
 refine impl_YieldOf.l0.ev ?_
 by_cases hlt : i < l.length
 ·have next := ih hlt (by omega)
  have hs := Hd.sel_le (fun x => Hd.undB l x w) i.toNat
  rw [show (i + 1).toNat = i.toNat + 1 from by omega, Hd.sel, show ((i.toNat : Int) + 1) = i + 1 from by omega] at next
  rw [wid (x := i + 1) (by omega) (by omega)]
  refine Ev.pos hlt (Ev.bind (impl_under_ev t (by omega) (by omega) w) ?_)
  by_cases e : Hd.undB l (i + 1) w = true
  ·rw [if_pos e] at next
   exact Ev.pos e (Ev.pos (by omega) next)
  ·rw [if_neg e, List.append_nil] at next
   exact Ev.neg e next
 ·refine Ev.neg hlt (Ev.ret ?_)
  rw [show i.toNat = l.length from by omega, Hd.yldL, if_pos ⟨t, hw⟩]; rfl
theorem impl_YieldOf_ev (l : List Int) (w : Int) : Ev (fun k => impl_YieldOf.f k l w) (Hd.yldL l w) := by
 unfold impl_YieldOf.f
 refine Ev.bind (impl_isWord_ev l w) ?_
 by_cases hw : wordB l w = true
 ·have h := wordB_true.1 hw
  exact Ev.pos hw (impl_YieldOf_l0 h.1 h.2 0 (by omega) (by omega))
 ·rw [Hd.yldL, if_neg fun h => hw (wordB_true.2 h)]
  exact Ev.neg hw (Ev.now _)

/-! slices_Clip_int_int -/

theorem slices_Clip_eq (l : List (List Int)) : slices_Clip_int_int.f l = some l := by
 unfold slices_Clip_int_int.f
 rw [if_pos (by omega), if_pos (by omega), Int.toNat_natCast, List.take_length]
theorem rd_at {l : List Int} {j : Nat} (h : j < l.length) : rd l (j : Int) = l[j] := by
 simp [rd, List.getD_eq_getElem?_getD, List.getElem?_eq_getElem h]
theorem rd_two (l : List Int) : rd l 1 = l.getD 1 0 ∧ rd l 0 = l.getD 0 0 := ⟨rfl, rfl⟩
theorem rd_L_nat (x : List (List Int)) (j : Nat) : rd_L2 x (j : Int) = x.getD j [] := by simp [rd_L2]

/-! impl_RowsOf -/
theorem impl_RowsOf.l0.ev {x5 : List (List Int)} {x12 : List Int} {x13 : Int} {x14 : Int} {r : (List (List Int))} (h : Ev (fun k => if x14 < x13 then (if 0 ≤ x14 then (if x14 < (x12.length : Int) then (if (x5.length : Int) > 0 then (if 0 ≤ (wrap64 ((x5.length : Int) - 1)) then (if (wrap64 ((x5.length : Int) - 1)) < (x5.length : Int) then (if 1 < ((rd_L2 x5 (wrap64 ((x5.length : Int) - 1))).length : Int) then (if (rd (rd_L2 x5 (wrap64 ((x5.length : Int) - 1))) 1) = (wrap64 ((rd x12 x14) - 1)) then (impl_RowsOf.l0 k (x5.set ((wrap64 ((x5.length : Int) - 1)) : Int).toNat ((rd_L2 x5 (wrap64 ((x5.length : Int) - 1))).set (1 : Int).toNat (rd x12 x14))) x12 x13 (wrap64 (x14 + 1))) else (if x5.length < 5864062014805 then (impl_RowsOf.l0 k (x5 ++ [(([rd x12 x14, rd x12 x14] : List Int))]) x12 x13 (wrap64 (x14 + 1))) else (none))) else (none)) else (none)) else (none)) else (if x5.length < 5864062014805 then (impl_RowsOf.l0 k (x5 ++ [(([rd x12 x14, rd x12 x14] : List Int))]) x12 x13 (wrap64 (x14 + 1))) else (none))) else (none)) else (none)) else ((slices_Clip_int_int.f x5).bind fun t411 => (some t411))) r) : Ev (fun k => impl_RowsOf.l0 k x5 x12 x13 x14) r := Ev.step (fun _ => rfl) h
theorem impl_RowsOf_l0 {xs : List Int} (hx : xs.length ≤ 8) (hb : ∀ a, a ∈ xs → 1 ≤ a ∧ a ≤ 8) : ∀ i : Int, i ≤ xs.length → 0 ≤ i → Ev (fun k => impl_RowsOf.l0 k (Hd.rowsR (xs.take i.toNat)) xs xs.length i) (Hd.rowsR xs) := by
 refine Hd.down ?_
 intro i hi ih h0
 obtain ⟨j, rfl⟩ := Int.eq_ofNat_of_zero_le h0
 refine impl_RowsOf.l0.ev ?_
 rw [Int.toNat_natCast]
 by_cases hlt : (j : Int) < xs.length
 ·have hj : j < xs.length := by omega
  have next := ih hlt (by omega)
  rw [show ((j : Int) + 1).toNat = j + 1 from by omega, List.take_succ_eq_append_getElem hj, Hd.rowsR_snoc] at next
  have wb := hb _ (List.getElem_mem hj)
  have ln := Hd.rowsR_len (xs.take j)
  rw [List.length_take] at ln
  have two := Hd.rowsR_two (xs.take j)
  rw [wid (x := (j : Int) + 1) (by omega) (by omega), rd_at hj]
  generalize Hd.rowsR (xs.take j) = out at *
  generalize xs[j] = w at *
  refine Ev.pos hlt (Ev.pos h0 (Ev.pos hlt ?_))
  have app : ¬ (0 < out.length ∧ (out.getD (out.length - 1) []).getD 1 0 = w - 1) → Ev (fun k => if out.length < 5864062014805 then impl_RowsOf.l0 k (out ++ [[w, w]]) xs xs.length ((j : Int) + 1) else none) (Hd.rowsR xs) := fun h => by
   rw [Hd.stepR, if_neg h] at next
   exact Ev.pos (by omega) next
  by_cases he : out.length = 0
  ·exact Ev.neg (by omega) (app (by omega))
  ·obtain ⟨m, hm⟩ : ∃ m : Nat, out.length = m + 1 := ⟨out.length - 1, by omega⟩
   have hmem : out.getD m [] ∈ out := Hd.getD_mem _ (by omega)
   have h2 := two _ hmem
   rw [wid (x := (out.length : Int) - 1) (by omega) (by omega), show (out.length : Int) - 1 = (m : Int) from by omega, rd_L_nat, wid (x := w - 1) (by omega) (by omega), (rd_two _).1]
   rw [show out.length - 1 = m from by omega] at app
   refine Ev.pos (by omega) (Ev.pos (by omega) (Ev.pos (by omega) (Ev.pos (by omega) ?_)))
   by_cases hc : (out.getD m []).getD 1 0 = w - 1
   ·refine Ev.pos hc ?_
    rw [Hd.stepR, if_pos (by rw [show out.length - 1 = m from by omega]; exact ⟨by omega, hc⟩), show out.length - 1 = m from by omega, ← Hd.set_two h2] at next
    exact next
   ·exact Ev.neg hc (app fun h => hc h.2)
 ·refine Ev.neg hlt (Ev.bindv (slices_Clip_eq _) (Ev.ret ?_))
  rw [show j = xs.length from by omega, List.take_length]
theorem yldL_bd (l : List Int) (w : Int) : ∀ a, a ∈ Hd.yldL l w → 1 ≤ a ∧ a ≤ 8 := by
 intro a ha
 unfold Hd.yldL Hd.yld at ha
 split at ha
 ·rename_i t
  have := Hd.mem_sel.1 ha
  have := t.1.1
  omega
 ·exact absurd ha (by simp)
theorem impl_RowsOf_ev (l : List Int) (w : Int) : Ev (fun k => impl_RowsOf.f k l w) (Hd.rowsL l w) := by
 unfold impl_RowsOf.f
 exact Ev.bind (impl_YieldOf_ev l w) (impl_RowsOf_l0 (Hd.yldL_len l w) (yldL_bd l w) 0 (by omega) (by omega))

/-! impl_GapsOf -/

theorem impl_GapsOf_ev (l : List Int) (w : Int) : Ev (fun k => impl_GapsOf.f k l w) (Hd.gapsI l w) := by
 unfold impl_GapsOf.f
 have := Hd.gapsI_bd l w
 unfold Hd.gapsI at *
 exact Ev.bind (impl_RowsOf_ev l w) (Ev.ret (wid (by omega) (by omega)))

/-! laws_alive -/

theorem alive_one : Hd.treeB [0] = true := by
 have one : ∀ a : Int, 1 ≤ a → a ≤ ([0] : List Int).length → a = 1 := fun a h1 h2 => by simp at h2; omega
 exact Hd.treeB_yes ((Hd.T_iff (l := [0]) (by decide) (fun a h1 h2 => by rw [one a h1 h2]; decide) (fun a h1 h2 => by rw [one a h1 h2]; decide)).2 (by decide))
theorem alive_two : Hd.treeB [1] = false := Hd.treeB_no fun t => by
 have := t.2.not_own (a := 1) (by simp)
 exact this (by decide)
theorem laws_alive_ev : Ev (fun k => laws_alive.f k) true := by
 unfold laws_alive.f
 refine Ev.bind (impl_TreeOk_ev [0]) (Ev.pos alive_one (Ev.bind (impl_TreeOk_ev [1]) (Ev.ret ?_)))
 rw [alive_two]; rfl


end Go.Proofs.Ytafkabhnldahdaa.QFnTurnsOk
