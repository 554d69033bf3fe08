/- Contracts of the functions that the statement FnExactCountRows reaches: what each printed function comes to. -/
import Derived.Test.YtogmdcdipnmbkaaQFnExactCountRowsx1
import Derived.Test.YtogmdcdipnmbkaaWSized
import Derived.Test.YtogmdcdipnmbkaaHdA
namespace Go.Proofs.Ytogmdcdipnmbkaa.PrintWords
/-- The name by which the printed row calls the word. -/
abbrev sized_ints := @Go.Proofs.YtogmdcdipnmbkaaW.PrintWords.sized_ints
end Go.Proofs.Ytogmdcdipnmbkaa.PrintWords
namespace Go.Proofs.Ytogmdcdipnmbkaa.QFnExactCountRows
open Go.RowKit Go.Proofs.YtogmdcdipnmbkaaW.PrintWords Go.Proofs.YtogmdcdipnmbkaaW.PrintLast Go.Proofs.YtogmdcdipnmbkaaW.PrintMore
set_option linter.unusedVariables false
theorem wid {x : Int} (h : -9223372036854775808 ≤ x) (h' : x ≤ 9223372036854775807) : wrap64 x = x := by unfold wrap64; omega
theorem Ev.pos {α : Type} {c : Prop} [Decidable c] {A B : Nat → Option α} {r : α} (h : c) (e : Ev A r) : Ev (fun k => if c then A k else B k) r := by simpa only [if_pos h] using e
theorem Ev.neg {α : Type} {c : Prop} [Decidable c] {A B : Nat → Option α} {r : α} (h : ¬ c) (e : Ev B r) : Ev (fun k => if c then A k else B k) r := by simpa only [if_neg h] using e
theorem Ev.bindv {α β : Type} {o : Option α} {f : Nat → α → Option β} {a : α} {r : β} (h : o = some a) (k : Ev (fun n => f n a) r) : Ev (fun n => o.bind (f n)) r := by subst h; exact k
theorem Ev.ret {α : Type} {a r : α} (h : a = r) : Ev (fun _ => some a) r := h ▸ Ev.now a
theorem rd_hd {l : List Int} {a : Int} (h : 1 ≤ a) : rd l (a - 1) = Hd.hd l a := Hd.hd_get h
theorem rd_hd1 {l : List Int} {a : Int} (h : 0 ≤ a) : rd l a = Hd.hd l (a + 1) := by rw [← rd_hd (by omega)]; congr 1; omega
theorem mn_mx (a b : Int) : (mn a b = a ∧ mx a b = b ∧ a ≤ b) ∨ (mn a b = b ∧ mx a b = a ∧ b ≤ a) := by
 unfold mn mx
 split <;> split <;> omega
theorem h_or_i64 {a b : Nat} (ha : a < 256) (hb : b < 256) : Go.bits .or .i64 (a : Int) (b : Int) = ((a ||| b : Nat) : Int) :=
 (Go.bits_nat .i64 8 (by decide) (fun n h0 h1 => by rw [Go.IntKind.wrap_i64]; omega) a b (by omega) (by omega)).2
theorem h_shl_one {x : Nat} (h : x ≤ 7) : shl .i64 1 (x : Int) = ((2 ^ x : Nat) : Int) := by
 have : ∀ x : Nat, x < 8 → shl .i64 1 (x : Int) = ((2 ^ x : Nat) : Int) := by decide
 exact this x (by omega)
theorem h_shr_bit {v x : Nat} (h : x ≤ 64) : (Int.tmod (shr .i64 (v : Int) (x : Int)) 2 = 1) ↔ v.testBit x = true := by
 unfold shr
 rw [Int.toNat_natCast, Nat.min_eq_left (by simpa [Go.IntKind.bits] using h), Nat.testBit_eq_decide_div_mod_eq]
 have : ((v : Int) / 2 ^ x) = ((v / 2 ^ x : Nat) : Int) := by simp
 rw [this, Int.tmod_eq_emod_of_nonneg (Int.natCast_nonneg _), decide_eq_true_eq]
 omega
theorem h_shr_nat {v x : Nat} (h : x ≤ 64) : shr .i64 (v : Int) (x : Int) = ((v / 2 ^ x : Nat) : Int) := by
 unfold shr
 rw [Int.toNat_natCast, Nat.min_eq_left (by simpa [Go.IntKind.bits] using h)]
 simp
theorem h_and_i64 {a b : Nat} (ha : a < 512) (hb : b < 512) : Go.bits .and .i64 (a : Int) (b : Int) = ((a &&& b : Nat) : Int) :=
 (Go.bits_nat .i64 9 (by decide) (fun n h0 h1 => by rw [Go.IntKind.wrap_i64]; omega) a b (by omega) (by omega)).1
theorem h_rd_set {P : List Int} {i j : Int} {v : Int} (h0 : 0 ≤ i) (h1 : i < P.length) (hj : 0 ≤ j) : rd (P.set i.toNat v) j = if j = i then v else rd P j := by
 unfold rd
 rw [List.getD_eq_getElem?_getD, List.getElem?_set]
 by_cases e : j = i
 ·subst e
  rw [if_pos rfl, if_pos (by omega), if_pos rfl]; rfl
 ·rw [if_neg (by omega), if_neg e, List.getD_eq_getElem?_getD]
/-- Bytes of a code, as far as they are read. -/
def Bts (b : List Int) : Prop := b.length ≤ 2000 ∧ ∀ i : Int, 0 ≤ rd b i ∧ rd b i ≤ 255
theorem bts_rd {l : List Int} (h : ∀ x, x ∈ l → 0 ≤ x ∧ x ≤ 255) (i : Int) : 0 ≤ rd l i ∧ rd l i ≤ 255 := by
 unfold rd
 rw [List.getD_eq_getElem?_getD]
 by_cases hi : i.toNat < l.length
 ·rw [List.getElem?_eq_getElem hi]; exact h _ (List.getElem_mem hi)
 ·rw [List.getElem?_eq_none (by omega)]; simp
theorem Ev.lit {α : Type} {g : Nat → Option α} {r : α} (K : Nat) (h : ∀ m, g (m + K) = some r) : Ev g r := ⟨K, fun k hk => by obtain ⟨m, rfl⟩ := Nat.exists_eq_add_of_le' hk; exact h m⟩

/-! spec_l1In -/

theorem spec_l1In_eq (a b c : Int) : spec_l1In.f a b c = some (decide (b ≤ a ∧ a ≤ c)) := by
 unfold spec_l1In.f
 by_cases h : a ≥ b
 ·rw [if_pos h]; simp [h]
 ·rw [if_neg h]; simp; intro; omega

/-! spec_l4Rows -/
theorem spec_l4Rows.l0.ev {x0 : Int} {x3 : Int} {x4 : Int} {r : Int} (h : Ev (fun k => if x4 ≤ x0 then ((spec_l4Flat.f k x4).bind fun t103 => ((spec_l4Rows.f k (wrap64 (x0 - x4))).bind fun t104 => (spec_l4Rows.l0 k x0 (wrap64 (x3 + (wrap64 (t103 * t104)))) (wrap64 (x4 + 1))))) else (some x3)) r) : Ev (fun k => spec_l4Rows.l0 k x0 x3 x4) r := Ev.step (fun _ => rfl) h
theorem spec_l4Rows.f.ev {a0 : Int} {r : Int} (h : Ev (fun k => if a0 = 0 then (some 1) else (spec_l4Rows.l0 k a0 0 1)) r) : Ev (fun k => spec_l4Rows.f k a0) r := Ev.step (fun _ => rfl) h
theorem spec_l4Flat.l0.ev {x0 : Int} {x3 : Int} {x4 : Int} {r : Int} (h : Ev (fun k => if x4 < x0 then ((spec_l4Rows.f k x4).bind fun t101 => ((spec_l4Rows.f k (wrap64 ((wrap64 (x0 - 1)) - x4))).bind fun t102 => (spec_l4Flat.l0 k x0 (wrap64 (x3 + (wrap64 (t101 * t102)))) (wrap64 (x4 + 1))))) else (some x3)) r) : Ev (fun k => spec_l4Flat.l0 k x0 x3 x4) r := Ev.step (fun _ => rfl) h
theorem spec_l4Flat.f.ev {a0 : Int} {r : Int} (h : Ev (fun k => spec_l4Flat.l0 k a0 0 0) r) : Ev (fun k => spec_l4Flat.f k a0) r := Ev.step (fun _ => rfl) h
set_option maxRecDepth 100000 in
theorem spec_l4Rows_in {a : Int} (h0 : 0 ≤ a) (h1 : a ≤ 6) : Ev (fun k => spec_l4Rows.f k a) (rowsN a) := by
 have h : a = 0 ∨ a = 1 ∨ a = 2 ∨ a = 3 ∨ a = 4 ∨ a = 5 ∨ a = 6 := by omega
 rcases h with rfl | rfl | rfl | rfl | rfl | rfl | rfl
 ·exact Ev.lit 80 fun m => by kernel_rfl
 ·exact Ev.lit 80 fun m => by kernel_rfl
 ·exact Ev.lit 80 fun m => by kernel_rfl
 ·exact Ev.lit 80 fun m => by kernel_rfl
 ·exact Ev.lit 80 fun m => by kernel_rfl
 ·exact Ev.lit 80 fun m => by kernel_rfl
 ·exact Ev.lit 80 fun m => by kernel_rfl

/-! spec_l4Flat -/

set_option maxRecDepth 100000 in
theorem spec_l4Flat_in {a : Int} (h0 : 1 ≤ a) (h1 : a ≤ 6) : Ev (fun k => spec_l4Flat.f k a) (flatN a) := by
 have h : a = 1 ∨ a = 2 ∨ a = 3 ∨ a = 4 ∨ a = 5 ∨ a = 6 := by omega
 rcases h with rfl | rfl | rfl | rfl | rfl | rfl
 ·exact Ev.lit 80 fun m => by kernel_rfl
 ·exact Ev.lit 80 fun m => by kernel_rfl
 ·exact Ev.lit 80 fun m => by kernel_rfl
 ·exact Ev.lit 80 fun m => by kernel_rfl
 ·exact Ev.lit 80 fun m => by kernel_rfl
 ·exact Ev.lit 80 fun m => by kernel_rfl

/-! spec_CountRows -/

theorem spec_CountRows_ev (a : Int) : Ev (fun k => spec_CountRows.f k a) (rowsN a) := by
 unfold spec_CountRows.f
 refine Ev.bindv (spec_l1In_eq _ _ _) ?_
 by_cases h : 0 ≤ a ∧ a ≤ 6
 ·exact Ev.pos (by simpa using h) (Ev.bind (spec_l4Rows_in h.1 h.2) (Ev.now _))
 ·rw [rowsN_out h]
  exact Ev.neg (by simpa using h) (Ev.now _)

/-! impl_CountRows -/
theorem impl_CountRows.j0.ev {x0 : Int} {x10 : Bool} {r : Int} (h : Ev (fun k => if x10 = true then (some (-1)) else (if x0 = 0 then (some 1) else (impl_CountRows.l0 k x0 0 1))) r) : Ev (fun k => impl_CountRows.j0 k x0 x10) r := Ev.step (fun _ => rfl) h
theorem impl_CountRows.l0.ev {x0 : Int} {x3 : Int} {x4 : Int} {r : Int} (h : Ev (fun k => if x4 ≤ x0 then ((impl_CountFlat.f k x4).bind fun t109 => ((impl_CountRows.f k (wrap64 (x0 - x4))).bind fun t110 => (impl_CountRows.l0 k x0 (wrap64 (x3 + (wrap64 (t109 * t110)))) (wrap64 (x4 + 1))))) else (some x3)) r) : Ev (fun k => impl_CountRows.l0 k x0 x3 x4) r := Ev.step (fun _ => rfl) h
theorem impl_CountRows.f.ev {a0 : Int} {r : Int} (h : Ev (fun k => if a0 < 0 then (impl_CountRows.j0 k a0 true) else (impl_CountRows.j0 k a0 (decide (a0 > 6)))) r) : Ev (fun k => impl_CountRows.f k a0) r := Ev.step (fun _ => rfl) h
theorem impl_CountFlat.j0.ev {x0 : Int} {x10 : Bool} {r : Int} (h : Ev (fun k => if x10 = true then (some (-1)) else (impl_CountFlat.l0 k x0 0 x0 0)) r) : Ev (fun k => impl_CountFlat.j0 k x0 x10) r := Ev.step (fun _ => rfl) h
theorem impl_CountFlat.l0.ev {x0 : Int} {x3 : Int} {x11 : Int} {x12 : Int} {r : Int} (h : Ev (fun k => if x12 < x11 then ((impl_CountRows.f k x12).bind fun t107 => ((impl_CountRows.f k (wrap64 ((wrap64 (x0 - 1)) - x12))).bind fun t108 => (impl_CountFlat.l0 k x0 (wrap64 (x3 + (wrap64 (t107 * t108)))) x11 (wrap64 (x12 + 1))))) else (some x3)) r) : Ev (fun k => impl_CountFlat.l0 k x0 x3 x11 x12) r := Ev.step (fun _ => rfl) h
theorem impl_CountFlat.f.ev {a0 : Int} {r : Int} (h : Ev (fun k => if a0 < 1 then (impl_CountFlat.j0 k a0 true) else (impl_CountFlat.j0 k a0 (decide (a0 > 6)))) r) : Ev (fun k => impl_CountFlat.f k a0) r := Ev.step (fun _ => rfl) h
set_option maxRecDepth 100000 in
theorem impl_CountRows_in {a : Int} (h0 : 0 ≤ a) (h1 : a ≤ 6) : Ev (fun k => impl_CountRows.f k a) (rowsN a) := by
 have h : a = 0 ∨ a = 1 ∨ a = 2 ∨ a = 3 ∨ a = 4 ∨ a = 5 ∨ a = 6 := by omega
 rcases h with rfl | rfl | rfl | rfl | rfl | rfl | rfl
 ·exact Ev.lit 80 fun m => by kernel_rfl
 ·exact Ev.lit 80 fun m => by kernel_rfl
 ·exact Ev.lit 80 fun m => by kernel_rfl
 ·exact Ev.lit 80 fun m => by kernel_rfl
 ·exact Ev.lit 80 fun m => by kernel_rfl
 ·exact Ev.lit 80 fun m => by kernel_rfl
 ·exact Ev.lit 80 fun m => by kernel_rfl
theorem impl_CountRows_ev (a : Int) : Ev (fun k => impl_CountRows.f k a) (rowsN a) := by
 by_cases h : 0 ≤ a ∧ a ≤ 6
 ·exact impl_CountRows_in h.1 h.2
 ·rw [rowsN_out h]
  refine impl_CountRows.f.ev ?_
  by_cases h0 : a < 0
  ·exact Ev.pos h0 (impl_CountRows.j0.ev (Ev.pos rfl (Ev.now _)))
  ·exact Ev.neg h0 (impl_CountRows.j0.ev (Ev.pos (by simp; omega) (Ev.now _)))

/-! impl_CountFlat -/

set_option maxRecDepth 100000 in
theorem impl_CountFlat_in {a : Int} (h0 : 1 ≤ a) (h1 : a ≤ 6) : Ev (fun k => impl_CountFlat.f k a) (flatN a) := by
 have h : a = 1 ∨ a = 2 ∨ a = 3 ∨ a = 4 ∨ a = 5 ∨ a = 6 := by omega
 rcases h with rfl | rfl | rfl | rfl | rfl | rfl
 ·exact Ev.lit 80 fun m => by kernel_rfl
 ·exact Ev.lit 80 fun m => by kernel_rfl
 ·exact Ev.lit 80 fun m => by kernel_rfl
 ·exact Ev.lit 80 fun m => by kernel_rfl
 ·exact Ev.lit 80 fun m => by kernel_rfl
 ·exact Ev.lit 80 fun m => by kernel_rfl
theorem impl_CountFlat_ev (a : Int) : Ev (fun k => impl_CountFlat.f k a) (flatN a) := by
 by_cases h : 1 ≤ a ∧ a ≤ 6
 ·exact impl_CountFlat_in h.1 h.2
 ·rw [flatN_out h]
  refine impl_CountFlat.f.ev ?_
  by_cases h0 : a < 1
  ·exact Ev.pos h0 (impl_CountFlat.j0.ev (Ev.pos rfl (Ev.now _)))
  ·exact Ev.neg h0 (impl_CountFlat.j0.ev (Ev.pos (by simp; omega) (Ev.now _)))


end Go.Proofs.Ytogmdcdipnmbkaa.QFnExactCountRows
