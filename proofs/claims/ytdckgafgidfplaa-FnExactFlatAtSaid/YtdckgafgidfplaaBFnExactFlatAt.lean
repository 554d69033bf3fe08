/- Contracts of the functions that the statement FnExactFlatAt reaches: what each printed function comes to. -/
import Derived.Test.YtdckgafgidfplaaQFnExactFlatAtx4
import Derived.Test.YtdckgafgidfplaaWSized
import Derived.Test.YtdckgafgidfplaaHd9
import Derived.Test.YtdckgafgidfplaaHdJ
import Derived.Test.YtdckgafgidfplaaHdK
namespace Go.Proofs.Ytdckgafgidfplaa.PrintWords
/-- The name by which the printed row calls the word. -/
abbrev sized_ints := @Go.Proofs.YtdckgafgidfplaaW.PrintWords.sized_ints
end Go.Proofs.Ytdckgafgidfplaa.PrintWords
namespace Go.Proofs.Ytdckgafgidfplaa.QFnExactFlatAt
open Go.RowKit Go.Proofs.YtdckgafgidfplaaW.PrintWords Go.Proofs.YtdckgafgidfplaaW.PrintLast Go.Proofs.YtdckgafgidfplaaW.PrintMore
set_option linter.unusedVariables false
set_option linter.unusedSimpArgs false
theorem wid {x : Int} (h : -9223372036854775808 ≤ x) (h' : x ≤ 9223372036854775807) : wrap64 x = x := by unfold wrap64; omega
theorem Ev.pos {α : Type} {c : Prop} [Decidable c] {A B : Nat → Option α} {r : α} (h : c) (e : Ev A r) : Ev (fun k => if c then A k else B k) r := by simpa only [if_pos h] using e
theorem Ev.neg {α : Type} {c : Prop} [Decidable c] {A B : Nat → Option α} {r : α} (h : ¬ c) (e : Ev B r) : Ev (fun k => if c then A k else B k) r := by simpa only [if_neg h] using e
theorem Ev.bindv {α β : Type} {o : Option α} {f : Nat → α → Option β} {a : α} {r : β} (h : o = some a) (k : Ev (fun n => f n a) r) : Ev (fun n => o.bind (f n)) r := by subst h; exact k
theorem Ev.ret {α : Type} {a r : α} (h : a = r) : Ev (fun _ => some a) r := h ▸ Ev.now a
theorem rd_hd {l : List Int} {a : Int} (h : 1 ≤ a) : rd l (a - 1) = Hd.hd l a := Hd.hd_get h
theorem rd_hd1 {l : List Int} {a : Int} (h : 0 ≤ a) : rd l a = Hd.hd l (a + 1) := by rw [← rd_hd (by omega)]; congr 1; omega
theorem mn_mx (a b : Int) : (mn a b = a ∧ mx a b = b ∧ a ≤ b) ∨ (mn a b = b ∧ mx a b = a ∧ b ≤ a) := by
 unfold mn mx
 split <;> split <;> omega
theorem h_or_i64 {a b : Nat} (ha : a < 256) (hb : b < 256) : Go.bits .or .i64 (a : Int) (b : Int) = ((a ||| b : Nat) : Int) :=
 (Go.bits_nat .i64 8 (by decide) (fun n h0 h1 => by rw [Go.IntKind.wrap_i64]; omega) a b (by omega) (by omega)).2
theorem h_shl_one {x : Nat} (h : x ≤ 7) : shl .i64 1 (x : Int) = ((2 ^ x : Nat) : Int) := by
 have : ∀ x : Nat, x < 8 → shl .i64 1 (x : Int) = ((2 ^ x : Nat) : Int) := by decide
 exact this x (by omega)
theorem h_shr_bit {v x : Nat} (h : x ≤ 64) : (Int.tmod (shr .i64 (v : Int) (x : Int)) 2 = 1) ↔ v.testBit x = true := by
 unfold shr
 rw [Int.toNat_natCast, Nat.min_eq_left (by simpa [Go.IntKind.bits] using h), Nat.testBit_eq_decide_div_mod_eq]
 have : ((v : Int) / 2 ^ x) = ((v / 2 ^ x : Nat) : Int) := by simp
 rw [this, Int.tmod_eq_emod_of_nonneg (Int.natCast_nonneg _), decide_eq_true_eq]
 omega
theorem h_shr_nat {v x : Nat} (h : x ≤ 64) : shr .i64 (v : Int) (x : Int) = ((v / 2 ^ x : Nat) : Int) := by
 unfold shr
 rw [Int.toNat_natCast, Nat.min_eq_left (by simpa [Go.IntKind.bits] using h)]
 simp
theorem h_and_i64 {a b : Nat} (ha : a < 512) (hb : b < 512) : Go.bits .and .i64 (a : Int) (b : Int) = ((a &&& b : Nat) : Int) :=
 (Go.bits_nat .i64 9 (by decide) (fun n h0 h1 => by rw [Go.IntKind.wrap_i64]; omega) a b (by omega) (by omega)).1
theorem h_rd_set {P : List Int} {i j : Int} {v : Int} (h0 : 0 ≤ i) (h1 : i < P.length) (hj : 0 ≤ j) : rd (P.set i.toNat v) j = if j = i then v else rd P j := by
 unfold rd
 rw [List.getD_eq_getElem?_getD, List.getElem?_set]
 by_cases e : j = i
 ·subst e
  rw [if_pos rfl, if_pos (by omega), if_pos rfl]; rfl
 ·rw [if_neg (by omega), if_neg e, List.getD_eq_getElem?_getD]
/-- Bytes of a code, as far as they are read. -/
def Bts (b : List Int) : Prop := b.length ≤ 2000 ∧ ∀ i : Int, 0 ≤ rd b i ∧ rd b i ≤ 255
theorem bts_rd {l : List Int} (h : ∀ x, x ∈ l → 0 ≤ x ∧ x ≤ 255) (i : Int) : 0 ≤ rd l i ∧ rd l i ≤ 255 := by
 unfold rd
 rw [List.getD_eq_getElem?_getD]
 by_cases hi : i.toNat < l.length
 ·rw [List.getElem?_eq_getElem hi]; exact h _ (List.getElem_mem hi)
 ·rw [List.getElem?_eq_none (by omega)]; simp
theorem Ev.lit {α : Type} {g : Nat → Option α} {r : α} (K : Nat) (h : ∀ m, g (m + K) = some r) : Ev g r := ⟨K, fun k hk => by obtain ⟨m, rfl⟩ := Nat.exists_eq_add_of_le' hk; exact h m⟩
theorem rd_at {l : List Int} {j : Nat} (h : j < l.length) : rd l (j : Int) = l[j] := by
 simp [rd, List.getD_eq_getElem?_getD, List.getElem?_eq_getElem h]

/-! laws_eqIntS -/
theorem laws_eqIntS.l0.ev {x0 : List Int} {x1 : List Int} {x5 : Int} {r : Bool} (h : Ev (fun k => if x5 < (x0.length : Int) then (if 0 ≤ x5 then (if x5 < (x1.length : Int) then (if (rd x0 x5) = (rd x1 x5) then (laws_eqIntS.l0 k x0 x1 (wrap64 (x5 + 1))) else (some false)) else (none)) else (none)) else (some true)) r) : Ev (fun k => laws_eqIntS.l0 k x0 x1 x5) r := Ev.step (fun _ => rfl) h
theorem laws_eqIntS_l0 {a b : List Int} (hl : a.length ≤ 4611686018427387904) (he : a.length = b.length) : ∀ i : Int, i ≤ a.length → 0 ≤ i → a.take i.toNat = b.take i.toNat → Ev (fun k => laws_eqIntS.l0 k a b i) (decide (a = b)) := by
 refine Hd.down ?_
 intro i hi ih h0 ht
 refine laws_eqIntS.l0.ev ?_
 by_cases hlt : i < a.length
 ·rw [wid (x := i + 1) (by omega) (by omega)]
  refine Ev.pos hlt (Ev.pos h0 (Ev.pos (by omega) ?_))
  obtain ⟨j, rfl⟩ := Int.eq_ofNat_of_zero_le h0
  have hj : j < a.length := by omega
  have hj2 : j < b.length := by omega
  simp only [Int.toNat_natCast] at *
  have ga : rd a j = a[j] := by simp [rd, List.getD_eq_getElem?_getD, List.getElem?_eq_getElem hj]
  have gb : rd b j = b[j] := by simp [rd, List.getD_eq_getElem?_getD, List.getElem?_eq_getElem hj2]
  by_cases e : rd a j = rd b j
  ·refine Ev.pos e (ih hlt (by omega) ?_)
   rw [show ((j : Int) + 1).toNat = j + 1 from by omega, List.take_succ_eq_append_getElem hj, List.take_succ_eq_append_getElem hj2, ht, ← ga, ← gb, e]
  ·refine Ev.neg e (Ev.ret ?_)
   have : a ≠ b := fun h => e (by rw [h])
   simp [this]
 ·refine Ev.neg hlt (Ev.ret ?_)
  rw [show i.toNat = a.length from by omega] at ht
  rw [List.take_length, he, List.take_length] at ht
  simp [ht]
theorem laws_eqIntS_ev {a b : List Int} (hl : a.length ≤ 1048576) : Ev (fun k => laws_eqIntS.f k a b) (decide (a = b)) := by
 unfold laws_eqIntS.f
 by_cases e : a.length = b.length
 ·refine Ev.pos (by omega) ?_
  exact laws_eqIntS_l0 (by omega) e 0 (by omega) (by omega) (by simp)
 ·refine Ev.neg (by omega) (Ev.ret ?_)
  have : a ≠ b := fun h => e (by rw [h])
  simp [this]

/-! laws_markIntS -/
theorem laws_markIntS.l0.ev {x0 : List Int} {x1 : Int} {x5 : Int} {r : Int × List Int} (h : Ev (fun k => if x5 < (x0.length : Int) then (if 0 ≤ x5 then (laws_markIntS.l0 k (x0.set (x5 : Int).toNat x1) (wrap64 (x1 + 1)) (wrap64 (x5 + 1))) else (none)) else (some (x1, x0))) r) : Ev (fun k => laws_markIntS.l0 k x0 x1 x5) r := Ev.step (fun _ => rfl) h
theorem laws_markIntS_l0 {l : List Int} (hl : l.length ≤ 1048600) {c : Int} (hc : 0 ≤ c) (hc2 : c ≤ 1000000000000) : ∀ i : Int, i ≤ l.length → 0 ≤ i → Ev (fun k => laws_markIntS.l0 k (Hd.tab (fun a => c + a - 1) i.toNat ++ l.drop i.toNat) (c + i) i) (c + l.length, Hd.tab (fun a => c + a - 1) l.length) := by
 refine Hd.down ?_
 intro i hi ih h0
 refine laws_markIntS.l0.ev ?_
 have hlen : (Hd.tab (fun a => c + a - 1) i.toNat ++ l.drop i.toNat).length = l.length := by rw [List.length_append, Hd.tab_length, List.length_drop]; omega
 rw [hlen]
 by_cases hlt : i < l.length
 ·rw [wid (x := c + i + 1) (by omega) (by omega), wid (x := i + 1) (by omega) (by omega)]
  refine Ev.pos hlt (Ev.pos h0 ?_)
  have next := ih hlt (by omega)
  obtain ⟨j, rfl⟩ := Int.eq_ofNat_of_zero_le h0
  rw [show ((j : Int) + 1).toNat = j + 1 from by omega, show c + ((j : Int) + 1) = c + j + 1 from by omega] at next
  simp only [Int.toNat_natCast] at *
  have e : (Hd.tab (fun a => c + a - 1) j ++ l.drop j).set j (c + (j : Int)) = Hd.tab (fun a => c + a - 1) (j + 1) ++ l.drop (j + 1) := by
   rw [List.set_append, if_neg (by rw [Hd.tab_length]; omega), Hd.tab_length, Nat.sub_self, List.drop_eq_getElem_cons (show j < l.length by omega), List.set_cons_zero]
   simp only [Hd.tab, List.append_assoc, List.singleton_append]
   congr 2; omega
  rw [e]; exact next
 ·refine Ev.neg hlt (Ev.ret ?_)
  rw [show i.toNat = l.length from by omega, List.drop_length, List.append_nil, show i = (l.length : Int) from by omega]
theorem laws_markIntS_ev {l : List Int} (hl : l.length ≤ 1048600) {c : Int} (hc : 0 ≤ c) (hc2 : c ≤ 1000000000000) : Ev (fun k => laws_markIntS.f k l c) (c + l.length, Hd.tab (fun a => c + a - 1) l.length) := by
 have := laws_markIntS_l0 hl hc hc2 0 (by omega) (by omega)
 simp only [Int.toNat_zero, Hd.tab, List.drop_zero, List.nil_append, Int.add_zero] at this
 exact this

/-! laws_heldIntS -/
theorem laws_heldIntS.l0.ev {x0 : List Int} {x1 : Int} {x5 : Int} {r : Int} (h : Ev (fun k => if x5 < (x0.length : Int) then (if 0 ≤ x5 then (if (rd x0 x5) = x1 then (laws_heldIntS.l0 k x0 (wrap64 (x1 + 1)) (wrap64 (x5 + 1))) else (some (-1))) else (none)) else (some x1)) r) : Ev (fun k => laws_heldIntS.l0 k x0 x1 x5) r := Ev.step (fun _ => rfl) h
theorem laws_heldIntS_l0 {n : Nat} (hn : n ≤ 1048600) {c : Int} (hc : 0 ≤ c) (hc2 : c ≤ 1000000000000) : ∀ i : Int, i ≤ n → 0 ≤ i → Ev (fun k => laws_heldIntS.l0 k (Hd.tab (fun a => c + a - 1) n) (c + i) i) (c + n) := by
 refine Hd.down ?_
 intro i hi ih h0
 refine laws_heldIntS.l0.ev ?_
 rw [Hd.tab_length]
 by_cases hlt : i < n
 ·rw [wid (x := c + i + 1) (by omega) (by omega), wid (x := i + 1) (by omega) (by omega)]
  have next := ih hlt (by omega)
  rw [show c + (i + 1) = c + i + 1 from by omega] at next
  refine Ev.pos hlt (Ev.pos h0 (Ev.pos ?_ next))
  unfold rd
  rw [Hd.tab_get _ _ (show i.toNat < n by omega)]; omega
 ·refine Ev.neg hlt (Ev.ret ?_)
  omega
theorem laws_heldIntS_ev {n : Nat} (hn : n ≤ 1048600) {c : Int} (hc : 0 ≤ c) (hc2 : c ≤ 1000000000000) : Ev (fun k => laws_heldIntS.f k (Hd.tab (fun a => c + a - 1) n) c) (c + n) := by
 have := laws_heldIntS_l0 hn hc hc2 0 (by omega) (by omega)
 simp only [Int.add_zero] at this
 exact this

/-! spec_l1In -/

theorem spec_l1In_eq (a b c : Int) : spec_l1In.f a b c = some (decide (b ≤ a ∧ a ≤ c)) := by
 unfold spec_l1In.f
 by_cases h : a ≥ b
 ·rw [if_pos h]; simp [h]
 ·rw [if_neg h]; simp; intro; omega

/-! spec_l4Rows -/
theorem spec_l4Rows.l0.ev {x0 : Int} {x3 : Int} {x4 : Int} {r : Int} (h : Ev (fun k => if x4 ≤ x0 then ((spec_l4Flat.f k x4).bind fun t105 => ((spec_l4Rows.f k (wrap64 (x0 - x4))).bind fun t106 => (spec_l4Rows.l0 k x0 (wrap64 (x3 + (wrap64 (t105 * t106)))) (wrap64 (x4 + 1))))) else (some x3)) r) : Ev (fun k => spec_l4Rows.l0 k x0 x3 x4) r := Ev.step (fun _ => rfl) h
theorem spec_l4Rows.f.ev {a0 : Int} {r : Int} (h : Ev (fun k => if a0 = 0 then (some 1) else (spec_l4Rows.l0 k a0 0 1)) r) : Ev (fun k => spec_l4Rows.f k a0) r := Ev.step (fun _ => rfl) h
theorem spec_l4Flat.l0.ev {x0 : Int} {x3 : Int} {x4 : Int} {r : Int} (h : Ev (fun k => if x4 < x0 then ((spec_l4Rows.f k x4).bind fun t107 => ((spec_l4Rows.f k (wrap64 ((wrap64 (x0 - 1)) - x4))).bind fun t108 => (spec_l4Flat.l0 k x0 (wrap64 (x3 + (wrap64 (t107 * t108)))) (wrap64 (x4 + 1))))) else (some x3)) r) : Ev (fun k => spec_l4Flat.l0 k x0 x3 x4) r := Ev.step (fun _ => rfl) h
theorem spec_l4Flat.f.ev {a0 : Int} {r : Int} (h : Ev (fun k => spec_l4Flat.l0 k a0 0 0) r) : Ev (fun k => spec_l4Flat.f k a0) r := Ev.step (fun _ => rfl) h
set_option maxRecDepth 100000 in
theorem spec_l4Rows_in {a : Int} (h0 : 0 ≤ a) (h1 : a ≤ 6) : Ev (fun k => spec_l4Rows.f k a) (rowsN a) := by
 have h : a = 0 ∨ a = 1 ∨ a = 2 ∨ a = 3 ∨ a = 4 ∨ a = 5 ∨ a = 6 := by omega
 rcases h with rfl | rfl | rfl | rfl | rfl | rfl | rfl
 ·exact Ev.lit 80 fun m => by kernel_rfl
 ·exact Ev.lit 80 fun m => by kernel_rfl
 ·exact Ev.lit 80 fun m => by kernel_rfl
 ·exact Ev.lit 80 fun m => by kernel_rfl
 ·exact Ev.lit 80 fun m => by kernel_rfl
 ·exact Ev.lit 80 fun m => by kernel_rfl
 ·exact Ev.lit 80 fun m => by kernel_rfl

/-! spec_l4Flat -/

set_option maxRecDepth 100000 in
theorem spec_l4Flat_in {a : Int} (h0 : 1 ≤ a) (h1 : a ≤ 6) : Ev (fun k => spec_l4Flat.f k a) (flatN a) := by
 have h : a = 1 ∨ a = 2 ∨ a = 3 ∨ a = 4 ∨ a = 5 ∨ a = 6 := by omega
 rcases h with rfl | rfl | rfl | rfl | rfl | rfl
 ·exact Ev.lit 80 fun m => by kernel_rfl
 ·exact Ev.lit 80 fun m => by kernel_rfl
 ·exact Ev.lit 80 fun m => by kernel_rfl
 ·exact Ev.lit 80 fun m => by kernel_rfl
 ·exact Ev.lit 80 fun m => by kernel_rfl
 ·exact Ev.lit 80 fun m => by kernel_rfl

/-! spec_l4Row -/
theorem spec_l4Row.l0.ev {x0 : List Int} {x1 : Int} {x2 : Int} {x3 : Int} {x4 : Int} {x10 : Int} {r : List Int} (h : Ev (fun k => if x10 ≤ x2 then ((spec_l4Rows.f k (wrap64 (x2 - x10))).bind fun t114 => ((spec_l4Flat.f k (wrap64 ((wrap64 (x10 - x1)) + 1))).bind fun t115 => (if x4 < (wrap64 (t115 * t114)) then (if t114 = 0 then (none) else ((spec_l4Tree.f k x0 x1 x10 x3 (wrap64 (Int.tdiv x4 t114))).bind fun t116 => ((spec_l4Row.f k t116 (wrap64 (x10 + 1)) x2 x3 (Int.tmod x4 t114)).bind fun t117 => (some t117)))) else (spec_l4Row.l0 k x0 x1 x2 x3 (wrap64 (x4 - (wrap64 (t115 * t114)))) (wrap64 (x10 + 1)))))) else (some x0)) r) : Ev (fun k => spec_l4Row.l0 k x0 x1 x2 x3 x4 x10) r := Ev.step (fun _ => rfl) h
theorem spec_l4Row.f.ev {l0 : List Int} {a1 : Int} {a2 : Int} {a3 : Int} {a4 : Int} {r : List Int} (h : Ev (fun k => spec_l4Row.l0 k l0 a1 a2 a3 a4 a1) r) : Ev (fun k => spec_l4Row.f k l0 a1 a2 a3 a4) r := Ev.step (fun _ => rfl) h
theorem spec_l4Tree.l0.ev {x0 : List Int} {x1 : Int} {x2 : Int} {x3 : Int} {x4 : Int} {x10 : Int} {r : List Int} (h : Ev (fun k => if x10 ≤ x2 then ((spec_l4Rows.f k (wrap64 (x2 - x10))).bind fun t109 => ((spec_l4Rows.f k (wrap64 (x10 - x1))).bind fun t110 => (if x4 < (wrap64 (t110 * t109)) then (if 0 ≤ (wrap64 (x10 - 1)) then (if (wrap64 (x10 - 1)) < (x0.length : Int) then (if t109 = 0 then (none) else ((spec_l4Row.f k (x0.set ((wrap64 (x10 - 1)) : Int).toNat x3) x1 (wrap64 (x10 - 1)) x10 (wrap64 (Int.tdiv x4 t109))).bind fun t112 => ((spec_l4Row.f k t112 (wrap64 (x10 + 1)) x2 x10 (Int.tmod x4 t109)).bind fun t113 => (some t113)))) else (none)) else (none)) else (spec_l4Tree.l0 k x0 x1 x2 x3 (wrap64 (x4 - (wrap64 (t110 * t109)))) (wrap64 (x10 + 1)))))) else (some x0)) r) : Ev (fun k => spec_l4Tree.l0 k x0 x1 x2 x3 x4 x10) r := Ev.step (fun _ => rfl) h
theorem spec_l4Tree.f.ev {l0 : List Int} {a1 : Int} {a2 : Int} {a3 : Int} {a4 : Int} {r : List Int} (h : Ev (fun k => spec_l4Tree.l0 k l0 a1 a2 a3 a4 a1) r) : Ev (fun k => spec_l4Tree.f k l0 a1 a2 a3 a4) r := Ev.step (fun _ => rfl) h
theorem cF_at {a : Nat} (h0 : 1 ≤ a) (h1 : a ≤ 6) : Ev (fun k => spec_l4Flat.f k (a : Int)) (Hd.cF a : Int) := by
 have e : flatN (a : Int) = (Hd.cF a : Int) := by
  have h : a = 1 ∨ a = 2 ∨ a = 3 ∨ a = 4 ∨ a = 5 ∨ a = 6 := by omega
  rcases h with rfl | rfl | rfl | rfl | rfl | rfl <;> rfl
 have := spec_l4Flat_in (a := (a : Int)) (by omega) (by omega)
 rwa [e] at this
theorem cR_at {a : Nat} (h1 : a ≤ 6) : Ev (fun k => spec_l4Rows.f k (a : Int)) (Hd.cR a : Int) := by
 have e : rowsN (a : Int) = (Hd.cR a : Int) := by
  have h : a = 0 ∨ a = 1 ∨ a = 2 ∨ a = 3 ∨ a = 4 ∨ a = 5 ∨ a = 6 := by omega
  rcases h with rfl | rfl | rfl | rfl | rfl | rfl | rfl <;> rfl
 have := spec_l4Rows_in (a := (a : Int)) (by omega) (by omega)
 rwa [e] at this
theorem prod_le (a b : Nat) : Hd.cR a * Hd.cR b ≤ 10000000 ∧ Hd.cF a * Hd.cR b ≤ 10000000 := by
 have h1 : Hd.cR a ≤ 1428 := by unfold Hd.cR; split <;> omega
 have h2 : Hd.cR b ≤ 1428 := by unfold Hd.cR; split <;> omega
 have h3 : Hd.cF a ≤ 728 := by unfold Hd.cF; split <;> omega
 have m1 := Nat.mul_le_mul h1 h2
 have m2 := Nat.mul_le_mul h3 h2
 omega
theorem toI_set (h : List Nat) (j v : Nat) : (Hd.toI h).set j (v : Int) = Hd.toI (h.set j v) := by
 rw [Hd.toI, Hd.toI, List.map_set]
theorem un_both : ∀ f : Nat,
  (∀ h lo hi head p root r, Hd.unT f h lo hi head p root = some r → 1 ≤ lo → lo ≤ root → hi ≤ h.length → h.length ≤ 6 → p ≤ 100000 → r.length = h.length ∧ Ev (fun k => spec_l4Tree.l0 k (Hd.toI h) lo hi head p root) (Hd.toI r)) ∧
  (∀ h lo hi head p e r, Hd.unR f h lo hi head p e = some r → 1 ≤ lo → lo ≤ e → hi ≤ h.length → h.length ≤ 6 → p ≤ 100000 → r.length = h.length ∧ Ev (fun k => spec_l4Row.l0 k (Hd.toI h) lo hi head p e) (Hd.toI r))
 | 0 => ⟨fun _ _ _ _ _ _ _ e => by simp [Hd.unT] at e, fun _ _ _ _ _ _ _ e => by simp [Hd.unR] at e⟩
 | f + 1 => by
  obtain ⟨ihT, ihR⟩ := un_both f
  refine ⟨fun h lo hi head p root r e h1 h2 h3 h6 hp => ?_, fun h lo hi head p en r e h1 h2 h3 h6 hp => ?_⟩
  ·rw [Hd.unT] at e
   have tl := Hd.toI_len h
   by_cases c : root ≤ hi
   ·rw [if_pos c] at e
    have C1 := cR_at (a := hi - root) (by omega)
    have C2 := cR_at (a := root - lo) (by omega)
    have hz := (prod_le (root - lo) (hi - root)).1
    have em : ((Hd.cR (root - lo) : Nat) : Int) * ((Hd.cR (hi - root) : Nat) : Int) = ((Hd.cR (root - lo) * Hd.cR (hi - root) : Nat) : Int) := by push_cast; rfl
    have wz := wid (x := ((Hd.cR (root - lo) * Hd.cR (hi - root) : Nat) : Int)) (by omega) (by omega)
    have pre : ∀ {B : Nat → Int → Int → Option (List Int)} {q : List Int}, Ev (fun k => B k (Hd.cR (hi - root) : Nat) (Hd.cR (root - lo) : Nat)) q → Ev (fun k => if (root : Int) ≤ (hi : Int) then ((spec_l4Rows.f k (wrap64 ((hi : Int) - root))).bind fun t212 => ((spec_l4Rows.f k (wrap64 ((root : Int) - lo))).bind fun t213 => B k t212 t213)) else some (Hd.toI h)) q := by
     intro B q n
     rw [wid (x := (hi : Int) - root) (by omega) (by omega), wid (x := (root : Int) - lo) (by omega) (by omega), show (hi : Int) - root = ((hi - root : Nat) : Int) by omega, show (root : Int) - lo = ((root - lo : Nat) : Int) by omega]
     exact Ev.pos (by omega) (Ev.bind C1 (Ev.bind C2 n))
    by_cases c2 : p < Hd.cR (root - lo) * Hd.cR (hi - root)
    ·rw [if_pos c2] at e
     obtain ⟨g1, hg, e⟩ := Option.bind_eq_some_iff.1 e
     have c0 : Hd.cR (hi - root) ≠ 0 := fun z => by rw [z, Nat.mul_zero] at c2; omega
     have d1 := Nat.div_le_self p (Hd.cR (hi - root))
     have d2 := Nat.mod_le p (Hd.cR (hi - root))
     obtain ⟨l1, E1⟩ := ihR (h.set (root - 1) head) lo (root - 1) root (p / Hd.cR (hi - root)) lo g1 hg h1 (Nat.le_refl _) (by rw [List.length_set]; omega) (by rw [List.length_set]; omega) (by omega)
     rw [List.length_set] at l1
     obtain ⟨l2, E2⟩ := ihR g1 (root + 1) hi root (p % Hd.cR (hi - root)) (root + 1) r e (by omega) (Nat.le_refl _) (by omega) (by omega) (by omega)
     refine ⟨by omega, spec_l4Tree.l0.ev (pre (B := fun k t212 t213 => if (p : Int) < (wrap64 (t213 * t212)) then (if 0 ≤ (wrap64 ((root : Int) - 1)) then (if (wrap64 ((root : Int) - 1)) < ((Hd.toI h).length : Int) then (if t212 = 0 then (none) else ((spec_l4Row.f k ((Hd.toI h).set ((wrap64 ((root : Int) - 1)) : Int).toNat head) lo (wrap64 ((root : Int) - 1)) root (wrap64 (Int.tdiv p t212))).bind fun t215 => ((spec_l4Row.f k t215 (wrap64 ((root : Int) + 1)) hi root (Int.tmod p t212)).bind fun t216 => (some t216)))) else (none)) else (none)) else (spec_l4Tree.l0 k (Hd.toI h) lo hi head (wrap64 (p - (wrap64 (t213 * t212)))) (wrap64 ((root : Int) + 1)))) ?_)⟩
     simp only [em, wz]
     have ed : wrap64 (Int.tdiv (p : Int) (Hd.cR (hi - root) : Nat)) = ((p / Hd.cR (hi - root) : Nat) : Int) := by
      have wn : ∀ z : Nat, z ≤ p → wrap64 (z : Int) = (z : Int) := fun z hz => wid (by omega) (by omega)
      exact wn _ d1
     have es : (Hd.toI h).set ((root : Int) - 1).toNat head = Hd.toI (h.set (root - 1) head) := by rw [show ((root : Int) - 1).toNat = root - 1 by omega, toI_set]
     rw [wid (x := (root : Int) - 1) (by omega) (by omega), wid (x := (root : Int) + 1) (by omega) (by omega), ed, es, show Int.tmod (p : Int) (Hd.cR (hi - root) : Nat) = ((p % Hd.cR (hi - root) : Nat) : Int) from rfl, show (root : Int) - 1 = ((root - 1 : Nat) : Int) by omega, show (root : Int) + 1 = ((root + 1 : Nat) : Int) by omega]
     exact Ev.pos (by omega) (Ev.pos (by omega) (Ev.pos (by omega) (Ev.neg (by omega) (Ev.bind (spec_l4Row.f.ev E1) (Ev.bind (spec_l4Row.f.ev E2) (Ev.now _))))))
    ·rw [if_neg c2] at e
     obtain ⟨l1, E1⟩ := ihT h lo hi head (p - Hd.cR (root - lo) * Hd.cR (hi - root)) (root + 1) r e h1 (by omega) h3 h6 (by omega)
     refine ⟨l1, spec_l4Tree.l0.ev (pre (B := fun k t212 t213 => if (p : Int) < (wrap64 (t213 * t212)) then (if 0 ≤ (wrap64 ((root : Int) - 1)) then (if (wrap64 ((root : Int) - 1)) < ((Hd.toI h).length : Int) then (if t212 = 0 then (none) else ((spec_l4Row.f k ((Hd.toI h).set ((wrap64 ((root : Int) - 1)) : Int).toNat head) lo (wrap64 ((root : Int) - 1)) root (wrap64 (Int.tdiv p t212))).bind fun t215 => ((spec_l4Row.f k t215 (wrap64 ((root : Int) + 1)) hi root (Int.tmod p t212)).bind fun t216 => (some t216)))) else (none)) else (none)) else (spec_l4Tree.l0 k (Hd.toI h) lo hi head (wrap64 (p - (wrap64 (t213 * t212)))) (wrap64 ((root : Int) + 1)))) ?_)⟩
     simp only [em, wz]
     generalize Hd.cR (root - lo) * Hd.cR (hi - root) = z at hz c2 E1
     rw [wid (x := (p : Int) - z) (by omega) (by omega), wid (x := (root : Int) + 1) (by omega) (by omega), show (p : Int) - z = ((p - z : Nat) : Int) by omega, show (root : Int) + 1 = ((root + 1 : Nat) : Int) by omega]
     exact Ev.neg (by omega) E1
   ·rw [if_neg c] at e
    obtain rfl := Option.some.inj e
    exact ⟨rfl, spec_l4Tree.l0.ev (Ev.neg (by omega) (Ev.now _))⟩
  ·rw [Hd.unR] at e
   have tl := Hd.toI_len h
   by_cases c : en ≤ hi
   ·rw [if_pos c] at e
    have C1 := cR_at (a := hi - en) (by omega)
    have C2 := cF_at (a := en - lo + 1) (by omega) (by omega)
    have hz := (prod_le (en - lo + 1) (hi - en)).2
    have em : ((Hd.cF (en - lo + 1) : Nat) : Int) * ((Hd.cR (hi - en) : Nat) : Int) = ((Hd.cF (en - lo + 1) * Hd.cR (hi - en) : Nat) : Int) := by push_cast; rfl
    have wz := wid (x := ((Hd.cF (en - lo + 1) * Hd.cR (hi - en) : Nat) : Int)) (by omega) (by omega)
    have pre : ∀ {B : Nat → Int → Int → Option (List Int)} {q : List Int}, Ev (fun k => B k (Hd.cR (hi - en) : Nat) (Hd.cF (en - lo + 1) : Nat)) q → Ev (fun k => if (en : Int) ≤ (hi : Int) then ((spec_l4Rows.f k (wrap64 ((hi : Int) - en))).bind fun t217 => ((spec_l4Flat.f k (wrap64 ((wrap64 ((en : Int) - lo)) + 1))).bind fun t218 => B k t217 t218)) else some (Hd.toI h)) q := by
     intro B q n
     rw [wid (x := (hi : Int) - en) (by omega) (by omega), wid (x := (en : Int) - lo) (by omega) (by omega), wid (x := (en : Int) - lo + 1) (by omega) (by omega), show (hi : Int) - en = ((hi - en : Nat) : Int) by omega, show (en : Int) - lo + 1 = ((en - lo + 1 : Nat) : Int) by omega]
     exact Ev.pos (by omega) (Ev.bind C1 (Ev.bind C2 n))
    by_cases c2 : p < Hd.cF (en - lo + 1) * Hd.cR (hi - en)
    ·rw [if_pos c2] at e
     obtain ⟨g1, hg, e⟩ := Option.bind_eq_some_iff.1 e
     have c0 : Hd.cR (hi - en) ≠ 0 := fun z => by rw [z, Nat.mul_zero] at c2; omega
     have d1 := Nat.div_le_self p (Hd.cR (hi - en))
     have d2 := Nat.mod_le p (Hd.cR (hi - en))
     obtain ⟨l1, E1⟩ := ihT h lo en head (p / Hd.cR (hi - en)) lo g1 hg h1 (Nat.le_refl _) (by omega) h6 (by omega)
     obtain ⟨l2, E2⟩ := ihR g1 (en + 1) hi head (p % Hd.cR (hi - en)) (en + 1) r e (by omega) (Nat.le_refl _) (by omega) (by omega) (by omega)
     refine ⟨by omega, spec_l4Row.l0.ev (pre (B := fun k t217 t218 => if (p : Int) < (wrap64 (t218 * t217)) then (if t217 = 0 then (none) else ((spec_l4Tree.f k (Hd.toI h) lo en head (wrap64 (Int.tdiv p t217))).bind fun t219 => ((spec_l4Row.f k t219 (wrap64 ((en : Int) + 1)) hi head (Int.tmod p t217)).bind fun t220 => (some t220)))) else (spec_l4Row.l0 k (Hd.toI h) lo hi head (wrap64 (p - (wrap64 (t218 * t217)))) (wrap64 ((en : Int) + 1)))) ?_)⟩
     simp only [em, wz]
     have ed : wrap64 (Int.tdiv (p : Int) (Hd.cR (hi - en) : Nat)) = ((p / Hd.cR (hi - en) : Nat) : Int) := by
      have wn : ∀ z : Nat, z ≤ p → wrap64 (z : Int) = (z : Int) := fun z hz => wid (by omega) (by omega)
      exact wn _ d1
     rw [wid (x := (en : Int) + 1) (by omega) (by omega), ed, show Int.tmod (p : Int) (Hd.cR (hi - en) : Nat) = ((p % Hd.cR (hi - en) : Nat) : Int) from rfl, show (en : Int) + 1 = ((en + 1 : Nat) : Int) by omega]
     exact Ev.pos (by omega) (Ev.neg (by omega) (Ev.bind (spec_l4Tree.f.ev E1) (Ev.bind (spec_l4Row.f.ev E2) (Ev.now _))))
    ·rw [if_neg c2] at e
     obtain ⟨l1, E1⟩ := ihR h lo hi head (p - Hd.cF (en - lo + 1) * Hd.cR (hi - en)) (en + 1) r e h1 (by omega) h3 h6 (by omega)
     refine ⟨l1, spec_l4Row.l0.ev (pre (B := fun k t217 t218 => if (p : Int) < (wrap64 (t218 * t217)) then (if t217 = 0 then (none) else ((spec_l4Tree.f k (Hd.toI h) lo en head (wrap64 (Int.tdiv p t217))).bind fun t219 => ((spec_l4Row.f k t219 (wrap64 ((en : Int) + 1)) hi head (Int.tmod p t217)).bind fun t220 => (some t220)))) else (spec_l4Row.l0 k (Hd.toI h) lo hi head (wrap64 (p - (wrap64 (t218 * t217)))) (wrap64 ((en : Int) + 1)))) ?_)⟩
     simp only [em, wz]
     generalize Hd.cF (en - lo + 1) * Hd.cR (hi - en) = z at hz c2 E1
     rw [wid (x := (p : Int) - z) (by omega) (by omega), wid (x := (en : Int) + 1) (by omega) (by omega), show (p : Int) - z = ((p - z : Nat) : Int) by omega, show (en : Int) + 1 = ((en + 1 : Nat) : Int) by omega]
     exact Ev.neg (by omega) E1
   ·rw [if_neg c] at e
    obtain rfl := Option.some.inj e
    exact ⟨rfl, spec_l4Row.l0.ev (Ev.neg (by omega) (Ev.now _))⟩

/-! spec_l4Tree -/

-- (with spec_l4Row)

/-! spec_FlatAt -/

theorem spec_FlatAt_ev (a b : Int) : Ev (fun k => spec_FlatAt.f k a b) (flatAtI a b) := by
 unfold spec_FlatAt.f flatAtI
 by_cases ha : 1 ≤ a ∧ a ≤ 6
 ·refine Ev.bindv (spec_l1In_eq _ _ _) (Ev.pos (by simp; omega) (Ev.bind (spec_l4Flat_in ha.1 ha.2) ?_))
  obtain ⟨n, rfl⟩ : ∃ n : Nat, a = n := ⟨a.toNat, by omega⟩
  have ec := cF_eq' (a := n) (by omega) (by omega)
  have el := tF_len (n := n) (by omega) (by omega)
  have hc : Hd.cF n ≤ 728 := by unfold Hd.cF; split <;> omega
  rw [wid (x := flatN (n : Int) - 1) (by omega) (by omega)]
  by_cases hb : 0 ≤ b ∧ b < flatN (n : Int)
  ·rw [if_pos hb]
   obtain ⟨m, rfl⟩ : ∃ m : Nat, b = m := ⟨b.toNat, by omega⟩
   have A := Hd.at_at (n := n) (p := m) (by omega) (by omega) (by omega)
   have U := ((un_both 80).1 (List.replicate n 0) 1 n 0 m 1 _ A (Nat.le_refl _) (Nat.le_refl _) (by simp) (by simp; omega) (by omega)).2
   have er : Hd.toI (List.replicate n 0) = List.replicate n 0 := by simp [Hd.toI]
   rw [er] at U
   refine Ev.bindv (spec_l1In_eq _ _ _) (Ev.pos (by simp; omega) (Ev.pos (by omega) (Ev.pos (by omega) ?_)))
   rw [Int.toNat_natCast, Int.toNat_natCast]
   exact Ev.bind (spec_l4Tree.f.ev U) (Ev.now _)
  ·rw [if_neg hb]
   exact Ev.bindv (spec_l1In_eq _ _ _) (Ev.neg (by simp; omega) (Ev.now _))
 ·have hn : flatN a = -1 := flatN_out ha
  rw [if_neg (by omega)]
  exact Ev.bindv (spec_l1In_eq _ _ _) (Ev.neg (by simp; omega) (Ev.now _))

/-! impl_CountRows -/
theorem impl_CountRows.j0.ev {x0 : Int} {x10 : Bool} {r : Int} (h : Ev (fun k => if x10 = true then (some (-1)) else (if x0 = 0 then (some 1) else (impl_CountRows.l0 k x0 0 1))) r) : Ev (fun k => impl_CountRows.j0 k x0 x10) r := Ev.step (fun _ => rfl) h
theorem impl_CountRows.l0.ev {x0 : Int} {x3 : Int} {x4 : Int} {r : Int} (h : Ev (fun k => if x4 ≤ x0 then ((impl_CountFlat.f k x4).bind fun t131 => ((impl_CountRows.f k (wrap64 (x0 - x4))).bind fun t132 => (impl_CountRows.l0 k x0 (wrap64 (x3 + (wrap64 (t131 * t132)))) (wrap64 (x4 + 1))))) else (some x3)) r) : Ev (fun k => impl_CountRows.l0 k x0 x3 x4) r := Ev.step (fun _ => rfl) h
theorem impl_CountRows.f.ev {a0 : Int} {r : Int} (h : Ev (fun k => if a0 < 0 then (impl_CountRows.j0 k a0 true) else (impl_CountRows.j0 k a0 (decide (a0 > 6)))) r) : Ev (fun k => impl_CountRows.f k a0) r := Ev.step (fun _ => rfl) h
theorem impl_CountFlat.j0.ev {x0 : Int} {x10 : Bool} {r : Int} (h : Ev (fun k => if x10 = true then (some (-1)) else (impl_CountFlat.l0 k x0 0 x0 0)) r) : Ev (fun k => impl_CountFlat.j0 k x0 x10) r := Ev.step (fun _ => rfl) h
theorem impl_CountFlat.l0.ev {x0 : Int} {x3 : Int} {x11 : Int} {x12 : Int} {r : Int} (h : Ev (fun k => if x12 < x11 then ((impl_CountRows.f k x12).bind fun t133 => ((impl_CountRows.f k (wrap64 ((wrap64 (x0 - 1)) - x12))).bind fun t134 => (impl_CountFlat.l0 k x0 (wrap64 (x3 + (wrap64 (t133 * t134)))) x11 (wrap64 (x12 + 1))))) else (some x3)) r) : Ev (fun k => impl_CountFlat.l0 k x0 x3 x11 x12) r := Ev.step (fun _ => rfl) h
theorem impl_CountFlat.f.ev {a0 : Int} {r : Int} (h : Ev (fun k => if a0 < 1 then (impl_CountFlat.j0 k a0 true) else (impl_CountFlat.j0 k a0 (decide (a0 > 6)))) r) : Ev (fun k => impl_CountFlat.f k a0) r := Ev.step (fun _ => rfl) h
set_option maxRecDepth 100000 in
theorem impl_CountRows_in {a : Int} (h0 : 0 ≤ a) (h1 : a ≤ 6) : Ev (fun k => impl_CountRows.f k a) (rowsN a) := by
 have h : a = 0 ∨ a = 1 ∨ a = 2 ∨ a = 3 ∨ a = 4 ∨ a = 5 ∨ a = 6 := by omega
 rcases h with rfl | rfl | rfl | rfl | rfl | rfl | rfl
 ·exact Ev.lit 80 fun m => by kernel_rfl
 ·exact Ev.lit 80 fun m => by kernel_rfl
 ·exact Ev.lit 80 fun m => by kernel_rfl
 ·exact Ev.lit 80 fun m => by kernel_rfl
 ·exact Ev.lit 80 fun m => by kernel_rfl
 ·exact Ev.lit 80 fun m => by kernel_rfl
 ·exact Ev.lit 80 fun m => by kernel_rfl
theorem impl_CountRows_ev (a : Int) : Ev (fun k => impl_CountRows.f k a) (rowsN a) := by
 by_cases h : 0 ≤ a ∧ a ≤ 6
 ·exact impl_CountRows_in h.1 h.2
 ·rw [rowsN_out h]
  refine impl_CountRows.f.ev ?_
  by_cases h0 : a < 0
  ·exact Ev.pos h0 (impl_CountRows.j0.ev (Ev.pos rfl (Ev.now _)))
  ·exact Ev.neg h0 (impl_CountRows.j0.ev (Ev.pos (by simp; omega) (Ev.now _)))

/-! impl_CountFlat -/

set_option maxRecDepth 100000 in
theorem impl_CountFlat_in {a : Int} (h0 : 1 ≤ a) (h1 : a ≤ 6) : Ev (fun k => impl_CountFlat.f k a) (flatN a) := by
 have h : a = 1 ∨ a = 2 ∨ a = 3 ∨ a = 4 ∨ a = 5 ∨ a = 6 := by omega
 rcases h with rfl | rfl | rfl | rfl | rfl | rfl
 ·exact Ev.lit 80 fun m => by kernel_rfl
 ·exact Ev.lit 80 fun m => by kernel_rfl
 ·exact Ev.lit 80 fun m => by kernel_rfl
 ·exact Ev.lit 80 fun m => by kernel_rfl
 ·exact Ev.lit 80 fun m => by kernel_rfl
 ·exact Ev.lit 80 fun m => by kernel_rfl
theorem impl_CountFlat_ev (a : Int) : Ev (fun k => impl_CountFlat.f k a) (flatN a) := by
 by_cases h : 1 ≤ a ∧ a ≤ 6
 ·exact impl_CountFlat_in h.1 h.2
 ·rw [flatN_out h]
  refine impl_CountFlat.f.ev ?_
  by_cases h0 : a < 1
  ·exact Ev.pos h0 (impl_CountFlat.j0.ev (Ev.pos rfl (Ev.now _)))
  ·exact Ev.neg h0 (impl_CountFlat.j0.ev (Ev.pos (by simp; omega) (Ev.now _)))

/-! impl_joined -/
theorem impl_joined.l0.ev {x0 : List Int} {x1 : List Int} {x2 : Int} {x3 : Int} {x9 : List Int} {x16 : List Int} {x17 : Int} {x18 : Int} {r : List Int} (h : Ev (fun k => if x18 < x17 then (if 0 ≤ x18 then (if x18 < (x16.length : Int) then (if (rd x16 x18) = 0 then (if x9.length < 17592186044416 then (impl_joined.l0 k x0 x1 x2 x3 (x9 ++ [x3]) x16 x17 (wrap64 (x18 + 1))) else (none)) else (if x9.length < 17592186044416 then (impl_joined.l0 k x0 x1 x2 x3 (x9 ++ [rd x16 x18]) x16 x17 (wrap64 (x18 + 1))) else (none))) else (none)) else (none)) else (if x2 > 0 then (if x9.length < 17592186044416 then (impl_joined.j1 k x0 x1 x2 x3 (x9 ++ [0])) else (none)) else (impl_joined.j1 k x0 x1 x2 x3 x9))) r) : Ev (fun k => impl_joined.l0 k x0 x1 x2 x3 x9 x16 x17 x18) r := Ev.step (fun _ => rfl) h
theorem impl_joined.j1.ev {x0 : List Int} {x1 : List Int} {x2 : Int} {x3 : Int} {x9 : List Int} {r : List Int} (h : Ev (fun k => impl_joined.l1 k x3 x9 (wrap64 ((x0.length : Int) + x2)) x1 (x1.length : Int) 0) r) : Ev (fun k => impl_joined.j1 k x0 x1 x2 x3 x9) r := Ev.step (fun _ => rfl) h
theorem impl_joined.l1.ev {x3 : Int} {x9 : List Int} {x12 : Int} {x39 : List Int} {x40 : Int} {x41 : Int} {r : List Int} (h : Ev (fun k => if x41 < x40 then (if 0 ≤ x41 then (if x41 < (x39.length : Int) then (if (rd x39 x41) = 0 then (if x9.length < 17592186044416 then (impl_joined.l1 k x3 (x9 ++ [x3]) x12 x39 x40 (wrap64 (x41 + 1))) else (none)) else (if x9.length < 17592186044416 then (impl_joined.l1 k x3 (x9 ++ [wrap64 ((rd x39 x41) + x12)]) x12 x39 x40 (wrap64 (x41 + 1))) else (none))) else (none)) else (none)) else (some x9)) r) : Ev (fun k => impl_joined.l1 k x3 x9 x12 x39 x40 x41) r := Ev.step (fun _ => rfl) h
theorem rd_toI (a : List Nat) (j : Nat) : rd (Hd.toI a) (j : Int) = ((a.getD j 0 : Nat) : Int) := Hd.toI_getD a j
theorem take_map {α β : Type} {a : List α} {j : Nat} (d : α) (g : α → β) (h : j < a.length) : (a.take (j + 1)).map g = (a.take j).map g ++ [g (a.getD j d)] := by
 rw [List.take_succ_eq_append_getElem h, List.map_append, List.getD_eq_getElem?_getD, List.getElem?_eq_getElem h]; rfl
theorem toI_app (a b : List Nat) : Hd.toI (a ++ b) = Hd.toI a ++ Hd.toI b := List.map_append
/-- A row of small numbers. -/
def Small (a : List Nat) : Prop := a.length ≤ 6 ∧ ∀ y, y ∈ a → y ≤ 6
theorem Small.at {a : List Nat} (s : Small a) {j : Nat} (h : j < a.length) : a.getD j 0 ≤ 6 := by
 rw [List.getD_eq_getElem?_getD, List.getElem?_eq_getElem h]; exact s.2 _ (List.getElem_mem h)
theorem impl_joined_l1 {b out : List Nat} (sb : Small b) {word sh : Nat} (hw : word ≤ 6) (hs : sh ≤ 7) (ho : out.length ≤ 100) : ∀ i : Int, i ≤ (b.length : Int) → 0 ≤ i →
  Ev (fun k => impl_joined.l1 k word (Hd.toI (out ++ (b.take i.toNat).map (fun h => if h = 0 then word else h + sh))) sh (Hd.toI b) b.length i) (Hd.toI (out ++ b.map (fun h => if h = 0 then word else h + sh))) := by
 have tl := Hd.toI_len b
 have hb := sb.1
 refine Hd.down ?_
 intro i hi ih h0
 obtain ⟨j, rfl⟩ := Int.eq_ofNat_of_zero_le h0
 refine impl_joined.l1.ev ?_
 rw [Int.toNat_natCast]
 by_cases hlt : (j : Int) < b.length
 ·have next := ih hlt (by omega)
  rw [show ((j : Int) + 1).toNat = j + 1 from by omega, take_map 0 _ (by omega), ← List.append_assoc, toI_app] at next
  have hx := sb.at (j := j) (by omega)
  have hol : (Hd.toI (out ++ (b.take j).map (fun h => if h = 0 then word else h + sh))).length < 17592186044416 := by
   rw [Hd.toI_len]; simp; omega
  rw [wid (x := (j : Int) + 1) (by omega) (by omega), rd_toI]
  generalize b.getD j 0 = x at next hx
  rw [wid (x := (x : Int) + (sh : Int)) (by omega) (by omega)]
  refine Ev.pos hlt (Ev.pos h0 (Ev.pos (by omega) ?_))
  by_cases c : x = 0
  ·rw [if_pos c] at next
   exact Ev.pos (by omega) (Ev.pos hol next)
  ·rw [if_neg c] at next
   refine Ev.neg (by omega) (Ev.pos hol ?_)
   simpa [Hd.toI] using next
 ·refine Ev.neg hlt (Ev.ret ?_)
  rw [List.take_of_length_le (by omega)]
theorem impl_joined_ev {a b : List Nat} (sa : Small a) (sb : Small b) {word skip : Nat} (hw : word ≤ 6) (hs : skip ≤ 1) : Ev (fun k => impl_joined.f k (Hd.toI a) (Hd.toI b) skip word) (Hd.toI (Hd.joinN a b skip word)) := by
 have tl := Hd.toI_len a
 have ha := sa.1
 have main : ∀ i : Int, i ≤ (a.length : Int) → 0 ≤ i → Ev (fun k => impl_joined.l0 k (Hd.toI a) (Hd.toI b) skip word (Hd.toI ((a.take i.toNat).map (fun h => if h = 0 then word else h))) (Hd.toI a) (a.length : Int) i) (Hd.toI (Hd.joinN a b skip word)) := by
  refine Hd.down ?_
  intro i hi ih h0
  obtain ⟨j, rfl⟩ := Int.eq_ofNat_of_zero_le h0
  refine impl_joined.l0.ev ?_
  rw [Int.toNat_natCast]
  have hol : (Hd.toI ((a.take j).map (fun h => if h = 0 then word else h))).length < 17592186044416 := by
   rw [Hd.toI_len]; simp; omega
  by_cases hlt : (j : Int) < a.length
  ·have next := ih hlt (by omega)
   rw [show ((j : Int) + 1).toNat = j + 1 from by omega, take_map 0 _ (by omega), toI_app] at next
   rw [wid (x := (j : Int) + 1) (by omega) (by omega), rd_toI]
   generalize a.getD j 0 = x at next
   refine Ev.pos hlt (Ev.pos h0 (Ev.pos (by omega) ?_))
   by_cases c : x = 0
   ·rw [if_pos c] at next
    exact Ev.pos (by omega) (Ev.pos hol next)
   ·rw [if_neg c] at next
    exact Ev.neg (by omega) (Ev.pos hol next)
  ·refine Ev.neg hlt ?_
   rw [List.take_of_length_le (by omega)] at hol ⊢
   have e12 : wrap64 (((Hd.toI a).length : Int) + (skip : Int)) = ((a.length + skip : Nat) : Int) := by rw [wid (by omega) (by omega), tl]; omega
   by_cases c : (skip : Int) > 0
   ·refine Ev.pos c (Ev.pos hol (impl_joined.j1.ev ?_))
    have L := impl_joined_l1 (out := a.map (fun h => if h = 0 then word else h) ++ [0]) sb (word := word) (sh := a.length + skip) hw (by omega) (by simp; omega) 0 (by omega) (by omega)
    rw [Int.toNat_zero, List.take_zero, List.map_nil, List.append_nil, toI_app] at L
    rw [e12, Hd.toI_len]
    have e : a.map (fun h => if h = 0 then word else h) ++ [0] ++ b.map (fun h => if h = 0 then word else h + (a.length + skip)) = Hd.joinN a b skip word := by
     rw [Hd.joinN, if_neg (by omega), List.append_assoc]
    rw [e] at L
    exact L
   ·refine Ev.neg c (impl_joined.j1.ev ?_)
    have L := impl_joined_l1 (out := a.map (fun h => if h = 0 then word else h)) sb (word := word) (sh := a.length + skip) hw (by omega) (by simp; omega) 0 (by omega) (by omega)
    rw [Int.toNat_zero, List.take_zero, List.map_nil, List.append_nil] at L
    rw [e12, Hd.toI_len]
    have e : a.map (fun h => if h = 0 then word else h) ++ b.map (fun h => if h = 0 then word else h + (a.length + skip)) = Hd.joinN a b skip word := by
     rw [Hd.joinN, if_pos (by omega), List.nil_append]
    rw [e] at L
    exact L
 have m := main 0 (by omega) (by omega)
 rw [Int.toNat_zero, List.take_zero, List.map_nil] at m
 unfold impl_joined.f
 rw [tl]
 exact m

/-! impl_rows -/
theorem impl_rows.l0.ev {x0 : Int} {x3 : List (List Int)} {x4 : Int} {r : (List (List Int))} (h : Ev (fun k => if x4 ≤ x0 then ((impl_rows.f k (wrap64 (x0 - x4))).bind fun t164 => ((impl_flats.f k x4).bind fun t167 => (impl_rows.l1 k x0 x3 x4 t164 t167 (t167.length : Int) 0))) else (some x3)) r) : Ev (fun k => impl_rows.l0 k x0 x3 x4) r := Ev.step (fun _ => rfl) h
theorem impl_rows.l1.ev {x0 : Int} {x3 : List (List Int)} {x4 : Int} {x5 : List (List Int)} {x25 : List (List Int)} {x26 : Int} {x27 : Int} {r : (List (List Int))} (h : Ev (fun k => if x27 < x26 then (if 0 ≤ x27 then (if x27 < (x25.length : Int) then (impl_rows.l2 k x0 x3 x4 x5 (rd_L1 x25 x27) x25 x26 x27 x5 (x5.length : Int) 0) else (none)) else (none)) else (impl_rows.l0 k x0 x3 (wrap64 (x4 + 1)))) r) : Ev (fun k => impl_rows.l1 k x0 x3 x4 x5 x25 x26 x27) r := Ev.step (fun _ => rfl) h
theorem impl_rows.l2.ev {x0 : Int} {x3 : List (List Int)} {x4 : Int} {x5 : List (List Int)} {x7 : List Int} {x25 : List (List Int)} {x26 : Int} {x27 : Int} {x31 : List (List Int)} {x32 : Int} {x33 : Int} {r : (List (List Int))} (h : Ev (fun k => if x33 < x32 then (if 0 ≤ x33 then (if x33 < (x31.length : Int) then ((impl_joined.f k x7 (rd_L1 x31 x33) 0 0).bind fun t172 => (if x3.length < 5864062014805 then (impl_rows.l2 k x0 (x3 ++ [t172]) x4 x5 x7 x25 x26 x27 x31 x32 (wrap64 (x33 + 1))) else (none))) else (none)) else (none)) else (impl_rows.l1 k x0 x3 x4 x5 x25 x26 (wrap64 (x27 + 1)))) r) : Ev (fun k => impl_rows.l2 k x0 x3 x4 x5 x7 x25 x26 x27 x31 x32 x33) r := Ev.step (fun _ => rfl) h
theorem impl_rows.f.ev {a0 : Int} {r : (List (List Int))} (h : Ev (fun k => if a0 = 0 then (some (([[]] : List (List Int)))) else (impl_rows.l0 k a0 (([] : List (List Int))) 1)) r) : Ev (fun k => impl_rows.f k a0) r := Ev.step (fun _ => rfl) h
theorem impl_flats.l0.ev {x0 : Int} {x3 : List (List Int)} {x10 : Int} {x11 : Int} {r : (List (List Int))} (h : Ev (fun k => if x11 < x10 then ((impl_rows.f k x11).bind fun t181 => (impl_flats.l1 k x0 x3 x11 x10 x11 t181 (t181.length : Int) 0)) else (some x3)) r) : Ev (fun k => impl_flats.l0 k x0 x3 x10 x11) r := Ev.step (fun _ => rfl) h
theorem impl_flats.l1.ev {x0 : Int} {x3 : List (List Int)} {x4 : Int} {x10 : Int} {x11 : Int} {x15 : List (List Int)} {x16 : Int} {x17 : Int} {r : (List (List Int))} (h : Ev (fun k => if x17 < x16 then (if 0 ≤ x17 then (if x17 < (x15.length : Int) then ((impl_rows.f k (wrap64 ((wrap64 (x0 - 1)) - x4))).bind fun t185 => (impl_flats.l2 k x0 x3 x4 (rd_L1 x15 x17) x10 x11 x15 x16 x17 t185 (t185.length : Int) 0)) else (none)) else (none)) else (impl_flats.l0 k x0 x3 x10 (wrap64 (x11 + 1)))) r) : Ev (fun k => impl_flats.l1 k x0 x3 x4 x10 x11 x15 x16 x17) r := Ev.step (fun _ => rfl) h
theorem impl_flats.l2.ev {x0 : Int} {x3 : List (List Int)} {x4 : Int} {x6 : List Int} {x10 : Int} {x11 : Int} {x15 : List (List Int)} {x16 : Int} {x17 : Int} {x25 : List (List Int)} {x26 : Int} {x27 : Int} {r : (List (List Int))} (h : Ev (fun k => if x27 < x26 then (if 0 ≤ x27 then (if x27 < (x25.length : Int) then ((impl_joined.f k x6 (rd_L1 x25 x27) 1 (wrap64 (x4 + 1))).bind fun t189 => (if x3.length < 5864062014805 then (impl_flats.l2 k x0 (x3 ++ [t189]) x4 x6 x10 x11 x15 x16 x17 x25 x26 (wrap64 (x27 + 1))) else (none))) else (none)) else (none)) else (impl_flats.l1 k x0 x3 x4 x10 x11 x15 x16 (wrap64 (x17 + 1)))) r) : Ev (fun k => impl_flats.l2 k x0 x3 x4 x6 x10 x11 x15 x16 x17 x25 x26 x27) r := Ev.step (fun _ => rfl) h
theorem impl_flats.f.ev {a0 : Int} {r : (List (List Int))} (h : Ev (fun k => impl_flats.l0 k a0 (([] : List (List Int))) a0 0) r) : Ev (fun k => impl_flats.f k a0) r := Ev.step (fun _ => rfl) h
-- (with impl_flats)

/-! impl_flats -/

def RL (x : List (List Nat)) : List (List Int) := x.map Hd.toI
theorem RL_len (x : List (List Nat)) : (RL x).length = x.length := List.length_map _
theorem RL_app (a b : List (List Nat)) : RL (a ++ b) = RL a ++ RL b := List.map_append
theorem rd_RL (xs : List (List Nat)) (j : Nat) : rd_L1 (RL xs) (j : Int) = Hd.toI (xs.getD j []) := by
 simp only [rd_L1, RL, List.getD_eq_getElem?_getD, List.getElem?_map, Int.toNat_natCast]
 cases xs[j]? <;> rfl
theorem getD_memL {α : Type} {l : List α} {i : Nat} {d : α} (h : i < l.length) : l.getD i d ∈ l := by
 rw [List.getD_eq_getElem?_getD, List.getElem?_eq_getElem h]; exact List.getElem_mem h
theorem take_flat {α β : Type} {a : List α} {j : Nat} (d : α) (g : α → List β) (h : j < a.length) : (a.take (j + 1)).flatMap g = (a.take j).flatMap g ++ g (a.getD j d) := by
 rw [List.take_succ_eq_append_getElem h, List.flatMap_append, List.getD_eq_getElem?_getD, List.getElem?_eq_getElem h]; simp
theorem take_flat_le {α β : Type} (a : List α) (j : Nat) (g : α → List β) : ((a.take j).flatMap g).length ≤ (a.flatMap g).length := by
 have := congrArg (fun q => (q.flatMap g).length) (List.take_append_drop j a)
 simp only [List.flatMap_append, List.length_append] at this
 omega
theorem range_flat {β : Type} (m : Nat) (g : Nat → List β) : (List.range (m + 1)).flatMap g = (List.range m).flatMap g ++ g m := by
 rw [List.range_succ, List.flatMap_append]; simp
theorem range_flat_le {β : Type} {m n : Nat} (h : m ≤ n) (g : Nat → List β) : ((List.range m).flatMap g).length ≤ ((List.range n).flatMap g).length := by
 obtain ⟨c, rfl⟩ := Nat.exists_eq_add_of_le h
 induction c with
 | zero => exact Nat.le_refl _
 | succ c ih =>
  have := ih (by omega)
  rw [← Nat.add_assoc, range_flat, List.length_append]; omega
def AllSmall (x : List (List Nat)) : Prop := ∀ y, y ∈ x → Small y
theorem small_F {n : Nat} (h : n ≤ 6) : AllSmall (Hd.tF n) := fun y hy => by
 have := (Hd.t_sizes n h).2.2.1 y hy
 exact ⟨by omega, this.2⟩
theorem small_R {n : Nat} (h : n ≤ 6) : AllSmall (Hd.tR n) := fun y hy => by
 have := (Hd.t_sizes n h).2.2.2 y hy
 exact ⟨by omega, this.2⟩
theorem impl_flats_l2 {n left j : Nat} {one : List Nat} {others acc : List (List Nat)} {x15 : List (List Int)} {x10 x11 x16 : Int} {r : List (List Int)} (hleft : left ≤ 5) (hj : j ≤ 2000) (so : Small one) (sos : AllSmall others)
  (hB : (acc ++ others.map fun o => Hd.joinN one o 1 (left + 1)).length ≤ 2000)
  (next : Ev (fun k => impl_flats.l1 k n (RL (acc ++ others.map fun o => Hd.joinN one o 1 (left + 1))) left x10 x11 x15 x16 ((j + 1 : Nat) : Int)) r) :
  ∀ i : Int, i ≤ (others.length : Int) → 0 ≤ i → Ev (fun k => impl_flats.l2 k n (RL (acc ++ (others.take i.toNat).map fun o => Hd.joinN one o 1 (left + 1))) left (Hd.toI one) x10 x11 x15 x16 j (RL others) others.length i) r := by
 have tl := RL_len others
 rw [List.length_append, List.length_map] at hB
 refine Hd.down ?_
 intro i hi ih h0
 obtain ⟨q, rfl⟩ := Int.eq_ofNat_of_zero_le h0
 refine impl_flats.l2.ev ?_
 rw [Int.toNat_natCast]
 by_cases hlt : (q : Int) < others.length
 ·have nx := ih hlt (by omega)
  rw [show ((q : Int) + 1).toNat = q + 1 from by omega, take_map [] _ (by omega), ← List.append_assoc, RL_app] at nx
  have hol : (RL (acc ++ (others.take q).map fun o => Hd.joinN one o 1 (left + 1))).length < 5864062014805 := by
   rw [RL_len]; simp; omega
  have J := impl_joined_ev so (sos (others.getD q []) (getD_memL (by omega))) (word := left + 1) (skip := 1) (by omega) (by omega)
  rw [wid (x := (q : Int) + 1) (by omega) (by omega), wid (x := (left : Int) + 1) (by omega) (by omega), rd_RL]
  exact Ev.pos hlt (Ev.pos h0 (Ev.pos (by omega) (Ev.bind J (Ev.pos hol nx))))
 ·refine Ev.neg hlt ?_
  rw [List.take_of_length_le (by omega), wid (x := (j : Int) + 1) (by omega) (by omega)]
  exact next
theorem impl_flats_l1 {n left : Nat} {ones others acc : List (List Nat)} {r : List (List Int)} (hn : n ≤ 6) (hleft : left < n) (hones : AllSmall ones) (hlen : ones.length ≤ 1000) (sos : AllSmall others)
  (hR : Ev (fun k => impl_rows.f k ((n - 1 - left : Nat) : Int)) (RL others))
  (hB : (acc ++ ones.flatMap fun one => others.map fun o => Hd.joinN one o 1 (left + 1)).length ≤ 2000)
  (next : Ev (fun k => impl_flats.l0 k n (RL (acc ++ ones.flatMap fun one => others.map fun o => Hd.joinN one o 1 (left + 1))) n ((left + 1 : Nat) : Int)) r) :
  ∀ i : Int, i ≤ (ones.length : Int) → 0 ≤ i → Ev (fun k => impl_flats.l1 k n (RL (acc ++ (ones.take i.toNat).flatMap fun one => others.map fun o => Hd.joinN one o 1 (left + 1))) left n left (RL ones) ones.length i) r := by
 have tl := RL_len ones
 rw [List.length_append] at hB
 refine Hd.down ?_
 intro i hi ih h0
 obtain ⟨q, rfl⟩ := Int.eq_ofNat_of_zero_le h0
 refine impl_flats.l1.ev ?_
 rw [Int.toNat_natCast]
 by_cases hlt : (q : Int) < ones.length
 ·have nx := ih hlt (by omega)
  have hq : q < ones.length := by omega
  have hle := take_flat_le ones (q + 1) fun one => others.map fun o => Hd.joinN one o 1 (left + 1)
  rw [take_flat [] _ hq] at hle
  rw [show ((q : Int) + 1).toNat = q + 1 from by omega, take_flat [] _ hq, ← List.append_assoc, show (q : Int) + 1 = ((q + 1 : Nat) : Int) from by omega] at nx
  have L2 := impl_flats_l2 (j := q) (x10 := n) (x11 := left) (x15 := RL ones) (x16 := ones.length) (by omega) (by omega) (hones (ones.getD q []) (getD_memL hq)) sos (by rw [List.length_append, List.length_append]; rw [List.length_append] at hle; omega) nx 0 (by omega) (by omega)
  rw [Int.toNat_zero, List.take_zero, List.map_nil, List.append_nil] at L2
  rw [wid (x := (n : Int) - 1) (by omega) (by omega), wid (x := (n : Int) - 1 - (left : Int)) (by omega) (by omega), show (n : Int) - 1 - (left : Int) = ((n - 1 - left : Nat) : Int) by omega, rd_RL]
  refine Ev.pos hlt (Ev.pos h0 (Ev.pos (by omega) (Ev.bind hR ?_)))
  rw [RL_len]
  exact L2
 ·refine Ev.neg hlt ?_
  rw [List.take_of_length_le (by omega), wid (x := (left : Int) + 1) (by omega) (by omega)]
  exact next
theorem impl_flats_step {n : Nat} (hn : n ≤ 6) (hR : ∀ m, m < n → Ev (fun k => impl_rows.f k (m : Int)) (RL (Hd.tR m))) : Ev (fun k => impl_flats.f k (n : Int)) (RL (Hd.tF n)) := by
 have hsz := (Hd.t_sizes n hn).1
 have main : ∀ i : Int, i ≤ (n : Int) → 0 ≤ i → Ev (fun k => impl_flats.l0 k n (RL ((List.range i.toNat).flatMap fun left => (Hd.tR left).flatMap fun one => (Hd.tR (n - 1 - left)).map fun other => Hd.joinN one other 1 (left + 1))) n i) (RL (Hd.tF n)) := by
  refine Hd.down ?_
  intro i hi ih h0
  obtain ⟨q, rfl⟩ := Int.eq_ofNat_of_zero_le h0
  refine impl_flats.l0.ev ?_
  rw [Int.toNat_natCast]
  by_cases hlt : (q : Int) < n
  ·have nx := ih hlt (by omega)
   have hle := range_flat_le (m := q + 1) (n := n) (by omega) fun left => (Hd.tR left).flatMap fun one => (Hd.tR (n - 1 - left)).map fun other => Hd.joinN one other 1 (left + 1)
   rw [show ((List.range n).flatMap fun left => (Hd.tR left).flatMap fun one => (Hd.tR (n - 1 - left)).map fun other => Hd.joinN one other 1 (left + 1)) = Hd.tF n from Hd.tF_step n hn, range_flat] at hle
   rw [show ((q : Int) + 1).toNat = q + 1 from by omega, range_flat, show (q : Int) + 1 = ((q + 1 : Nat) : Int) from by omega] at nx
   have L1 := impl_flats_l1 hn (by omega) (small_R (n := q) (by omega)) ((Hd.t_sizes q (by omega)).2.1) (small_R (n := n - 1 - q) (by omega)) (hR _ (by omega)) (by omega) nx 0 (by omega) (by omega)
   rw [Int.toNat_zero, List.take_zero, List.flatMap_nil, List.append_nil] at L1
   refine Ev.pos hlt (Ev.bind (hR q (by omega)) ?_)
   rw [RL_len]
   exact L1
  ·refine Ev.neg hlt (Ev.ret ?_)
   rw [show q = n by omega]
   exact congrArg RL (Hd.tF_step n hn)
 refine impl_flats.f.ev ?_
 exact main 0 (by omega) (by omega)
theorem impl_rows_l2 {n j q5 : Nat} {one : List Nat} {others acc : List (List Nat)} {x5 x25 : List (List Int)} {x26 : Int} {r : List (List Int)} (hj : j ≤ 2000) (so : Small one) (sos : AllSmall others)
  (hB : (acc ++ others.map fun o => Hd.joinN one o 0 0).length ≤ 2000)
  (next : Ev (fun k => impl_rows.l1 k n (RL (acc ++ others.map fun o => Hd.joinN one o 0 0)) q5 x5 x25 x26 ((j + 1 : Nat) : Int)) r) :
  ∀ i : Int, i ≤ (others.length : Int) → 0 ≤ i → Ev (fun k => impl_rows.l2 k n (RL (acc ++ (others.take i.toNat).map fun o => Hd.joinN one o 0 0)) q5 x5 (Hd.toI one) x25 x26 j (RL others) others.length i) r := by
 have tl := RL_len others
 rw [List.length_append, List.length_map] at hB
 refine Hd.down ?_
 intro i hi ih h0
 obtain ⟨q, rfl⟩ := Int.eq_ofNat_of_zero_le h0
 refine impl_rows.l2.ev ?_
 rw [Int.toNat_natCast]
 by_cases hlt : (q : Int) < others.length
 ·have nx := ih hlt (by omega)
  rw [show ((q : Int) + 1).toNat = q + 1 from by omega, take_map [] _ (by omega), ← List.append_assoc, RL_app] at nx
  have hol : (RL (acc ++ (others.take q).map fun o => Hd.joinN one o 0 0)).length < 5864062014805 := by
   rw [RL_len]; simp; omega
  have J := impl_joined_ev so (sos (others.getD q []) (getD_memL (by omega))) (word := 0) (skip := 0) (by omega) (by omega)
  rw [wid (x := (q : Int) + 1) (by omega) (by omega), rd_RL]
  exact Ev.pos hlt (Ev.pos h0 (Ev.pos (by omega) (Ev.bind J (Ev.pos hol nx))))
 ·refine Ev.neg hlt ?_
  rw [List.take_of_length_le (by omega), wid (x := (j : Int) + 1) (by omega) (by omega)]
  exact next
theorem impl_rows_l1 {n q5 : Nat} {ones others acc : List (List Nat)} {r : List (List Int)} (h5 : q5 ≤ 6) (hones : AllSmall ones) (hlen : ones.length ≤ 1000) (sos : AllSmall others)
  (hB : (acc ++ ones.flatMap fun one => others.map fun o => Hd.joinN one o 0 0).length ≤ 2000)
  (next : Ev (fun k => impl_rows.l0 k n (RL (acc ++ ones.flatMap fun one => others.map fun o => Hd.joinN one o 0 0)) ((q5 + 1 : Nat) : Int)) r) :
  ∀ i : Int, i ≤ (ones.length : Int) → 0 ≤ i → Ev (fun k => impl_rows.l1 k n (RL (acc ++ (ones.take i.toNat).flatMap fun one => others.map fun o => Hd.joinN one o 0 0)) q5 (RL others) (RL ones) ones.length i) r := by
 have tl := RL_len ones
 rw [List.length_append] at hB
 refine Hd.down ?_
 intro i hi ih h0
 obtain ⟨q, rfl⟩ := Int.eq_ofNat_of_zero_le h0
 refine impl_rows.l1.ev ?_
 rw [Int.toNat_natCast]
 by_cases hlt : (q : Int) < ones.length
 ·have nx := ih hlt (by omega)
  have hq : q < ones.length := by omega
  have hle := take_flat_le ones (q + 1) fun one => others.map fun o => Hd.joinN one o 0 0
  rw [take_flat [] _ hq] at hle
  rw [show ((q : Int) + 1).toNat = q + 1 from by omega, take_flat [] _ hq, ← List.append_assoc, show (q : Int) + 1 = ((q + 1 : Nat) : Int) from by omega] at nx
  have L2 := impl_rows_l2 (j := q) (x5 := RL others) (x25 := RL ones) (x26 := ones.length) (by omega) (hones (ones.getD q []) (getD_memL hq)) sos (by rw [List.length_append, List.length_append]; rw [List.length_append] at hle; omega) nx 0 (by omega) (by omega)
  rw [Int.toNat_zero, List.take_zero, List.map_nil, List.append_nil] at L2
  rw [rd_RL]
  refine Ev.pos hlt (Ev.pos h0 (Ev.pos (by omega) ?_))
  rw [RL_len]
  exact L2
 ·refine Ev.neg hlt ?_
  rw [List.take_of_length_le (by omega), wid (x := (q5 : Int) + 1) (by omega) (by omega)]
  exact next
theorem impl_rows_step {n : Nat} (hn : n ≤ 5) (hF : ∀ m, m ≤ n → Ev (fun k => impl_flats.f k (m : Int)) (RL (Hd.tF m))) (hR : ∀ m, m < n → Ev (fun k => impl_rows.f k (m : Int)) (RL (Hd.tR m))) : Ev (fun k => impl_rows.f k (n : Int)) (RL (Hd.tR n)) := by
 refine impl_rows.f.ev ?_
 by_cases h0 : n = 0
 ·subst h0; exact Ev.pos rfl (Ev.now _)
 refine Ev.neg (by omega) ?_
 have hsz := (Hd.t_sizes n (by omega)).2.1
 have main : ∀ i : Int, i ≤ (n : Int) → 0 ≤ i → Ev (fun k => impl_rows.l0 k n (RL ((List.range i.toNat).flatMap fun j => (Hd.tF (j + 1)).flatMap fun one => (Hd.tR (n - (j + 1))).map fun other => Hd.joinN one other 0 0)) (i + 1)) (RL (Hd.tR n)) := by
  refine Hd.down ?_
  intro i hi ih h0
  obtain ⟨q, rfl⟩ := Int.eq_ofNat_of_zero_le h0
  refine impl_rows.l0.ev ?_
  rw [Int.toNat_natCast]
  by_cases hlt : (q : Int) < n
  ·have nx := ih hlt (by omega)
   have hle := range_flat_le (m := q + 1) (n := n) (by omega) fun j => (Hd.tF (j + 1)).flatMap fun one => (Hd.tR (n - (j + 1))).map fun other => Hd.joinN one other 0 0
   rw [show ((List.range n).flatMap fun j => (Hd.tF (j + 1)).flatMap fun one => (Hd.tR (n - (j + 1))).map fun other => Hd.joinN one other 0 0) = Hd.tR n from Hd.tR_step n (by omega) hn, range_flat] at hle
   rw [show ((q : Int) + 1).toNat = q + 1 from by omega, range_flat, show (q : Int) + 1 + 1 = ((q + 1 + 1 : Nat) : Int) from by omega] at nx
   have L1 := impl_rows_l1 (by omega) (small_F (n := q + 1) (by omega)) ((Hd.t_sizes (q + 1) (by omega)).1) (small_R (n := n - (q + 1)) (by omega)) (by omega) nx 0 (by omega) (by omega)
   rw [Int.toNat_zero, List.take_zero, List.flatMap_nil, List.append_nil] at L1
   rw [wid (x := (n : Int) - ((q : Int) + 1)) (by omega) (by omega), show (n : Int) - ((q : Int) + 1) = ((n - (q + 1) : Nat) : Int) by omega, show (q : Int) + 1 = ((q + 1 : Nat) : Int) by omega]
   refine Ev.pos (by omega) (Ev.bind (hR _ (by omega)) (Ev.bind (hF _ (by omega)) ?_))
   rw [RL_len]
   exact L1
  ·refine Ev.neg (by omega) (Ev.ret ?_)
   rw [show q = n by omega]
   exact congrArg RL (Hd.tR_step n (by omega) hn)
 exact main 0 (by omega) (by omega)
theorem impl_both_ev : ∀ n : Nat, (n ≤ 5 → Ev (fun k => impl_rows.f k (n : Int)) (RL (Hd.tR n))) ∧ (n ≤ 6 → Ev (fun k => impl_flats.f k (n : Int)) (RL (Hd.tF n))) := by
 intro n
 induction n using Nat.strongRecOn with
 | _ n ih =>
  have F : n ≤ 6 → Ev (fun k => impl_flats.f k (n : Int)) (RL (Hd.tF n)) := fun h => impl_flats_step h fun m hm => (ih m hm).1 (by omega)
  exact ⟨fun h => impl_rows_step h (fun m hm => by
   by_cases e : m = n
   ·subst e; exact F (by omega)
   ·exact (ih m (by omega)).2 (by omega)) fun m hm => (ih m hm).1 (by omega), F⟩
theorem impl_flats_ev {n : Nat} (h : n ≤ 6) : Ev (fun k => impl_flats.f k (n : Int)) (RL (Hd.tF n)) := (impl_both_ev n).2 h

/-! impl_FlatAt -/

theorem impl_FlatAt_ev (a b : Int) : Ev (fun k => impl_FlatAt.f k a b) (flatAtI a b) := by
 unfold impl_FlatAt.f flatAtI
 by_cases c : b < 0
 ·rw [if_neg (fun h => by omega)]
  exact Ev.pos c (Ev.now _)
 refine Ev.neg c (Ev.bind (impl_CountFlat_ev a) ?_)
 by_cases c2 : b ≥ flatN a
 ·rw [if_neg (fun h => by omega)]
  exact Ev.pos c2 (Ev.now _)
 rw [if_pos ⟨by omega, by omega⟩]
 have hr : 1 ≤ a ∧ a ≤ 6 := by
  by_cases h : 1 ≤ a ∧ a ≤ 6
  ·exact h
  ·rw [flatN_out h] at c2; omega
 obtain ⟨n, rfl⟩ : ∃ n : Nat, a = n := ⟨a.toNat, by omega⟩
 obtain ⟨m, rfl⟩ : ∃ m : Nat, b = m := ⟨b.toNat, by omega⟩
 have hl := tF_len (n := n) (by omega) (by omega)
 have hc := cF_eq' (a := n) (by omega) (by omega)
 have tl := RL_len (Hd.tF n)
 refine Ev.neg c2 (Ev.bind (impl_flats_ev (n := n) (by omega)) (Ev.pos (by omega) (Ev.pos (by omega) (Ev.ret ?_))))
 rw [rd_RL, Int.toNat_natCast, Int.toNat_natCast]


end Go.Proofs.Ytdckgafgidfplaa.QFnExactFlatAt
