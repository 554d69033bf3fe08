/- Contracts of the functions that the statement FnExactCrossingsOf reaches: what each printed function comes to. -/
import Derived.Test.YtikajogmjfldaaaQFnExactCrossingsOfx6
import Derived.Test.YtikajogmjfldaaaWSized
import Derived.Test.YtikajogmjfldaaaHdA
namespace Go.Proofs.Ytikajogmjfldaaa.PrintWords
/-- The name by which the printed row calls the word. -/
abbrev sized_ints := @Go.Proofs.YtikajogmjfldaaaW.PrintWords.sized_ints
end Go.Proofs.Ytikajogmjfldaaa.PrintWords
namespace Go.Proofs.Ytikajogmjfldaaa.QFnExactCrossingsOf
open Go.RowKit Go.Proofs.YtikajogmjfldaaaW.PrintWords Go.Proofs.YtikajogmjfldaaaW.PrintLast Go.Proofs.YtikajogmjfldaaaW.PrintMore
set_option linter.unusedVariables false
theorem wid {x : Int} (h : -9223372036854775808 ≤ x) (h' : x ≤ 9223372036854775807) : wrap64 x = x := by unfold wrap64; omega
theorem Ev.pos {α : Type} {c : Prop} [Decidable c] {A B : Nat → Option α} {r : α} (h : c) (e : Ev A r) : Ev (fun k => if c then A k else B k) r := by simpa only [if_pos h] using e
theorem Ev.neg {α : Type} {c : Prop} [Decidable c] {A B : Nat → Option α} {r : α} (h : ¬ c) (e : Ev B r) : Ev (fun k => if c then A k else B k) r := by simpa only [if_neg h] using e
theorem Ev.bindv {α β : Type} {o : Option α} {f : Nat → α → Option β} {a : α} {r : β} (h : o = some a) (k : Ev (fun n => f n a) r) : Ev (fun n => o.bind (f n)) r := by subst h; exact k
theorem Ev.ret {α : Type} {a r : α} (h : a = r) : Ev (fun _ => some a) r := h ▸ Ev.now a
theorem rd_hd {l : List Int} {a : Int} (h : 1 ≤ a) : rd l (a - 1) = Hd.hd l a := Hd.hd_get h
theorem rd_hd1 {l : List Int} {a : Int} (h : 0 ≤ a) : rd l a = Hd.hd l (a + 1) := by rw [← rd_hd (by omega)]; congr 1; omega
theorem mn_mx (a b : Int) : (mn a b = a ∧ mx a b = b ∧ a ≤ b) ∨ (mn a b = b ∧ mx a b = a ∧ b ≤ a) := by
 unfold mn mx
 split <;> split <;> omega
theorem h_or_i64 {a b : Nat} (ha : a < 256) (hb : b < 256) : Go.bits .or .i64 (a : Int) (b : Int) = ((a ||| b : Nat) : Int) :=
 (Go.bits_nat .i64 8 (by decide) (fun n h0 h1 => by rw [Go.IntKind.wrap_i64]; omega) a b (by omega) (by omega)).2
theorem h_shl_one {x : Nat} (h : x ≤ 7) : shl .i64 1 (x : Int) = ((2 ^ x : Nat) : Int) := by
 have : ∀ x : Nat, x < 8 → shl .i64 1 (x : Int) = ((2 ^ x : Nat) : Int) := by decide
 exact this x (by omega)
theorem h_shr_bit {v x : Nat} (h : x ≤ 64) : (Int.tmod (shr .i64 (v : Int) (x : Int)) 2 = 1) ↔ v.testBit x = true := by
 unfold shr
 rw [Int.toNat_natCast, Nat.min_eq_left (by simpa [Go.IntKind.bits] using h), Nat.testBit_eq_decide_div_mod_eq]
 have : ((v : Int) / 2 ^ x) = ((v / 2 ^ x : Nat) : Int) := by simp
 rw [this, Int.tmod_eq_emod_of_nonneg (Int.natCast_nonneg _), decide_eq_true_eq]
 omega
theorem h_shr_nat {v x : Nat} (h : x ≤ 64) : shr .i64 (v : Int) (x : Int) = ((v / 2 ^ x : Nat) : Int) := by
 unfold shr
 rw [Int.toNat_natCast, Nat.min_eq_left (by simpa [Go.IntKind.bits] using h)]
 simp
theorem h_and_i64 {a b : Nat} (ha : a < 512) (hb : b < 512) : Go.bits .and .i64 (a : Int) (b : Int) = ((a &&& b : Nat) : Int) :=
 (Go.bits_nat .i64 9 (by decide) (fun n h0 h1 => by rw [Go.IntKind.wrap_i64]; omega) a b (by omega) (by omega)).1
theorem h_rd_set {P : List Int} {i j : Int} {v : Int} (h0 : 0 ≤ i) (h1 : i < P.length) (hj : 0 ≤ j) : rd (P.set i.toNat v) j = if j = i then v else rd P j := by
 unfold rd
 rw [List.getD_eq_getElem?_getD, List.getElem?_set]
 by_cases e : j = i
 ·subst e
  rw [if_pos rfl, if_pos (by omega), if_pos rfl]; rfl
 ·rw [if_neg (by omega), if_neg e, List.getD_eq_getElem?_getD]
/-- Bytes of a code, as far as they are read. -/
def Bts (b : List Int) : Prop := b.length ≤ 2000 ∧ ∀ i : Int, 0 ≤ rd b i ∧ rd b i ≤ 255
theorem bts_rd {l : List Int} (h : ∀ x, x ∈ l → 0 ≤ x ∧ x ≤ 255) (i : Int) : 0 ≤ rd l i ∧ rd l i ≤ 255 := by
 unfold rd
 rw [List.getD_eq_getElem?_getD]
 by_cases hi : i.toNat < l.length
 ·rw [List.getElem?_eq_getElem hi]; exact h _ (List.getElem_mem hi)
 ·rw [List.getElem?_eq_none (by omega)]; simp
theorem Ev.lit {α : Type} {g : Nat → Option α} {r : α} (K : Nat) (h : ∀ m, g (m + K) = some r) : Ev g r := ⟨K, fun k hk => by obtain ⟨m, rfl⟩ := Nat.exists_eq_add_of_le' hk; exact h m⟩

/-! laws_toIntS -/
theorem laws_toIntS.l0.ev {x0 : List Int} {x3 : List Int} {x4 : Int} {r : List Int} (h : Ev (fun k => if x4 < (x0.length : Int) then (if 0 ≤ x4 then (if x4 < (x3.length : Int) then (laws_toIntS.l0 k x0 (x3.set (x4 : Int).toNat (rd x0 x4)) (wrap64 (x4 + 1))) else (none)) else (none)) else (some x3)) r) : Ev (fun k => laws_toIntS.l0 k x0 x3 x4) r := Ev.step (fun _ => rfl) h
theorem laws_toIntS_l0 {l : List Int} (hl : l.length ≤ 35184372088832) : ∀ i : Int, i ≤ l.length → 0 ≤ i → Ev (fun k => laws_toIntS.l0 k l (l.take i.toNat ++ List.replicate (l.length - i.toNat) 0) i) l := by
 refine Hd.down ?_
 intro i hi ih h0
 refine laws_toIntS.l0.ev ?_
 by_cases hlt : i < l.length
 ·rw [wid (x := i + 1) (by omega) (by omega)]
  refine Ev.pos hlt (Ev.pos h0 (Ev.pos (by simp; omega) ?_))
  have next := ih hlt (by omega)
  obtain ⟨j, rfl⟩ := Int.eq_ofNat_of_zero_le h0
  have hj : j < l.length := by omega
  rw [show ((j : Int) + 1).toNat = j + 1 from by omega] at next
  simp only [Int.toNat_natCast] at *
  have e : (l.take j ++ List.replicate (l.length - j) (0 : Int)).set j (rd l j) = l.take (j + 1) ++ List.replicate (l.length - (j + 1)) 0 := by
   rw [List.set_append, if_neg (by simp; omega)]
   rw [show l.length - j = (l.length - (j + 1)) + 1 from by omega, List.replicate_succ]
   rw [show j - (l.take j).length = 0 from by simp; omega, List.set_cons_zero, List.take_succ_eq_append_getElem hj]
   simp only [rd, List.getD_eq_getElem?_getD, Int.toNat_natCast, List.getElem?_eq_getElem hj, Option.getD_some, List.append_assoc, List.singleton_append]
  rw [e]; exact next
 ·refine Ev.neg hlt (Ev.ret ?_)
  rw [show i.toNat = l.length from by omega]
  simp
theorem laws_toIntS_ev {l : List Int} (hl : l.length ≤ 1048576) : Ev (fun k => laws_toIntS.f k l) l := by
 unfold laws_toIntS.f
 refine Ev.pos (by omega) (Ev.pos (by omega) ?_)
 have := laws_toIntS_l0 (l := l) (by omega) 0 (by omega) (by omega)
 simpa using this

/-! laws_eqIntS -/
theorem laws_eqIntS.l0.ev {x0 : List Int} {x1 : List Int} {x5 : Int} {r : Bool} (h : Ev (fun k => if x5 < (x0.length : Int) then (if 0 ≤ x5 then (if x5 < (x1.length : Int) then (if (rd x0 x5) = (rd x1 x5) then (laws_eqIntS.l0 k x0 x1 (wrap64 (x5 + 1))) else (some false)) else (none)) else (none)) else (some true)) r) : Ev (fun k => laws_eqIntS.l0 k x0 x1 x5) r := Ev.step (fun _ => rfl) h
theorem laws_eqIntS_l0 {a b : List Int} (hl : a.length ≤ 4611686018427387904) (he : a.length = b.length) : ∀ i : Int, i ≤ a.length → 0 ≤ i → a.take i.toNat = b.take i.toNat → Ev (fun k => laws_eqIntS.l0 k a b i) (decide (a = b)) := by
 refine Hd.down ?_
 intro i hi ih h0 ht
 refine laws_eqIntS.l0.ev ?_
 by_cases hlt : i < a.length
 ·rw [wid (x := i + 1) (by omega) (by omega)]
  refine Ev.pos hlt (Ev.pos h0 (Ev.pos (by omega) ?_))
  obtain ⟨j, rfl⟩ := Int.eq_ofNat_of_zero_le h0
  have hj : j < a.length := by omega
  have hj2 : j < b.length := by omega
  simp only [Int.toNat_natCast] at *
  have ga : rd a j = a[j] := by simp [rd, List.getD_eq_getElem?_getD, List.getElem?_eq_getElem hj]
  have gb : rd b j = b[j] := by simp [rd, List.getD_eq_getElem?_getD, List.getElem?_eq_getElem hj2]
  by_cases e : rd a j = rd b j
  ·refine Ev.pos e (ih hlt (by omega) ?_)
   rw [show ((j : Int) + 1).toNat = j + 1 from by omega, List.take_succ_eq_append_getElem hj, List.take_succ_eq_append_getElem hj2, ht, ← ga, ← gb, e]
  ·refine Ev.neg e (Ev.ret ?_)
   have : a ≠ b := fun h => e (by rw [h])
   simp [this]
 ·refine Ev.neg hlt (Ev.ret ?_)
  rw [show i.toNat = a.length from by omega] at ht
  rw [List.take_length, he, List.take_length] at ht
  simp [ht]
theorem laws_eqIntS_ev {a b : List Int} (hl : a.length ≤ 1048576) : Ev (fun k => laws_eqIntS.f k a b) (decide (a = b)) := by
 unfold laws_eqIntS.f
 by_cases e : a.length = b.length
 ·refine Ev.pos (by omega) ?_
  exact laws_eqIntS_l0 (by omega) e 0 (by omega) (by omega) (by simp)
 ·refine Ev.neg (by omega) (Ev.ret ?_)
  have : a ≠ b := fun h => e (by rw [h])
  simp [this]

/-! spec_l1In -/

theorem spec_l1In_eq (a b c : Int) : spec_l1In.f a b c = some (decide (b ≤ a ∧ a ≤ c)) := by
 unfold spec_l1In.f
 by_cases h : a ≥ b
 ·rw [if_pos h]; simp [h]
 ·rw [if_neg h]; simp; intro; omega

/-! spec_TreeOk -/
theorem spec_TreeOk.l0.ev {x0 : List Int} {x3 : Int} {x4 : Int} {x5 : Int} {r : Bool} (h : Ev (fun k => if x5 < x3 then (if 0 ≤ x5 then (if x5 < (x0.length : Int) then ((spec_l1In.f (rd x0 x5) 0 x3).bind fun t110 => (if t110 = true then (spec_TreeOk.j1 k x0 x3 x4 x5 ((rd x0 x5) == (wrap64 (x5 + 1)))) else (spec_TreeOk.j1 k x0 x3 x4 x5 true))) else (none)) else (none)) else (some (x4 == 1))) r) : Ev (fun k => spec_TreeOk.l0 k x0 x3 x4 x5) r := Ev.step (fun _ => rfl) h
theorem spec_TreeOk.j1.ev {x0 : List Int} {x3 : Int} {x4 : Int} {x5 : Int} {x33 : Bool} {r : Bool} (h : Ev (fun k => if x33 = true then (some false) else (if 0 ≤ x5 then (if x5 < (x0.length : Int) then (if (rd x0 x5) = 0 then (spec_TreeOk.j2 k x0 x3 (wrap64 (x4 + 1)) x5) else (spec_TreeOk.j2 k x0 x3 x4 x5)) else (none)) else (none))) r) : Ev (fun k => spec_TreeOk.j1 k x0 x3 x4 x5 x33) r := Ev.step (fun _ => rfl) h
theorem spec_TreeOk.j2.ev {x0 : List Int} {x3 : Int} {x4 : Int} {x5 : Int} {r : Bool} (h : Ev (fun k => spec_TreeOk.l1 k x0 x3 x4 x5 (wrap64 (x5 + 1)) 0) r) : Ev (fun k => spec_TreeOk.j2 k x0 x3 x4 x5) r := Ev.step (fun _ => rfl) h
theorem spec_TreeOk.l1.ev {x0 : List Int} {x3 : Int} {x4 : Int} {x5 : Int} {x6 : Int} {x7 : Int} {r : Bool} (h : Ev (fun k => if x6 > 0 then (spec_TreeOk.j4 k x0 x3 x4 x5 x6 x7 (decide (x7 < x3))) else (spec_TreeOk.j4 k x0 x3 x4 x5 x6 x7 false)) r) : Ev (fun k => spec_TreeOk.l1 k x0 x3 x4 x5 x6 x7) r := Ev.step (fun _ => rfl) h
theorem spec_TreeOk.j4.ev {x0 : List Int} {x3 : Int} {x4 : Int} {x5 : Int} {x6 : Int} {x7 : Int} {x49 : Bool} {r : Bool} (h : Ev (fun k => if x49 = true then (if 0 ≤ (wrap64 (x6 - 1)) then (if (wrap64 (x6 - 1)) < (x0.length : Int) then ((spec_l1In.f (rd x0 (wrap64 (x6 - 1))) 0 x3).bind fun t114 => (if t114 = true then (spec_TreeOk.l1 k x0 x3 x4 x5 (rd x0 (wrap64 (x6 - 1))) (wrap64 (x7 + 1))) else (some false))) else (none)) else (none)) else (if x6 > 0 then (some false) else (spec_TreeOk.l0 k x0 x3 x4 (wrap64 (x5 + 1))))) r) : Ev (fun k => spec_TreeOk.j4 k x0 x3 x4 x5 x6 x7 x49) r := Ev.step (fun _ => rfl) h
theorem spec_TreeOk_l1 {l : List Int} (h8 : l.length ≤ 8) {c i : Int} (h0 : 0 ≤ i) (hlt : i < l.length)
  (next : Hd.it (Hd.hd l) l.length (i + 1) = 0 → Ev (fun k => spec_TreeOk.l0 k l l.length c (i + 1)) (Hd.treeB l)) :
  ∀ s : Int, s ≤ l.length → 0 ≤ s → ∀ a : Int, 0 ≤ a → a ≤ l.length → a = Hd.it (Hd.hd l) s.toNat (i + 1) → Ev (fun k => spec_TreeOk.l1 k l l.length c i a s) (Hd.treeB l) := by
 refine Hd.down ?_
 intro s hs ih h1 a ha1 ha2 ea
 refine spec_TreeOk.l1.ev ?_
 by_cases hz : a > 0
 ·refine Ev.pos hz (spec_TreeOk.j4.ev ?_)
  by_cases hsn : s < l.length
  ·rw [wid (x := a - 1) (by omega) (by omega), rd_hd (by omega), wid (x := s + 1) (by omega) (by omega)]
   refine Ev.pos (by simpa using hsn) (Ev.pos (by omega) (Ev.pos (by omega) (Ev.bindv (spec_l1In_eq _ _ _) ?_)))
   by_cases hin : 0 ≤ Hd.hd l a ∧ Hd.hd l a ≤ l.length
   ·refine Ev.pos (by simpa using hin) (ih hsn (by omega) _ hin.1 hin.2 ?_)
    rw [show (s + 1).toNat = s.toNat + 1 from by omega, Hd.it_succ, ← ea]
   ·refine Ev.neg (by simpa using hin) (Ev.ret ?_)
    exact (Hd.treeB_no fun t => hin (t.vals _ (by omega) (by omega))).symm
  ·refine Ev.neg (by simpa using hsn) (Ev.pos hz (Ev.ret ?_))
   refine (Hd.treeB_no fun t => ?_).symm
   have := t.2.back (i + 1) (by omega) (by omega)
   rw [show s.toNat = l.length from by omega, this] at ea
   omega
 ·refine Ev.neg hz (spec_TreeOk.j4.ev (Ev.neg (by simp) (Ev.neg hz ?_)))
  rw [wid (x := i + 1) (by omega) (by omega)]
  exact next (Hd.it_more (Hd.hd_zero l) (j := s.toNat) (by omega) (by omega))
theorem spec_TreeOk_l0 {l : List Int} (h8 : l.length ≤ 8) : ∀ i : Int, i ≤ l.length → 0 ≤ i → (∀ a : Int, 1 ≤ a → a ≤ i → (0 ≤ Hd.hd l a ∧ Hd.hd l a ≤ l.length) ∧ Hd.it (Hd.hd l) l.length a = 0) →
  Ev (fun k => spec_TreeOk.l0 k l l.length (Hd.zeros l i.toNat) i) (Hd.treeB l) := by
 refine Hd.down ?_
 intro i hi ih h0 hb
 refine spec_TreeOk.l0.ev ?_
 by_cases hlt : i < l.length
 ·have hz := Hd.cnt_le (fun a => decide (Hd.hd l a = 0)) i.toNat
  have hzz : Hd.zeros l (i + 1).toNat = Hd.zeros l i.toNat + if Hd.hd l (i + 1) = 0 then 1 else 0 := by
   rw [show (i + 1).toNat = i.toNat + 1 from by omega]
   show Hd.cnt _ (i.toNat + 1) = _
   rw [Hd.cnt, show ((i.toNat : Int) + 1) = i + 1 from by omega]
   simp [Hd.zeros]
  have hz' : Hd.zeros l i.toNat ≤ i.toNat := hz
  rw [rd_hd1 h0, wid (x := i + 1) (by omega) (by omega)]
  refine Ev.pos hlt (Ev.pos h0 (Ev.pos hlt (Ev.bindv (spec_l1In_eq _ _ _) ?_)))
  by_cases hin : 0 ≤ Hd.hd l (i + 1) ∧ Hd.hd l (i + 1) ≤ l.length
  ·refine Ev.pos (by simpa using hin) (spec_TreeOk.j1.ev ?_)
   by_cases hown : Hd.hd l (i + 1) = i + 1
   ·refine Ev.pos (by simpa using hown) (Ev.ret ?_)
    exact (Hd.treeB_no fun t => t.2.not_own (a := i + 1) (by omega) hown).symm
   ·refine Ev.neg (by simpa using hown) (Ev.pos h0 (Ev.pos hlt ?_))
    rw [rd_hd1 h0, wid (x := (Hd.zeros l i.toNat : Int) + 1) (by omega) (by omega)]
    have next : Hd.it (Hd.hd l) l.length (i + 1) = 0 → Ev (fun k => spec_TreeOk.l0 k l l.length (Hd.zeros l (i + 1).toNat) (i + 1)) (Hd.treeB l) := fun hit =>
     ih hlt (by omega) (fun a h1 h2 => by
      by_cases e : a = i + 1
      ·rw [e]; exact ⟨hin, hit⟩
      ·exact hb a h1 (by omega))
    rw [hzz] at next
    by_cases h00 : Hd.hd l (i + 1) = 0
    ·rw [if_pos h00] at next
     refine Ev.pos h00 (spec_TreeOk.j2.ev ?_)
     rw [wid (x := i + 1) (by omega) (by omega)]
     exact spec_TreeOk_l1 h8 h0 hlt next 0 (by omega) (by omega) (i + 1) (by omega) (by omega) rfl
    ·rw [if_neg h00] at next
     refine Ev.neg h00 (spec_TreeOk.j2.ev ?_)
     rw [wid (x := i + 1) (by omega) (by omega)]
     exact spec_TreeOk_l1 h8 h0 hlt next 0 (by omega) (by omega) (i + 1) (by omega) (by omega) rfl
  ·refine Ev.neg (by simpa using hin) (spec_TreeOk.j1.ev (Ev.pos rfl (Ev.ret ?_)))
   exact (Hd.treeB_no fun t => hin (t.vals _ (by omega) (by omega))).symm
 ·refine Ev.neg hlt (Ev.ret ?_)
  have e : i.toNat = l.length := by omega
  rw [e]
  have t := Hd.T_iff h8 (fun a h1 h2 => (hb a h1 (by omega)).1) (fun a h1 h2 => (hb a h1 (by omega)).2)
  by_cases e : Hd.zeros l l.length = 1
  ·rw [Hd.treeB_yes (t.2 e), e]; rfl
  ·rw [Hd.treeB_no (fun x => e (t.1 x))]; simp; omega
theorem spec_TreeOk_ev (l : List Int) : Ev (fun k => spec_TreeOk.f k l) (Hd.treeB l) := by
 unfold spec_TreeOk.f
 refine Ev.bindv (spec_l1In_eq _ _ _) ?_
 by_cases h : 1 ≤ (l.length : Int) ∧ (l.length : Int) ≤ 8
 ·refine Ev.pos (by simpa using h) ?_
  exact spec_TreeOk_l0 (by omega) 0 (by omega) (by omega) (fun a h1 h2 => by omega)
 ·refine Ev.neg (by simpa using h) (Ev.ret ?_)
  exact (Hd.treeB_no fun t => by have := t.1; have := t.2.pos; omega).symm

/-! spec_l3Arcs -/
theorem spec_l3Arcs.l0.ev {x0 : List Int} {x3 : List (List Int)} {x4 : Int} {r : (List (List Int))} (h : Ev (fun k => if x4 < (x0.length : Int) then (if 0 ≤ x4 then (if (rd x0 x4) > 0 then (if x3.length < 5864062014805 then (spec_l3Arcs.l0 k x0 (x3 ++ [(([mn (wrap64 (x4 + 1)) (rd x0 x4), mx (wrap64 (x4 + 1)) (rd x0 x4)] : List Int))]) (wrap64 (x4 + 1))) else (none)) else (spec_l3Arcs.l0 k x0 x3 (wrap64 (x4 + 1)))) else (none)) else (some x3)) r) : Ev (fun k => spec_l3Arcs.l0 k x0 x3 x4) r := Ev.step (fun _ => rfl) h
/-- The arcs of the first m words, the lesser end first. -/
def arcsL (l : List Int) : Nat → List (List Int)
 | 0 => []
 | m + 1 => arcsL l m ++ if Hd.hd l ((m : Int) + 1) > 0 then [[mn ((m : Int) + 1) (Hd.hd l ((m : Int) + 1)), mx ((m : Int) + 1) (Hd.hd l ((m : Int) + 1))]] else []
theorem arcsL_le (l : List Int) : ∀ m, (arcsL l m).length ≤ m
 | 0 => Nat.le_refl _
 | m + 1 => by
  have := arcsL_le l m
  unfold arcsL
  rw [List.length_append]
  split <;> simp <;> omega
theorem mem_arcsL {l : List Int} {e : List Int} : ∀ {m : Nat}, e ∈ arcsL l m ↔ ∃ a : Int, (1 ≤ a ∧ a ≤ m) ∧ Hd.hd l a > 0 ∧ e = [mn a (Hd.hd l a), mx a (Hd.hd l a)]
 | 0 => by
  simp [arcsL]
  intro a h1 h2
  omega
 | m + 1 => by
  unfold arcsL
  rw [List.mem_append, mem_arcsL (m := m)]
  constructor
  ·rintro (⟨a, h1, h2, h3⟩ | h)
   ·exact ⟨a, ⟨h1.1, by omega⟩, h2, h3⟩
   ·split at h
    ·rename_i hp
     exact ⟨(m : Int) + 1, ⟨by omega, by omega⟩, hp, by simpa using h⟩
    ·cases h
  ·rintro ⟨a, h1, h2, h3⟩
   by_cases e : a = (m : Int) + 1
   ·subst e
    right
    rw [if_pos h2]; simp [h3]
   ·exact .inl ⟨a, ⟨h1.1, by omega⟩, h2, h3⟩
theorem spec_l3Arcs_l0 {l : List Int} (hl : l.length ≤ 1048600) : ∀ i : Int, i ≤ l.length → 0 ≤ i → Ev (fun k => spec_l3Arcs.l0 k l (arcsL l i.toNat) i) (arcsL l l.length) := by
 refine Hd.down ?_
 intro i hi ih h0
 refine spec_l3Arcs.l0.ev ?_
 by_cases hlt : i < l.length
 ·have next := ih hlt (by omega)
  have hs := arcsL_le l i.toNat
  rw [show (i + 1).toNat = i.toNat + 1 from by omega, arcsL, show ((i.toNat : Int) + 1) = i + 1 from by omega] at next
  rw [rd_hd1 h0, wid (x := i + 1) (by omega) (by omega)]
  refine Ev.pos hlt (Ev.pos h0 ?_)
  by_cases e : Hd.hd l (i + 1) > 0
  ·rw [if_pos e] at next
   exact Ev.pos e (Ev.pos (by omega) next)
  ·rw [if_neg e, List.append_nil] at next
   exact Ev.neg e next
 ·refine Ev.neg hlt (Ev.ret ?_)
  rw [show i.toNat = l.length from by omega]
theorem spec_l3Arcs_ev {l : List Int} (hl : l.length ≤ 1048600) : Ev (fun k => spec_l3Arcs.f k l) (arcsL l l.length) :=
 spec_l3Arcs_l0 hl 0 (by omega) (by omega)
theorem rd_L1_mem {xs : List (List Int)} {i : Int} (h0 : 0 ≤ i) (h1 : i < xs.length) : rd_L1 xs i ∈ xs := by
 unfold rd_L1
 rw [List.getD_eq_getElem?_getD, List.getElem?_eq_getElem (by omega)]
 exact List.getElem_mem _

/-! spec_CrossOk -/

theorem spec_CrossOk_eq (a b c d : Int) : spec_CrossOk.f a b c d = some (crsB a b c d) := by
 have m1 := mn_mx a b
 have m2 := mn_mx c d
 unfold spec_CrossOk.f
 generalize mn a b = p at *
 generalize mx a b = q at *
 generalize mn c d = r at *
 generalize mx c d = s at *
 by_cases h : CrsP a b c d
 ·rw [crsB_yes h]
  unfold CrsP Hd.Crs Hd.Btw Hd.Outs at h
  rw [if_neg (by omega), if_neg (by omega), if_neg (by omega), if_neg (by omega), if_neg (by omega), if_neg (by omega)]
  by_cases h1 : p < r
  ·rw [if_pos h1, if_pos (by omega), if_pos (by omega)]
  ·rw [if_neg h1, if_pos (by omega), if_pos (by omega), decide_eq_true (by omega)]
 ·rw [crsB_no h]
  unfold CrsP Hd.Crs Hd.Btw Hd.Outs at h
  by_cases h1 : a < 1
  ·rw [if_pos h1]
  by_cases h2 : b < 1
  ·rw [if_neg h1, if_pos h2]
  by_cases h3 : c < 1
  ·rw [if_neg h1, if_neg h2, if_pos h3]
  by_cases h4 : d < 1
  ·rw [if_neg h1, if_neg h2, if_neg h3, if_pos h4]
  by_cases h5 : a = b
  ·rw [if_neg h1, if_neg h2, if_neg h3, if_neg h4, if_pos h5]
  by_cases h6 : c = d
  ·rw [if_neg h1, if_neg h2, if_neg h3, if_neg h4, if_neg h5, if_pos h6]
  rw [if_neg h1, if_neg h2, if_neg h3, if_neg h4, if_neg h5, if_neg h6]
  have last : (if r < p then if p < s then some (decide (s < q)) else some false else some false) = some false := by
   by_cases k1 : r < p
   ·rw [if_pos k1]
    by_cases k2 : p < s
    ·rw [if_pos k2, decide_eq_false (by omega)]
    ·rw [if_neg k2]
   ·rw [if_neg k1]
  by_cases k1 : p < r
  ·rw [if_pos k1]
   by_cases k2 : r < q
   ·rw [if_pos k2, if_neg (by omega)]; exact last
   ·rw [if_neg k2]; exact last
  ·rw [if_neg k1]; exact last

/-! spec_CrossingsOf -/
theorem spec_CrossingsOf.l0.ev {x3 : Int} {x4 : List (List Int)} {x5 : Int} {r : Int} (h : Ev (fun k => if x5 < (x4.length : Int) then (spec_CrossingsOf.l1 k x3 x4 x5 0) else (some x3)) r) : Ev (fun k => spec_CrossingsOf.l0 k x3 x4 x5) r := Ev.step (fun _ => rfl) h
theorem spec_CrossingsOf.l1.ev {x3 : Int} {x4 : List (List Int)} {x5 : Int} {x6 : Int} {r : Int} (h : Ev (fun k => if x6 < x5 then (if 0 ≤ x6 then (if x6 < (x4.length : Int) then (if 0 < ((rd_L1 x4 x6).length : Int) then (if 1 < ((rd_L1 x4 x6).length : Int) then (if 0 ≤ x5 then (if x5 < (x4.length : Int) then (if 0 < ((rd_L1 x4 x5).length : Int) then (if 1 < ((rd_L1 x4 x5).length : Int) then ((spec_CrossOk.f (rd (rd_L1 x4 x6) 0) (rd (rd_L1 x4 x6) 1) (rd (rd_L1 x4 x5) 0) (rd (rd_L1 x4 x5) 1)).bind fun t139 => (if t139 = true then (spec_CrossingsOf.l1 k (wrap64 (x3 + 1)) x4 x5 (wrap64 (x6 + 1))) else (spec_CrossingsOf.l1 k x3 x4 x5 (wrap64 (x6 + 1))))) else (none)) else (none)) else (none)) else (none)) else (none)) else (none)) else (none)) else (none)) else (spec_CrossingsOf.l0 k x3 x4 (wrap64 (x5 + 1)))) r) : Ev (fun k => spec_CrossingsOf.l1 k x3 x4 x5 x6) r := Ev.step (fun _ => rfl) h
noncomputable def arcX (A : List (List Int)) (j i : Int) : Bool := crsB (rd (rd_L1 A j) 0) (rd (rd_L1 A j) 1) (rd (rd_L1 A i) 0) (rd (rd_L1 A i) 1)
noncomputable def prs (A : List (List Int)) : Nat → Nat
 | 0 => 0
 | i + 1 => prs A i + Hd.cnt (fun a => arcX A (a - 1) i) i
theorem prs_le (A : List (List Int)) : ∀ m, prs A m ≤ m * m
 | 0 => Nat.le_refl _
 | m + 1 => by
  have h1 := prs_le A m
  have h2 := Hd.cnt_le (fun a => arcX A (a - 1) m) m
  have h3 : (m + 1) * (m + 1) = m * m + 2 * m + 1 := by rw [Nat.add_mul, Nat.mul_add]; omega
  unfold prs
  omega
theorem rd_L1_append {A B : List (List Int)} {i : Int} (h0 : 0 ≤ i) (h1 : i < A.length) : rd_L1 (A ++ B) i = rd_L1 A i := by
 unfold rd_L1
 rw [List.getD_eq_getElem?_getD, List.getElem?_append_left (by omega), List.getD_eq_getElem?_getD]
theorem rd_L1_last {A : List (List Int)} {e : List Int} : rd_L1 (A ++ [e]) (A.length : Int) = e := by
 unfold rd_L1
 rw [List.getD_eq_getElem?_getD, List.getElem?_append_right (by omega)]
 simp
theorem prs_append {A B : List (List Int)} : ∀ i : Nat, i ≤ A.length → prs (A ++ B) i = prs A i
 | 0, _ => rfl
 | i + 1, h => by
  unfold prs
  rw [prs_append i (by omega)]
  congr 1
  refine Hd.cnt_congr fun a h1 h2 => ?_
  unfold arcX
  rw [rd_L1_append (by omega) (by omega), rd_L1_append (by omega) (by omega)]
theorem crsB_mn {a b c d : Int} : crsB (mn a b) (mx a b) (mn c d) (mx c d) = crsB c d a b := by
 have m1 := mn_mx a b
 have m2 := mn_mx c d
 refine bool_eq ?_
 rw [crsB_true, crsB_true]
 unfold CrsP Hd.Crs Hd.Btw Hd.Outs
 omega
/-- How many of the arcs of the first j words cross another one. -/
theorem arcs_cnt (l : List Int) (c d : Int) (B : List (List Int)) (hB : rd_L1 B 0 = [mn c d, mx c d]) (hl : B.length = 1) : ∀ j : Nat, Hd.cnt (fun a => arcX (arcsL l j ++ B) (a - 1) (arcsL l j).length) (arcsL l j).length = Hd.cnt (fun k => crsB c d k (Hd.hd l k)) j
 | 0 => rfl
 | j + 1 => by
  obtain ⟨e, rfl⟩ : ∃ e, B = [e] := by
   match B, hl with
   | [e], _ => exact ⟨e, rfl⟩
  have he : e = [mn c d, mx c d] := hB
  have ih := arcs_cnt l c d [e] hB hl j
  rw [Hd.cnt, ← ih]
  have cong : ∀ A' : List (List Int), ∀ m : Nat, m ≤ (arcsL l j).length → (∀ i : Int, 0 ≤ i → i < (arcsL l j).length → rd_L1 (A' ++ [e]) i = rd_L1 (arcsL l j) i) → Hd.cnt (fun a => arcX (A' ++ [e]) (a - 1) A'.length) m = Hd.cnt (fun a => arcX (arcsL l j ++ [e]) (a - 1) (arcsL l j).length) m := by
   intro A' m hm hA
   refine Hd.cnt_congr fun a h1 h2 => ?_
   unfold arcX
   rw [rd_L1_last, rd_L1_last, hA _ (by omega) (by omega), rd_L1_append (by omega) (by omega)]
  by_cases hp : Hd.hd l ((j : Int) + 1) > 0
  ·have eA : arcsL l (j + 1) = arcsL l j ++ [[mn ((j : Int) + 1) (Hd.hd l ((j : Int) + 1)), mx ((j : Int) + 1) (Hd.hd l ((j : Int) + 1))]] := by rw [arcsL, if_pos hp]
   rw [eA]
   rw [show (arcsL l j ++ [[mn ((j : Int) + 1) (Hd.hd l ((j : Int) + 1)), mx ((j : Int) + 1) (Hd.hd l ((j : Int) + 1))]]).length = (arcsL l j).length + 1 from by simp]
   rw [Hd.cnt]
   have c1 := cong (arcsL l j ++ [[mn ((j : Int) + 1) (Hd.hd l ((j : Int) + 1)), mx ((j : Int) + 1) (Hd.hd l ((j : Int) + 1))]]) (arcsL l j).length (Nat.le_refl _) (fun i h0 h1 => by
    rw [List.append_assoc, rd_L1_append h0 h1])
   rw [show (arcsL l j ++ [[mn ((j : Int) + 1) (Hd.hd l ((j : Int) + 1)), mx ((j : Int) + 1) (Hd.hd l ((j : Int) + 1))]]).length = (arcsL l j).length + 1 from by simp] at c1
   rw [c1]
   congr 1
   have x : arcX (arcsL l j ++ [[mn ((j : Int) + 1) (Hd.hd l ((j : Int) + 1)), mx ((j : Int) + 1) (Hd.hd l ((j : Int) + 1))]] ++ [e]) (((arcsL l j).length : Int) + 1 - 1) (((arcsL l j).length + 1 : Nat) : Int) = crsB c d ((j : Int) + 1) (Hd.hd l ((j : Int) + 1)) := by
    unfold arcX
    have l1 := rd_L1_last (A := arcsL l j ++ [[mn ((j : Int) + 1) (Hd.hd l ((j : Int) + 1)), mx ((j : Int) + 1) (Hd.hd l ((j : Int) + 1))]]) (e := e)
    rw [show (arcsL l j ++ [[mn ((j : Int) + 1) (Hd.hd l ((j : Int) + 1)), mx ((j : Int) + 1) (Hd.hd l ((j : Int) + 1))]]).length = (arcsL l j).length + 1 from by simp] at l1
    rw [l1, show ((arcsL l j).length : Int) + 1 - 1 = ((arcsL l j).length : Int) from by omega, rd_L1_append (by omega) (by simp; omega), rd_L1_last, he]
    exact crsB_mn
   rw [x]
  ·have eA : arcsL l (j + 1) = arcsL l j := by rw [arcsL, if_neg hp, List.append_nil]
   rw [eA, if_neg, Nat.add_zero]
   rw [crsB_true]
   intro p
   have := p.2.2.2.1
   omega
theorem prs_arcs (l : List Int) : ∀ m : Nat, prs (arcsL l m) (arcsL l m).length = crsN l m
 | 0 => rfl
 | m + 1 => by
  by_cases hp : Hd.hd l ((m : Int) + 1) > 0
  ·have eA : arcsL l (m + 1) = arcsL l m ++ [[mn ((m : Int) + 1) (Hd.hd l ((m : Int) + 1)), mx ((m : Int) + 1) (Hd.hd l ((m : Int) + 1))]] := by rw [arcsL, if_pos hp]
   rw [eA, show (arcsL l m ++ [[mn ((m : Int) + 1) (Hd.hd l ((m : Int) + 1)), mx ((m : Int) + 1) (Hd.hd l ((m : Int) + 1))]]).length = (arcsL l m).length + 1 from by simp]
   rw [prs, prs_append _ (Nat.le_refl _), prs_arcs l m, crsN]
   congr 1
   exact arcs_cnt l _ _ _ rfl rfl m
  ·have eA : arcsL l (m + 1) = arcsL l m := by rw [arcsL, if_neg hp, List.append_nil]
   rw [eA, prs_arcs l m, crsN, Hd.cnt_none, Nat.add_zero]
   intro a h1 h2
   refine crsB_no fun p => ?_
   have := p.2.1
   omega
theorem spec_CrossingsOf_l1 {A : List (List Int)} (h8 : A.length ≤ 8) (h2 : ∀ e ∈ A, e.length = 2) {i : Int} (h0 : 0 ≤ i) (h1 : i < A.length) {r : Int}
  (next : Ev (fun k => spec_CrossingsOf.l0 k (prs A (i + 1).toNat : Int) A (i + 1)) r) : ∀ j : Int, j ≤ i → 0 ≤ j →
  Ev (fun k => spec_CrossingsOf.l1 k ((prs A i.toNat + Hd.cnt (fun a => arcX A (a - 1) i) j.toNat : Nat) : Int) A i j) r := by
 refine Hd.down ?_
 intro j hj ih hj0
 refine spec_CrossingsOf.l1.ev ?_
 have b1 := prs_le A i.toNat
 have b2 := Hd.cnt_le (fun a => arcX A (a - 1) i) j.toNat
 have b3 : i.toNat * i.toNat ≤ 8 * 8 := Nat.mul_le_mul (by omega) (by omega)
 by_cases hlt : j < i
 ·have nx := ih hlt (by omega)
  rw [show (j + 1).toNat = j.toNat + 1 from by omega, Hd.cnt, show ((j.toNat : Int) + 1 - 1) = j from by omega] at nx
  rw [wid (x := j + 1) (by omega) (by omega), wid (x := ((prs A i.toNat + Hd.cnt (fun a => arcX A (a - 1) i) j.toNat : Nat) : Int) + 1) (by omega) (by omega)]
  have e1 := h2 _ (rd_L1_mem (xs := A) (i := j) hj0 (by omega))
  have e2 := h2 _ (rd_L1_mem (xs := A) (i := i) h0 h1)
  refine Ev.pos hlt (Ev.pos hj0 (Ev.pos (by omega) (Ev.pos (by omega) (Ev.pos (by omega) (Ev.pos h0 (Ev.pos h1 (Ev.pos (by omega) (Ev.pos (by omega) (Ev.bindv (spec_CrossOk_eq _ _ _ _) ?_)))))))))
  by_cases hc : arcX A j i = true
  ·rw [if_pos hc, ← Nat.add_assoc, Int.natCast_add] at nx
   exact Ev.pos hc nx
  ·rw [if_neg hc, Nat.add_zero] at nx
   exact Ev.neg hc nx
 ·rw [wid (x := i + 1) (by omega) (by omega)]
  refine Ev.neg hlt ?_
  rw [show (i + 1).toNat = i.toNat + 1 from by omega, prs, show ((i.toNat : Nat) : Int) = i from by omega] at next
  rw [show j.toNat = i.toNat from by omega]
  exact next
theorem spec_CrossingsOf_l0 {A : List (List Int)} (h8 : A.length ≤ 8) (h2 : ∀ e ∈ A, e.length = 2) : ∀ i : Int, i ≤ A.length → 0 ≤ i → Ev (fun k => spec_CrossingsOf.l0 k (prs A i.toNat : Int) A i) (prs A A.length : Int) := by
 refine Hd.down ?_
 intro i hi ih h0
 refine spec_CrossingsOf.l0.ev ?_
 by_cases hlt : i < A.length
 ·have := spec_CrossingsOf_l1 h8 h2 h0 hlt (ih hlt (by omega)) 0 h0 (by omega)
  simp only [Int.toNat_zero, Hd.cnt, Nat.add_zero] at this
  exact Ev.pos hlt this
 ·refine Ev.neg hlt (Ev.ret ?_)
  rw [show i.toNat = A.length from by omega]
theorem spec_CrossingsOf_ev (l : List Int) : Ev (fun k => spec_CrossingsOf.f k l) (crossI l) := by
 unfold spec_CrossingsOf.f crossI
 refine Ev.bind (spec_TreeOk_ev l) ?_
 by_cases t : Hd.T l
 ·have h8 := t.1
  have ha := arcsL_le l l.length
  rw [if_pos t, ← prs_arcs]
  exact Ev.pos (Hd.treeB_yes t) (Ev.bind (spec_l3Arcs_ev (by omega)) (spec_CrossingsOf_l0 (by omega) (fun e he => by
   obtain ⟨a, _, _, rfl⟩ := mem_arcsL.1 he
   rfl) 0 (by omega) (by omega)))
 ·rw [if_neg t]
  exact Ev.neg (by rw [Hd.treeB_no t]; simp) (Ev.now _)

/-! impl_steps -/
theorem impl_steps.l0.ev {x0 : List Int} {x1 : Int} {x7 : Int} {x8 : Int} {r : Int} (h : Ev (fun k => if x8 < x7 then (if 0 ≤ (wrap64 (x1 - 1)) then (if (wrap64 (x1 - 1)) < (x0.length : Int) then (if (rd x0 (wrap64 (x1 - 1))) = 0 then (some x8) else (impl_steps.l0 k x0 (rd x0 (wrap64 (x1 - 1))) x7 (wrap64 (x8 + 1)))) else (none)) else (none)) else (some (-1))) r) : Ev (fun k => impl_steps.l0 k x0 x1 x7 x8) r := Ev.step (fun _ => rfl) h
theorem impl_steps_l0 {l : List Int} (v : Hd.Vals l) (h8 : l.length ≤ 8) : ∀ (d : Nat) (m w : Int), 0 ≤ m → m + d = l.length → 1 ≤ w → w ≤ l.length →
  Ev (fun k => impl_steps.l0 k l w l.length m) (if Hd.it (Hd.hd l) d w = 0 then m + Hd.depF (Hd.hd l) d w else -1)
 | 0, m, w, h0, hd, h1, h2 => by
  refine impl_steps.l0.ev ?_
  rw [if_neg (show ¬ Hd.it (Hd.hd l) 0 w = 0 from fun e => by have : w = 0 := e; omega)]
  exact Ev.neg (by omega) (Ev.now _)
 | d + 1, m, w, h0, hd, h1, h2 => by
  refine impl_steps.l0.ev ?_
  rw [wid (x := w - 1) (by omega) (by omega), wid (x := m + 1) (by omega) (by omega), rd_hd h1]
  refine Ev.pos (by omega) (Ev.pos (by omega) (Ev.pos (by omega) ?_))
  by_cases hz : Hd.hd l w = 0
  ·refine Ev.pos hz (Ev.ret ?_)
   have : Hd.it (Hd.hd l) (d + 1) w = 0 := by show Hd.it (Hd.hd l) d (Hd.hd l w) = 0; rw [hz]; exact Hd.it_zero (Hd.hd_zero l) d
   rw [if_pos this, Hd.depF, if_pos hz]; simp
  ·refine Ev.neg hz ?_
   have := v w h1 h2
   have ih := impl_steps_l0 v h8 d (m + 1) (Hd.hd l w) (by omega) (by omega) (by omega) (by omega)
   have e : Hd.it (Hd.hd l) (d + 1) w = Hd.it (Hd.hd l) d (Hd.hd l w) := rfl
   rw [e, Hd.depF, if_neg hz]
   have e2 : m + ((Hd.depF (Hd.hd l) d (Hd.hd l w) + 1 : Nat) : Int) = m + 1 + (Hd.depF (Hd.hd l) d (Hd.hd l w) : Nat) := by omega
   rw [e2]; exact ih
theorem impl_steps_ev {l : List Int} (v : Hd.Vals l) (h8 : l.length ≤ 8) {w : Int} (h1 : 1 ≤ w) (h2 : w ≤ l.length) :
  Ev (fun k => impl_steps.f k l w) (if Hd.it (Hd.hd l) l.length w = 0 then (Hd.depF (Hd.hd l) l.length w : Int) else -1) := by
 have := impl_steps_l0 v h8 l.length 0 w (by omega) (by omega) h1 h2
 simp only [Int.zero_add] at this
 exact this

/-! impl_TreeOk -/
theorem impl_TreeOk.j0.ev {x0 : List Int} {x14 : Bool} {r : Bool} (h : Ev (fun k => if x14 = true then (some false) else (impl_TreeOk.l0 k x0 0 x0 (x0.length : Int) 0)) r) : Ev (fun k => impl_TreeOk.j0 k x0 x14) r := Ev.step (fun _ => rfl) h
theorem impl_TreeOk.l0.ev {x0 : List Int} {x3 : Int} {x15 : List Int} {x16 : Int} {x17 : Int} {r : Bool} (h : Ev (fun k => if x17 < x16 then (if 0 ≤ x17 then (if x17 < (x15.length : Int) then (if (rd x15 x17) < 0 then (impl_TreeOk.j2 k x0 x3 (rd x15 x17) x15 x16 x17 true) else (impl_TreeOk.j2 k x0 x3 (rd x15 x17) x15 x16 x17 (decide ((rd x15 x17) > (x0.length : Int))))) else (none)) else (none)) else (impl_TreeOk.l1 k x0 x3 (x0.length : Int) 0)) r) : Ev (fun k => impl_TreeOk.l0 k x0 x3 x15 x16 x17) r := Ev.step (fun _ => rfl) h
theorem impl_TreeOk.j2.ev {x0 : List Int} {x3 : Int} {x5 : Int} {x15 : List Int} {x16 : Int} {x17 : Int} {x28 : Bool} {r : Bool} (h : Ev (fun k => if x28 = true then (some false) else (if x5 = 0 then (impl_TreeOk.l0 k x0 (wrap64 (x3 + 1)) x15 x16 (wrap64 (x17 + 1))) else (impl_TreeOk.l0 k x0 x3 x15 x16 (wrap64 (x17 + 1))))) r) : Ev (fun k => impl_TreeOk.j2 k x0 x3 x5 x15 x16 x17 x28) r := Ev.step (fun _ => rfl) h
theorem impl_TreeOk.l1.ev {x0 : List Int} {x3 : Int} {x35 : Int} {x36 : Int} {r : Bool} (h : Ev (fun k => if x36 < x35 then ((impl_steps.f k x0 (wrap64 (x36 + 1))).bind fun t142 => (if t142 < 0 then (some false) else (impl_TreeOk.l1 k x0 x3 x35 (wrap64 (x36 + 1))))) else (some (x3 == 1))) r) : Ev (fun k => impl_TreeOk.l1 k x0 x3 x35 x36) r := Ev.step (fun _ => rfl) h
theorem impl_TreeOk_l1 {l : List Int} (v : Hd.Vals l) (h8 : l.length ≤ 8) {c : Int} (hc : c = Hd.zeros l l.length) : ∀ i : Int, i ≤ l.length → 0 ≤ i → (∀ a : Int, 1 ≤ a → a ≤ i → Hd.it (Hd.hd l) l.length a = 0) →
  Ev (fun k => impl_TreeOk.l1 k l c l.length i) (Hd.treeB l) := by
 refine Hd.down ?_
 intro i hi ih h0 hb
 refine impl_TreeOk.l1.ev ?_
 by_cases hlt : i < l.length
 ·rw [wid (x := i + 1) (by omega) (by omega)]
  refine Ev.pos hlt (Ev.bind (impl_steps_ev v h8 (by omega) (by omega)) ?_)
  by_cases hz : Hd.it (Hd.hd l) l.length (i + 1) = 0
  ·rw [if_pos hz]
   refine Ev.neg (by omega) (ih hlt (by omega) fun a h1 h2 => ?_)
   by_cases e : a = i + 1
   ·rw [e]; exact hz
   ·exact hb a h1 (by omega)
  ·rw [if_neg hz, Hd.treeB_no (fun t => hz (t.2.back _ (by omega) (by omega)))]
   exact Ev.pos (by omega) (Ev.now _)
 ·refine Ev.neg hlt (Ev.ret ?_)
  have t := Hd.T_iff h8 v (fun a h1 h2 => hb a h1 (by omega))
  by_cases e : Hd.zeros l l.length = 1
  ·rw [Hd.treeB_yes (t.2 e), hc, e]; rfl
  ·rw [Hd.treeB_no (fun x => e (t.1 x)), hc]; simp; omega
theorem impl_TreeOk_l0 {l : List Int} (h8 : l.length ≤ 8) : ∀ i : Int, i ≤ l.length → 0 ≤ i → (∀ a : Int, 1 ≤ a → a ≤ i → 0 ≤ Hd.hd l a ∧ Hd.hd l a ≤ l.length) →
  Ev (fun k => impl_TreeOk.l0 k l (Hd.zeros l i.toNat) l l.length i) (Hd.treeB l) := by
 refine Hd.down ?_
 intro i hi ih h0 hb
 refine impl_TreeOk.l0.ev ?_
 by_cases hlt : i < l.length
 ·have hz := Hd.cnt_le (fun a => decide (Hd.hd l a = 0)) i.toNat
  have hzz : Hd.zeros l (i + 1).toNat = Hd.zeros l i.toNat + if Hd.hd l (i + 1) = 0 then 1 else 0 := by
   rw [show (i + 1).toNat = i.toNat + 1 from by omega]
   show Hd.cnt _ (i.toNat + 1) = _
   rw [Hd.cnt, show ((i.toNat : Int) + 1) = i + 1 from by omega]
   simp [Hd.zeros]
  have hz' : Hd.zeros l i.toNat ≤ i.toNat := hz
  rw [rd_hd1 h0]
  refine Ev.pos hlt (Ev.pos h0 (Ev.pos hlt ?_))
  have no : ¬ (0 ≤ Hd.hd l (i + 1) ∧ Hd.hd l (i + 1) ≤ l.length) → Hd.treeB l = false := fun hn => Hd.treeB_no fun t => hn (t.vals _ (by omega) (by omega))
  by_cases hneg : Hd.hd l (i + 1) < 0
  ·refine Ev.pos hneg (impl_TreeOk.j2.ev (Ev.pos rfl (Ev.ret ?_)))
   rw [no (by omega)]
  ·refine Ev.neg hneg (impl_TreeOk.j2.ev ?_)
   by_cases hbig : Hd.hd l (i + 1) > l.length
   ·refine Ev.pos (by simpa using hbig) (Ev.ret ?_)
    rw [no (by omega)]
   ·refine Ev.neg (by simpa using hbig) ?_
    rw [wid (x := (Hd.zeros l i.toNat : Int) + 1) (by omega) (by omega), wid (x := i + 1) (by omega) (by omega)]
    have next := ih hlt (by omega) (fun a h1 h2 => by
     by_cases e : a = i + 1
     ·rw [e]; omega
     ·exact hb a h1 (by omega))
    rw [hzz] at next
    by_cases h00 : Hd.hd l (i + 1) = 0
    ·rw [if_pos h00] at next
     exact Ev.pos h00 next
    ·rw [if_neg h00] at next
     exact Ev.neg h00 next
 ·refine Ev.neg hlt ?_
  have e : i.toNat = l.length := by omega
  rw [e]
  exact impl_TreeOk_l1 (fun a h1 h2 => hb a h1 (by omega)) h8 rfl 0 (by omega) (by omega) (fun a h1 h2 => by omega)
theorem impl_TreeOk_ev (l : List Int) : Ev (fun k => impl_TreeOk.f k l) (Hd.treeB l) := by
 unfold impl_TreeOk.f
 by_cases h1 : (l.length : Int) < 1
 ·refine Ev.pos h1 (impl_TreeOk.j0.ev (Ev.pos rfl (Ev.ret ?_)))
  exact (Hd.treeB_no fun t => by have := t.2.pos; omega).symm
 ·refine Ev.neg h1 (impl_TreeOk.j0.ev ?_)
  by_cases h8 : (l.length : Int) > 8
  ·refine Ev.pos (by simpa using h8) (Ev.ret ?_)
   exact (Hd.treeB_no fun t => by have := t.1; omega).symm
  ·refine Ev.neg (by simpa using h8) ?_
   exact impl_TreeOk_l0 (by omega) 0 (by omega) (by omega) (fun a h1 h2 => by omega)

/-! impl_between -/

open Classical in
theorem impl_between_eq (x a b : Int) : impl_between.f x a b = some (decide (Hd.Btw x a b)) := by
 have m := mn_mx a b
 unfold impl_between.f
 generalize mn a b = p at *
 generalize mx a b = q at *
 have e : decide (Hd.Btw x a b) = decide (p < x ∧ x < q) := decide_eq_decide.2 (by unfold Hd.Btw; omega)
 rw [e]
 by_cases h : x > p
 ·rw [if_pos h]; congr 1; simp; omega
 ·rw [if_neg h]; congr 1; simp; omega

/-! impl_outside -/

open Classical in
theorem impl_outside_eq (x a b : Int) : impl_outside.f x a b = some (decide (Hd.Outs x a b)) := by
 have m := mn_mx a b
 unfold impl_outside.f
 generalize mn a b = p at *
 generalize mx a b = q at *
 have e : decide (Hd.Outs x a b) = decide (x < p ∨ q < x) := decide_eq_decide.2 (by unfold Hd.Outs; omega)
 rw [e]
 by_cases h : x < p
 ·rw [if_pos h]; congr 1; simp; omega
 ·rw [if_neg h]; congr 1; simp; omega

/-! impl_CrossOk -/
theorem impl_CrossOk.j0.ev {x0 : Int} {x1 : Int} {x2 : Int} {x3 : Int} {x32 : Bool} {r : Bool} (h : Ev (fun k => if x32 = true then (some false) else ((impl_between.f x2 x0 x1).bind fun t143 => (if t143 = true then ((impl_outside.f x3 x0 x1).bind fun t144 => (if t144 = true then (some true) else ((impl_between.f x3 x0 x1).bind fun t145 => (if t145 = true then ((impl_outside.f x2 x0 x1).bind fun t146 => (some t146)) else (some false))))) else ((impl_between.f x3 x0 x1).bind fun t147 => (if t147 = true then ((impl_outside.f x2 x0 x1).bind fun t148 => (some t148)) else (some false)))))) r) : Ev (fun k => impl_CrossOk.j0 k x0 x1 x2 x3 x32) r := Ev.step (fun _ => rfl) h
theorem impl_CrossOk_ev (a b c d : Int) : Ev (fun k => impl_CrossOk.f k a b c d) (crsB a b c d) := by
 unfold impl_CrossOk.f
 have no : ¬ (1 ≤ a ∧ 1 ≤ b ∧ 1 ≤ c ∧ 1 ≤ d ∧ a ≠ b ∧ c ≠ d) → Ev (fun k => impl_CrossOk.j0 k a b c d true) (crsB a b c d) := fun h => by
  refine impl_CrossOk.j0.ev (Ev.pos rfl (Ev.ret ?_))
  rw [crsB_no fun p => h ⟨p.1, p.2.1, p.2.2.1, p.2.2.2.1, p.2.2.2.2.1, p.2.2.2.2.2.1⟩]
 by_cases h1 : a < 1
 ·exact Ev.pos h1 (no (by omega))
 refine Ev.neg h1 ?_
 by_cases h2 : b < 1
 ·exact Ev.pos h2 (no (by omega))
 refine Ev.neg h2 ?_
 by_cases h3 : c < 1
 ·exact Ev.pos h3 (no (by omega))
 refine Ev.neg h3 ?_
 by_cases h4 : d < 1
 ·exact Ev.pos h4 (no (by omega))
 refine Ev.neg h4 ?_
 by_cases h5 : a = b
 ·exact Ev.pos h5 (no (by omega))
 refine Ev.neg h5 ?_
 by_cases h6 : c = d
 ·rw [show (c == d) = true from by simpa using h6]; exact no (by omega)
 rw [show (c == d) = false from by simpa using h6]
 refine impl_CrossOk.j0.ev (Ev.neg (by simp) ?_)
 have e : crsB a b c d = true ↔ Hd.Crs a b c d := by
  rw [crsB_true]
  exact ⟨fun p => p.2.2.2.2.2.2, fun p => ⟨by omega, by omega, by omega, by omega, h5, h6, p⟩⟩
 refine Ev.bindv (impl_between_eq _ _ _) ?_
 by_cases b1 : Hd.Btw c a b
 ·refine Ev.pos (by simpa using b1) (Ev.bindv (impl_outside_eq _ _ _) ?_)
  by_cases o1 : Hd.Outs d a b
  ·refine Ev.pos (by simpa using o1) (Ev.ret ?_)
   exact (e.2 (.inl ⟨b1, o1⟩)).symm
  ·refine Ev.neg (by simpa using o1) (Ev.bindv (impl_between_eq _ _ _) ?_)
   by_cases b2 : Hd.Btw d a b
   ·refine Ev.pos (by simpa using b2) (Ev.bindv (impl_outside_eq _ _ _) (Ev.ret (bool_eq ?_)))
    rw [e]; simp; unfold Hd.Crs; constructor
    ·intro h; exact .inr ⟨b2, h⟩
    ·rintro (h | h)
     ·exact absurd h.2 o1
     ·exact h.2
   ·refine Ev.neg (by simpa using b2) (Ev.ret (bool_eq ?_))
    rw [e]; simp; unfold Hd.Crs; rintro (h | h)
    ·exact o1 h.2
    ·exact b2 h.1
 ·refine Ev.neg (by simpa using b1) (Ev.bindv (impl_between_eq _ _ _) ?_)
  by_cases b2 : Hd.Btw d a b
  ·refine Ev.pos (by simpa using b2) (Ev.bindv (impl_outside_eq _ _ _) (Ev.ret (bool_eq ?_)))
   rw [e]; simp; unfold Hd.Crs; constructor
   ·intro h; exact .inr ⟨b2, h⟩
   ·rintro (h | h)
    ·exact absurd h.1 b1
    ·exact h.2
  ·refine Ev.neg (by simpa using b2) (Ev.ret (bool_eq ?_))
   rw [e]; simp; unfold Hd.Crs; rintro (h | h)
   ·exact b1 h.1
   ·exact b2 h.1

/-! impl_crosses -/

theorem impl_crosses_ev {l : List Int} (h8 : l.length ≤ 8) {i j : Int} (h0 : 0 ≤ i) (h1 : i < l.length) (h2 : 0 ≤ j) (h3 : j < l.length) : Ev (fun k => impl_crosses.f k l i j) (crsB (i + 1) (Hd.hd l (i + 1)) (j + 1) (Hd.hd l (j + 1))) := by
 unfold impl_crosses.f
 rw [rd_hd1 h0, rd_hd1 h2, wid (x := i + 1) (by omega) (by omega), wid (x := j + 1) (by omega) (by omega)]
 exact Ev.pos h0 (Ev.pos h1 (Ev.pos h2 (Ev.pos h3 (Ev.bind (impl_CrossOk_ev _ _ _ _) (Ev.now _)))))

/-! impl_CrossingsOf -/
theorem impl_CrossingsOf.l0.ev {x0 : List Int} {x3 : Int} {x10 : Int} {x11 : Int} {r : Int} (h : Ev (fun k => if x11 < x10 then (impl_CrossingsOf.l1 k x0 x3 x11 x10 x11 x11 0) else (some x3)) r) : Ev (fun k => impl_CrossingsOf.l0 k x0 x3 x10 x11) r := Ev.step (fun _ => rfl) h
theorem impl_CrossingsOf.l1.ev {x0 : List Int} {x3 : Int} {x4 : Int} {x10 : Int} {x11 : Int} {x14 : Int} {x15 : Int} {r : Int} (h : Ev (fun k => if x15 < x14 then ((impl_crosses.f k x0 x4 x15).bind fun t153 => (if t153 = true then (impl_CrossingsOf.l1 k x0 (wrap64 (x3 + 1)) x4 x10 x11 x14 (wrap64 (x15 + 1))) else (impl_CrossingsOf.l1 k x0 x3 x4 x10 x11 x14 (wrap64 (x15 + 1))))) else (impl_CrossingsOf.l0 k x0 x3 x10 (wrap64 (x11 + 1)))) r) : Ev (fun k => impl_CrossingsOf.l1 k x0 x3 x4 x10 x11 x14 x15) r := Ev.step (fun _ => rfl) h
theorem impl_CrossingsOf_l1 {l : List Int} (h8 : l.length ≤ 8) {i : Int} (h0 : 0 ≤ i) (h1 : i < l.length) {r : Int}
  (next : Ev (fun k => impl_CrossingsOf.l0 k l (crsN l (i + 1).toNat : Int) l.length (i + 1)) r) : ∀ j : Int, j ≤ i → 0 ≤ j →
  Ev (fun k => impl_CrossingsOf.l1 k l ((crsN l i.toNat + Hd.cnt (fun a => crsB (i + 1) (Hd.hd l (i + 1)) a (Hd.hd l a)) j.toNat : Nat) : Int) i l.length i i j) r := by
 refine Hd.down ?_
 intro j hj ih hj0
 refine impl_CrossingsOf.l1.ev ?_
 have b1 := crsN_le l i.toNat
 have b2 := Hd.cnt_le (fun a => crsB (i + 1) (Hd.hd l (i + 1)) a (Hd.hd l a)) j.toNat
 have b3 : i.toNat * i.toNat ≤ 8 * 8 := Nat.mul_le_mul (by omega) (by omega)
 by_cases hlt : j < i
 ·have nx := ih hlt (by omega)
  rw [show (j + 1).toNat = j.toNat + 1 from by omega, Hd.cnt, show ((j.toNat : Int) + 1) = j + 1 from by omega] at nx
  rw [wid (x := j + 1) (by omega) (by omega), wid (x := ((crsN l i.toNat + Hd.cnt (fun a => crsB (i + 1) (Hd.hd l (i + 1)) a (Hd.hd l a)) j.toNat : Nat) : Int) + 1) (by omega) (by omega)]
  refine Ev.pos hlt (Ev.bind (impl_crosses_ev h8 h0 h1 hj0 (by omega)) ?_)
  by_cases hc : crsB (i + 1) (Hd.hd l (i + 1)) (j + 1) (Hd.hd l (j + 1)) = true
  ·rw [if_pos hc, ← Nat.add_assoc, Int.natCast_add] at nx
   exact Ev.pos hc nx
  ·rw [if_neg hc, Nat.add_zero] at nx
   exact Ev.neg hc nx
 ·rw [wid (x := i + 1) (by omega) (by omega)]
  refine Ev.neg hlt ?_
  rw [show (i + 1).toNat = i.toNat + 1 from by omega, crsN, show ((i.toNat : Int) + 1) = i + 1 from by omega] at next
  rw [show j.toNat = i.toNat from by omega]
  exact next
theorem impl_CrossingsOf_l0 {l : List Int} (h8 : l.length ≤ 8) : ∀ i : Int, i ≤ l.length → 0 ≤ i → Ev (fun k => impl_CrossingsOf.l0 k l (crsN l i.toNat : Int) l.length i) (crsN l l.length : Int) := by
 refine Hd.down ?_
 intro i hi ih h0
 refine impl_CrossingsOf.l0.ev ?_
 by_cases hlt : i < l.length
 ·have := impl_CrossingsOf_l1 h8 h0 hlt (ih hlt (by omega)) 0 h0 (by omega)
  simp only [Int.toNat_zero, Hd.cnt, Nat.add_zero] at this
  exact Ev.pos hlt this
 ·refine Ev.neg hlt (Ev.ret ?_)
  rw [show i.toNat = l.length from by omega]
theorem impl_CrossingsOf_ev (l : List Int) : Ev (fun k => impl_CrossingsOf.f k l) (crossI l) := by
 unfold impl_CrossingsOf.f crossI
 refine Ev.bind (impl_TreeOk_ev l) ?_
 by_cases t : Hd.T l
 ·rw [if_pos t]
  exact Ev.pos (Hd.treeB_yes t) (impl_CrossingsOf_l0 t.1 0 (by omega) (by omega))
 ·rw [if_neg t]
  exact Ev.neg (by rw [Hd.treeB_no t]; simp) (Ev.now _)


end Go.Proofs.Ytikajogmjfldaaa.QFnExactCrossingsOf
