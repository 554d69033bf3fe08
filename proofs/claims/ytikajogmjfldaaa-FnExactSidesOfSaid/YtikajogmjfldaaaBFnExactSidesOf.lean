/- Contracts of the functions that the statement FnExactSidesOf reaches: what each printed function comes to. -/
import Derived.Test.YtikajogmjfldaaaPFnExactSidesOfx5
import Derived.Test.YtikajogmjfldaaaWSized
import Derived.Test.YtikajogmjfldaaaHd1
import Derived.Test.YtikajogmjfldaaaHd2
import Derived.Test.YtikajogmjfldaaaHd3
import Derived.Test.YtikajogmjfldaaaHd4
import Derived.Test.YtikajogmjfldaaaHd5
import Derived.Test.YtikajogmjfldaaaHd6
import Derived.Test.YtikajogmjfldaaaHd7
import Derived.Test.YtikajogmjfldaaaHd8
import Derived.Test.YtikajogmjfldaaaHd9
namespace Go.Proofs.Ytikajogmjfldaaa.PrintWords
/-- The name by which the printed row calls the word. -/
abbrev sized_ints := @Go.Proofs.YtikajogmjfldaaaW.PrintWords.sized_ints
end Go.Proofs.Ytikajogmjfldaaa.PrintWords
namespace Go.Proofs.Ytikajogmjfldaaa.PFnExactSidesOf
open Go.RowKit Go.Proofs.YtikajogmjfldaaaW.PrintWords Go.Proofs.YtikajogmjfldaaaW.PrintLast Go.Proofs.YtikajogmjfldaaaW.PrintMore
set_option linter.unusedVariables false
theorem wid {x : Int} (h : -9223372036854775808 ≤ x) (h' : x ≤ 9223372036854775807) : wrap64 x = x := by unfold wrap64; omega
theorem Ev.pos {α : Type} {c : Prop} [Decidable c] {A B : Nat → Option α} {r : α} (h : c) (e : Ev A r) : Ev (fun k => if c then A k else B k) r := by simpa only [if_pos h] using e
theorem Ev.neg {α : Type} {c : Prop} [Decidable c] {A B : Nat → Option α} {r : α} (h : ¬ c) (e : Ev B r) : Ev (fun k => if c then A k else B k) r := by simpa only [if_neg h] using e
theorem Ev.bindv {α β : Type} {o : Option α} {f : Nat → α → Option β} {a : α} {r : β} (h : o = some a) (k : Ev (fun n => f n a) r) : Ev (fun n => o.bind (f n)) r := by subst h; exact k
theorem Ev.ret {α : Type} {a r : α} (h : a = r) : Ev (fun _ => some a) r := h ▸ Ev.now a
theorem rd_hd {l : List Int} {a : Int} (h : 1 ≤ a) : rd l (a - 1) = Hd.hd l a := Hd.hd_get h
theorem rd_hd1 {l : List Int} {a : Int} (h : 0 ≤ a) : rd l a = Hd.hd l (a + 1) := by rw [← rd_hd (by omega)]; congr 1; omega
theorem mn_mx (a b : Int) : (mn a b = a ∧ mx a b = b ∧ a ≤ b) ∨ (mn a b = b ∧ mx a b = a ∧ b ≤ a) := by
  unfold mn mx
  split <;> split <;> omega
theorem h_or_i64 {a b : Nat} (ha : a < 256) (hb : b < 256) : Go.bits .or .i64 (a : Int) (b : Int) = ((a ||| b : Nat) : Int) :=
  (Go.bits_nat .i64 8 (by decide) (fun n h0 h1 => by rw [Go.IntKind.wrap_i64]; omega) a b (by omega) (by omega)).2
theorem h_shl_one {x : Nat} (h : x ≤ 7) : shl .i64 1 (x : Int) = ((2 ^ x : Nat) : Int) := by
  have : ∀ x : Nat, x < 8 → shl .i64 1 (x : Int) = ((2 ^ x : Nat) : Int) := by decide
  exact this x (by omega)
theorem h_shr_bit {v x : Nat} (h : x ≤ 64) : (Int.tmod (shr .i64 (v : Int) (x : Int)) 2 = 1) ↔ v.testBit x = true := by
  unfold shr
  rw [Int.toNat_natCast, Nat.min_eq_left (by simpa [Go.IntKind.bits] using h), Nat.testBit_eq_decide_div_mod_eq]
  have : ((v : Int) / 2 ^ x) = ((v / 2 ^ x : Nat) : Int) := by simp
  rw [this, Int.tmod_eq_emod_of_nonneg (Int.natCast_nonneg _), decide_eq_true_eq]
  omega
theorem h_shr_nat {v x : Nat} (h : x ≤ 64) : shr .i64 (v : Int) (x : Int) = ((v / 2 ^ x : Nat) : Int) := by
  unfold shr
  rw [Int.toNat_natCast, Nat.min_eq_left (by simpa [Go.IntKind.bits] using h)]
  simp
theorem h_and_i64 {a b : Nat} (ha : a < 512) (hb : b < 512) : Go.bits .and .i64 (a : Int) (b : Int) = ((a &&& b : Nat) : Int) :=
  (Go.bits_nat .i64 9 (by decide) (fun n h0 h1 => by rw [Go.IntKind.wrap_i64]; omega) a b (by omega) (by omega)).1
theorem h_rd_set {P : List Int} {i j : Int} {v : Int} (h0 : 0 ≤ i) (h1 : i < P.length) (hj : 0 ≤ j) : rd (P.set i.toNat v) j = if j = i then v else rd P j := by
  unfold rd
  rw [List.getD_eq_getElem?_getD, List.getElem?_set]
  by_cases e : j = i
  · subst e
    rw [if_pos rfl, if_pos (by omega), if_pos rfl]; rfl
  · rw [if_neg (by omega), if_neg e, List.getD_eq_getElem?_getD]

/-! laws_toIntS -/
theorem laws_toIntS.l0.ev {x0 : List Int} {x3 : List Int} {x4 : Int} {r : List Int} (h : Ev (fun k => if x4 < (x0.length : Int) then (if 0 ≤ x4 then (if x4 < (x3.length : Int) then (laws_toIntS.l0 k x0 (x3.set (x4 : Int).toNat (rd x0 x4)) (wrap64 (x4 + 1))) else (none)) else (none)) else (some x3)) r) : Ev (fun k => laws_toIntS.l0 k x0 x3 x4) r := Ev.step (fun _ => rfl) h
theorem laws_toIntS_l0 {l : List Int} (hl : l.length ≤ 35184372088832) : ∀ i : Int, i ≤ l.length → 0 ≤ i → Ev (fun k => laws_toIntS.l0 k l (l.take i.toNat ++ List.replicate (l.length - i.toNat) 0) i) l := by
  refine Hd.down ?_
  intro i hi ih h0
  refine laws_toIntS.l0.ev ?_
  by_cases hlt : i < l.length
  · rw [wid (x := i + 1) (by omega) (by omega)]
    refine Ev.pos hlt (Ev.pos h0 (Ev.pos (by simp; omega) ?_))
    have next := ih hlt (by omega)
    obtain ⟨j, rfl⟩ := Int.eq_ofNat_of_zero_le h0
    have hj : j < l.length := by omega
    rw [show ((j : Int) + 1).toNat = j + 1 from by omega] at next
    simp only [Int.toNat_natCast] at *
    have e : (l.take j ++ List.replicate (l.length - j) (0 : Int)).set j (rd l j) = l.take (j + 1) ++ List.replicate (l.length - (j + 1)) 0 := by
      rw [List.set_append, if_neg (by simp; omega)]
      rw [show l.length - j = (l.length - (j + 1)) + 1 from by omega, List.replicate_succ]
      rw [show j - (l.take j).length = 0 from by simp; omega, List.set_cons_zero, List.take_succ_eq_append_getElem hj]
      simp only [rd, List.getD_eq_getElem?_getD, Int.toNat_natCast, List.getElem?_eq_getElem hj, Option.getD_some, List.append_assoc, List.singleton_append]
    rw [e]; exact next
  · refine Ev.neg hlt (Ev.ret ?_)
    rw [show i.toNat = l.length from by omega]
    simp
theorem laws_toIntS_ev {l : List Int} (hl : l.length ≤ 1048576) : Ev (fun k => laws_toIntS.f k l) l := by
  unfold laws_toIntS.f
  refine Ev.pos (by omega) (Ev.pos (by omega) ?_)
  have := laws_toIntS_l0 (l := l) (by omega) 0 (by omega) (by omega)
  simpa using this

/-! laws_eqIntS -/
theorem laws_eqIntS.l0.ev {x0 : List Int} {x1 : List Int} {x5 : Int} {r : Bool} (h : Ev (fun k => if x5 < (x0.length : Int) then (if 0 ≤ x5 then (if x5 < (x1.length : Int) then (if (rd x0 x5) = (rd x1 x5) then (laws_eqIntS.l0 k x0 x1 (wrap64 (x5 + 1))) else (some false)) else (none)) else (none)) else (some true)) r) : Ev (fun k => laws_eqIntS.l0 k x0 x1 x5) r := Ev.step (fun _ => rfl) h
theorem laws_eqIntS_l0 {a b : List Int} (hl : a.length ≤ 4611686018427387904) (he : a.length = b.length) : ∀ i : Int, i ≤ a.length → 0 ≤ i → a.take i.toNat = b.take i.toNat → Ev (fun k => laws_eqIntS.l0 k a b i) (decide (a = b)) := by
  refine Hd.down ?_
  intro i hi ih h0 ht
  refine laws_eqIntS.l0.ev ?_
  by_cases hlt : i < a.length
  · rw [wid (x := i + 1) (by omega) (by omega)]
    refine Ev.pos hlt (Ev.pos h0 (Ev.pos (by omega) ?_))
    obtain ⟨j, rfl⟩ := Int.eq_ofNat_of_zero_le h0
    have hj : j < a.length := by omega
    have hj2 : j < b.length := by omega
    simp only [Int.toNat_natCast] at *
    have ga : rd a j = a[j] := by simp [rd, List.getD_eq_getElem?_getD, List.getElem?_eq_getElem hj]
    have gb : rd b j = b[j] := by simp [rd, List.getD_eq_getElem?_getD, List.getElem?_eq_getElem hj2]
    by_cases e : rd a j = rd b j
    · refine Ev.pos e (ih hlt (by omega) ?_)
      rw [show ((j : Int) + 1).toNat = j + 1 from by omega, List.take_succ_eq_append_getElem hj, List.take_succ_eq_append_getElem hj2, ht, ← ga, ← gb, e]
    · refine Ev.neg e (Ev.ret ?_)
      have : a ≠ b := fun h => e (by rw [h])
      simp [this]
  · refine Ev.neg hlt (Ev.ret ?_)
    rw [show i.toNat = a.length from by omega] at ht
    rw [List.take_length, he, List.take_length] at ht
    simp [ht]
theorem laws_eqIntS_ev {a b : List Int} (hl : a.length ≤ 1048576) : Ev (fun k => laws_eqIntS.f k a b) (decide (a = b)) := by
  unfold laws_eqIntS.f
  by_cases e : a.length = b.length
  · refine Ev.pos (by omega) ?_
    exact laws_eqIntS_l0 (by omega) e 0 (by omega) (by omega) (by simp)
  · refine Ev.neg (by omega) (Ev.ret ?_)
    have : a ≠ b := fun h => e (by rw [h])
    simp [this]

/-! spec_l1In -/

theorem spec_l1In_eq (a b c : Int) : spec_l1In.f a b c = some (decide (b ≤ a ∧ a ≤ c)) := by
  unfold spec_l1In.f
  by_cases h : a ≥ b
  · rw [if_pos h]; simp [h]
  · rw [if_neg h]; simp; intro; omega

/-! spec_TreeOk -/
theorem spec_TreeOk.l0.ev {x0 : List Int} {x3 : Int} {x4 : Int} {x5 : Int} {r : Bool} (h : Ev (fun k => if x5 < x3 then (if 0 ≤ x5 then (if x5 < (x0.length : Int) then ((spec_l1In.f (rd x0 x5) 0 x3).bind fun t110 => (if t110 = true then (spec_TreeOk.j1 k x0 x3 x4 x5 ((rd x0 x5) == (wrap64 (x5 + 1)))) else (spec_TreeOk.j1 k x0 x3 x4 x5 true))) else (none)) else (none)) else (some (x4 == 1))) r) : Ev (fun k => spec_TreeOk.l0 k x0 x3 x4 x5) r := Ev.step (fun _ => rfl) h
theorem spec_TreeOk.j1.ev {x0 : List Int} {x3 : Int} {x4 : Int} {x5 : Int} {x33 : Bool} {r : Bool} (h : Ev (fun k => if x33 = true then (some false) else (if 0 ≤ x5 then (if x5 < (x0.length : Int) then (if (rd x0 x5) = 0 then (spec_TreeOk.j2 k x0 x3 (wrap64 (x4 + 1)) x5) else (spec_TreeOk.j2 k x0 x3 x4 x5)) else (none)) else (none))) r) : Ev (fun k => spec_TreeOk.j1 k x0 x3 x4 x5 x33) r := Ev.step (fun _ => rfl) h
theorem spec_TreeOk.j2.ev {x0 : List Int} {x3 : Int} {x4 : Int} {x5 : Int} {r : Bool} (h : Ev (fun k => spec_TreeOk.l1 k x0 x3 x4 x5 (wrap64 (x5 + 1)) 0) r) : Ev (fun k => spec_TreeOk.j2 k x0 x3 x4 x5) r := Ev.step (fun _ => rfl) h
theorem spec_TreeOk.l1.ev {x0 : List Int} {x3 : Int} {x4 : Int} {x5 : Int} {x6 : Int} {x7 : Int} {r : Bool} (h : Ev (fun k => if x6 > 0 then (spec_TreeOk.j4 k x0 x3 x4 x5 x6 x7 (decide (x7 < x3))) else (spec_TreeOk.j4 k x0 x3 x4 x5 x6 x7 false)) r) : Ev (fun k => spec_TreeOk.l1 k x0 x3 x4 x5 x6 x7) r := Ev.step (fun _ => rfl) h
theorem spec_TreeOk.j4.ev {x0 : List Int} {x3 : Int} {x4 : Int} {x5 : Int} {x6 : Int} {x7 : Int} {x49 : Bool} {r : Bool} (h : Ev (fun k => if x49 = true then (if 0 ≤ (wrap64 (x6 - 1)) then (if (wrap64 (x6 - 1)) < (x0.length : Int) then ((spec_l1In.f (rd x0 (wrap64 (x6 - 1))) 0 x3).bind fun t114 => (if t114 = true then (spec_TreeOk.l1 k x0 x3 x4 x5 (rd x0 (wrap64 (x6 - 1))) (wrap64 (x7 + 1))) else (some false))) else (none)) else (none)) else (if x6 > 0 then (some false) else (spec_TreeOk.l0 k x0 x3 x4 (wrap64 (x5 + 1))))) r) : Ev (fun k => spec_TreeOk.j4 k x0 x3 x4 x5 x6 x7 x49) r := Ev.step (fun _ => rfl) h
theorem spec_TreeOk_l1 {l : List Int} (h8 : l.length ≤ 8) {c i : Int} (h0 : 0 ≤ i) (hlt : i < l.length)
    (next : Hd.it (Hd.hd l) l.length (i + 1) = 0 → Ev (fun k => spec_TreeOk.l0 k l l.length c (i + 1)) (Hd.treeB l)) :
    ∀ s : Int, s ≤ l.length → 0 ≤ s → ∀ a : Int, 0 ≤ a → a ≤ l.length → a = Hd.it (Hd.hd l) s.toNat (i + 1) → Ev (fun k => spec_TreeOk.l1 k l l.length c i a s) (Hd.treeB l) := by
  refine Hd.down ?_
  intro s hs ih h1 a ha1 ha2 ea
  refine spec_TreeOk.l1.ev ?_
  by_cases hz : a > 0
  · refine Ev.pos hz (spec_TreeOk.j4.ev ?_)
    by_cases hsn : s < l.length
    · rw [wid (x := a - 1) (by omega) (by omega), rd_hd (by omega), wid (x := s + 1) (by omega) (by omega)]
      refine Ev.pos (by simpa using hsn) (Ev.pos (by omega) (Ev.pos (by omega) (Ev.bindv (spec_l1In_eq _ _ _) ?_)))
      by_cases hin : 0 ≤ Hd.hd l a ∧ Hd.hd l a ≤ l.length
      · refine Ev.pos (by simpa using hin) (ih hsn (by omega) _ hin.1 hin.2 ?_)
        rw [show (s + 1).toNat = s.toNat + 1 from by omega, Hd.it_succ, ← ea]
      · refine Ev.neg (by simpa using hin) (Ev.ret ?_)
        exact (Hd.treeB_no fun t => hin (t.vals _ (by omega) (by omega))).symm
    · refine Ev.neg (by simpa using hsn) (Ev.pos hz (Ev.ret ?_))
      refine (Hd.treeB_no fun t => ?_).symm
      have := t.2.back (i + 1) (by omega) (by omega)
      rw [show s.toNat = l.length from by omega, this] at ea
      omega
  · refine Ev.neg hz (spec_TreeOk.j4.ev (Ev.neg (by simp) (Ev.neg hz ?_)))
    rw [wid (x := i + 1) (by omega) (by omega)]
    exact next (Hd.it_more (Hd.hd_zero l) (j := s.toNat) (by omega) (by omega))
theorem spec_TreeOk_l0 {l : List Int} (h8 : l.length ≤ 8) : ∀ i : Int, i ≤ l.length → 0 ≤ i → (∀ a : Int, 1 ≤ a → a ≤ i → (0 ≤ Hd.hd l a ∧ Hd.hd l a ≤ l.length) ∧ Hd.it (Hd.hd l) l.length a = 0) →
    Ev (fun k => spec_TreeOk.l0 k l l.length (Hd.zeros l i.toNat) i) (Hd.treeB l) := by
  refine Hd.down ?_
  intro i hi ih h0 hb
  refine spec_TreeOk.l0.ev ?_
  by_cases hlt : i < l.length
  · have hz := Hd.cnt_le (fun a => decide (Hd.hd l a = 0)) i.toNat
    have hzz : Hd.zeros l (i + 1).toNat = Hd.zeros l i.toNat + if Hd.hd l (i + 1) = 0 then 1 else 0 := by
      rw [show (i + 1).toNat = i.toNat + 1 from by omega]
      show Hd.cnt _ (i.toNat + 1) = _
      rw [Hd.cnt, show ((i.toNat : Int) + 1) = i + 1 from by omega]
      simp [Hd.zeros]
    have hz' : Hd.zeros l i.toNat ≤ i.toNat := hz
    rw [rd_hd1 h0, wid (x := i + 1) (by omega) (by omega)]
    refine Ev.pos hlt (Ev.pos h0 (Ev.pos hlt (Ev.bindv (spec_l1In_eq _ _ _) ?_)))
    by_cases hin : 0 ≤ Hd.hd l (i + 1) ∧ Hd.hd l (i + 1) ≤ l.length
    · refine Ev.pos (by simpa using hin) (spec_TreeOk.j1.ev ?_)
      by_cases hown : Hd.hd l (i + 1) = i + 1
      · refine Ev.pos (by simpa using hown) (Ev.ret ?_)
        exact (Hd.treeB_no fun t => t.2.not_own (a := i + 1) (by omega) hown).symm
      · refine Ev.neg (by simpa using hown) (Ev.pos h0 (Ev.pos hlt ?_))
        rw [rd_hd1 h0, wid (x := (Hd.zeros l i.toNat : Int) + 1) (by omega) (by omega)]
        have next : Hd.it (Hd.hd l) l.length (i + 1) = 0 → Ev (fun k => spec_TreeOk.l0 k l l.length (Hd.zeros l (i + 1).toNat) (i + 1)) (Hd.treeB l) := fun hit =>
          ih hlt (by omega) (fun a h1 h2 => by
            by_cases e : a = i + 1
            · rw [e]; exact ⟨hin, hit⟩
            · exact hb a h1 (by omega))
        rw [hzz] at next
        by_cases h00 : Hd.hd l (i + 1) = 0
        · rw [if_pos h00] at next
          refine Ev.pos h00 (spec_TreeOk.j2.ev ?_)
          rw [wid (x := i + 1) (by omega) (by omega)]
          exact spec_TreeOk_l1 h8 h0 hlt next 0 (by omega) (by omega) (i + 1) (by omega) (by omega) rfl
        · rw [if_neg h00] at next
          refine Ev.neg h00 (spec_TreeOk.j2.ev ?_)
          rw [wid (x := i + 1) (by omega) (by omega)]
          exact spec_TreeOk_l1 h8 h0 hlt next 0 (by omega) (by omega) (i + 1) (by omega) (by omega) rfl
    · refine Ev.neg (by simpa using hin) (spec_TreeOk.j1.ev (Ev.pos rfl (Ev.ret ?_)))
      exact (Hd.treeB_no fun t => hin (t.vals _ (by omega) (by omega))).symm
  · refine Ev.neg hlt (Ev.ret ?_)
    have e : i.toNat = l.length := by omega
    rw [e]
    have t := Hd.T_iff h8 (fun a h1 h2 => (hb a h1 (by omega)).1) (fun a h1 h2 => (hb a h1 (by omega)).2)
    by_cases e : Hd.zeros l l.length = 1
    · rw [Hd.treeB_yes (t.2 e), e]; rfl
    · rw [Hd.treeB_no (fun x => e (t.1 x))]; simp; omega
theorem spec_TreeOk_ev (l : List Int) : Ev (fun k => spec_TreeOk.f k l) (Hd.treeB l) := by
  unfold spec_TreeOk.f
  refine Ev.bindv (spec_l1In_eq _ _ _) ?_
  by_cases h : 1 ≤ (l.length : Int) ∧ (l.length : Int) ≤ 8
  · refine Ev.pos (by simpa using h) ?_
    exact spec_TreeOk_l0 (by omega) 0 (by omega) (by omega) (fun a h1 h2 => by omega)
  · refine Ev.neg (by simpa using h) (Ev.ret ?_)
    exact (Hd.treeB_no fun t => by have := t.1; have := t.2.pos; omega).symm

/-! spec_SidesOf -/
theorem spec_SidesOf.j0.ev {x0 : List Int} {x1 : Int} {x19 : Bool} {r : Int × Int × Bool} (h : Ev (fun k => if x19 = true then (some ((-1), (-1), false)) else (spec_SidesOf.l0 k x0 x1 0 0 0)) r) : Ev (fun k => spec_SidesOf.j0 k x0 x1 x19) r := Ev.step (fun _ => rfl) h
theorem spec_SidesOf.l0.ev {x0 : List Int} {x1 : Int} {x7 : Int} {x8 : Int} {x9 : Int} {r : Int × Int × Bool} (h : Ev (fun k => if x9 < (x0.length : Int) then (if 0 ≤ x9 then (if (rd x0 x9) = x1 then (spec_SidesOf.j2 k x0 x1 x7 x8 x9 (decide ((wrap64 (x9 + 1)) < x1))) else (spec_SidesOf.j2 k x0 x1 x7 x8 x9 false)) else (none)) else (some (x7, x8, true))) r) : Ev (fun k => spec_SidesOf.l0 k x0 x1 x7 x8 x9) r := Ev.step (fun _ => rfl) h
theorem spec_SidesOf.j2.ev {x0 : List Int} {x1 : Int} {x7 : Int} {x8 : Int} {x9 : Int} {x37 : Bool} {r : Int × Int × Bool} (h : Ev (fun k => if x37 = true then (if 0 ≤ x9 then (if x9 < (x0.length : Int) then (if (rd x0 x9) = x1 then (if (wrap64 (x9 + 1)) > x1 then (spec_SidesOf.l0 k x0 x1 (wrap64 (x7 + 1)) (wrap64 (x8 + 1)) (wrap64 (x9 + 1))) else (spec_SidesOf.l0 k x0 x1 (wrap64 (x7 + 1)) x8 (wrap64 (x9 + 1)))) else (spec_SidesOf.l0 k x0 x1 (wrap64 (x7 + 1)) x8 (wrap64 (x9 + 1)))) else (none)) else (none)) else (if 0 ≤ x9 then (if x9 < (x0.length : Int) then (if (rd x0 x9) = x1 then (if (wrap64 (x9 + 1)) > x1 then (spec_SidesOf.l0 k x0 x1 x7 (wrap64 (x8 + 1)) (wrap64 (x9 + 1))) else (spec_SidesOf.l0 k x0 x1 x7 x8 (wrap64 (x9 + 1)))) else (spec_SidesOf.l0 k x0 x1 x7 x8 (wrap64 (x9 + 1)))) else (none)) else (none))) r) : Ev (fun k => spec_SidesOf.j2 k x0 x1 x7 x8 x9 x37) r := Ev.step (fun _ => rfl) h
theorem spec_SidesOf_l0 {l : List Int} (t : Hd.T l) {w : Int} (hw : 1 ≤ w ∧ w ≤ (l.length : Int)) : ∀ i : Int, i ≤ l.length → 0 ≤ i →
    Ev (fun k => spec_SidesOf.l0 k l w (Hd.cnt (fun a => decide (Hd.hd l a = w ∧ a < w)) i.toNat : Int) (Hd.cnt (fun a => decide (Hd.hd l a = w ∧ a > w)) i.toNat : Int) i) (sidesL l w) := by
  have h8 := t.1
  refine Hd.down ?_
  intro i hi ih h0
  refine spec_SidesOf.l0.ev ?_
  by_cases hlt : i < l.length
  · have next := ih hlt (by omega)
    have c1 := Hd.cnt_le (fun a => decide (Hd.hd l a = w ∧ a < w)) i.toNat
    have c2 := Hd.cnt_le (fun a => decide (Hd.hd l a = w ∧ a > w)) i.toNat
    rw [show (i + 1).toNat = i.toNat + 1 from by omega] at next
    simp only [Hd.cnt] at next
    rw [show ((i.toNat : Int) + 1) = i + 1 from by omega] at next
    generalize Hd.cnt (fun a => decide (Hd.hd l a = w ∧ a < w)) i.toNat = x at *
    generalize Hd.cnt (fun a => decide (Hd.hd l a = w ∧ a > w)) i.toNat = y at *
    rw [rd_hd1 h0, wid (x := i + 1) (by omega) (by omega)]
    refine Ev.pos hlt (Ev.pos h0 ?_)
    by_cases e : Hd.hd l (i + 1) = w
    · refine Ev.pos e (spec_SidesOf.j2.ev ?_)
      rw [rd_hd1 h0, wid (x := i + 1) (by omega) (by omega), wid (x := (x : Int) + 1) (by omega) (by omega), wid (x := (y : Int) + 1) (by omega) (by omega)]
      by_cases hl : i + 1 < w
      · rw [if_pos (by simp [e, hl]), if_neg (by simp; omega)] at next
        exact Ev.pos (by simpa using hl) (Ev.pos h0 (Ev.pos hlt (Ev.pos e (Ev.neg (by omega) next))))
      · rw [if_neg (by simp; omega)] at next
        by_cases hg : i + 1 > w
        · rw [if_pos (by simp [e, hg])] at next
          exact Ev.neg (by simpa using hl) (Ev.pos h0 (Ev.pos hlt (Ev.pos e (Ev.pos hg next))))
        · rw [if_neg (by simp; omega)] at next
          exact Ev.neg (by simpa using hl) (Ev.pos h0 (Ev.pos hlt (Ev.pos e (Ev.neg hg next))))
    · rw [if_neg (by simp [e]), if_neg (by simp [e])] at next
      refine Ev.neg e (spec_SidesOf.j2.ev ?_)
      rw [rd_hd1 h0, wid (x := i + 1) (by omega) (by omega)]
      exact Ev.neg (by simp) (Ev.pos h0 (Ev.pos hlt (Ev.neg e next)))
  · refine Ev.neg hlt (Ev.ret ?_)
    rw [show i.toNat = l.length from by omega, sidesL, if_pos ⟨t, hw⟩]
theorem spec_SidesOf_ev (l : List Int) (w : Int) : Ev (fun k => spec_SidesOf.f k l w) (sidesL l w) := by
  unfold spec_SidesOf.f
  refine Ev.bind (spec_TreeOk_ev l) ?_
  by_cases t : Hd.T l
  · refine Ev.pos (Hd.treeB_yes t) (Ev.bindv (spec_l1In_eq _ _ _) (spec_SidesOf.j0.ev ?_))
    by_cases hw : 1 ≤ w ∧ w ≤ (l.length : Int)
    · exact Ev.neg (by simpa using hw) (spec_SidesOf_l0 t hw 0 (by omega) (by omega))
    · rw [sidesL, if_neg fun h => hw h.2]
      exact Ev.pos (by simp; omega) (Ev.now _)
  · rw [sidesL, if_neg fun h => t h.1]
    exact Ev.neg (by rw [Hd.treeB_no t]; simp) (spec_SidesOf.j0.ev (Ev.pos rfl (Ev.now _)))

/-! impl_steps -/
theorem impl_steps.l0.ev {x0 : List Int} {x1 : Int} {x7 : Int} {x8 : Int} {r : Int} (h : Ev (fun k => if x8 < x7 then (if 0 ≤ (wrap64 (x1 - 1)) then (if (wrap64 (x1 - 1)) < (x0.length : Int) then (if (rd x0 (wrap64 (x1 - 1))) = 0 then (some x8) else (impl_steps.l0 k x0 (rd x0 (wrap64 (x1 - 1))) x7 (wrap64 (x8 + 1)))) else (none)) else (none)) else (some (-1))) r) : Ev (fun k => impl_steps.l0 k x0 x1 x7 x8) r := Ev.step (fun _ => rfl) h
theorem impl_steps_l0 {l : List Int} (v : Hd.Vals l) (h8 : l.length ≤ 8) : ∀ (d : Nat) (m w : Int), 0 ≤ m → m + d = l.length → 1 ≤ w → w ≤ l.length →
    Ev (fun k => impl_steps.l0 k l w l.length m) (if Hd.it (Hd.hd l) d w = 0 then m + Hd.depF (Hd.hd l) d w else -1)
  | 0, m, w, h0, hd, h1, h2 => by
    refine impl_steps.l0.ev ?_
    rw [if_neg (show ¬ Hd.it (Hd.hd l) 0 w = 0 from fun e => by have : w = 0 := e; omega)]
    exact Ev.neg (by omega) (Ev.now _)
  | d + 1, m, w, h0, hd, h1, h2 => by
    refine impl_steps.l0.ev ?_
    rw [wid (x := w - 1) (by omega) (by omega), wid (x := m + 1) (by omega) (by omega), rd_hd h1]
    refine Ev.pos (by omega) (Ev.pos (by omega) (Ev.pos (by omega) ?_))
    by_cases hz : Hd.hd l w = 0
    · refine Ev.pos hz (Ev.ret ?_)
      have : Hd.it (Hd.hd l) (d + 1) w = 0 := by show Hd.it (Hd.hd l) d (Hd.hd l w) = 0; rw [hz]; exact Hd.it_zero (Hd.hd_zero l) d
      rw [if_pos this, Hd.depF, if_pos hz]; simp
    · refine Ev.neg hz ?_
      have := v w h1 h2
      have ih := impl_steps_l0 v h8 d (m + 1) (Hd.hd l w) (by omega) (by omega) (by omega) (by omega)
      have e : Hd.it (Hd.hd l) (d + 1) w = Hd.it (Hd.hd l) d (Hd.hd l w) := rfl
      rw [e, Hd.depF, if_neg hz]
      have e2 : m + ((Hd.depF (Hd.hd l) d (Hd.hd l w) + 1 : Nat) : Int) = m + 1 + (Hd.depF (Hd.hd l) d (Hd.hd l w) : Nat) := by omega
      rw [e2]; exact ih
theorem impl_steps_ev {l : List Int} (v : Hd.Vals l) (h8 : l.length ≤ 8) {w : Int} (h1 : 1 ≤ w) (h2 : w ≤ l.length) :
    Ev (fun k => impl_steps.f k l w) (if Hd.it (Hd.hd l) l.length w = 0 then (Hd.depF (Hd.hd l) l.length w : Int) else -1) := by
  have := impl_steps_l0 v h8 l.length 0 w (by omega) (by omega) h1 h2
  simp only [Int.zero_add] at this
  exact this

/-! impl_TreeOk -/
theorem impl_TreeOk.j0.ev {x0 : List Int} {x14 : Bool} {r : Bool} (h : Ev (fun k => if x14 = true then (some false) else (impl_TreeOk.l0 k x0 0 x0 (x0.length : Int) 0)) r) : Ev (fun k => impl_TreeOk.j0 k x0 x14) r := Ev.step (fun _ => rfl) h
theorem impl_TreeOk.l0.ev {x0 : List Int} {x3 : Int} {x15 : List Int} {x16 : Int} {x17 : Int} {r : Bool} (h : Ev (fun k => if x17 < x16 then (if 0 ≤ x17 then (if x17 < (x15.length : Int) then (if (rd x15 x17) < 0 then (impl_TreeOk.j2 k x0 x3 (rd x15 x17) x15 x16 x17 true) else (impl_TreeOk.j2 k x0 x3 (rd x15 x17) x15 x16 x17 (decide ((rd x15 x17) > (x0.length : Int))))) else (none)) else (none)) else (impl_TreeOk.l1 k x0 x3 (x0.length : Int) 0)) r) : Ev (fun k => impl_TreeOk.l0 k x0 x3 x15 x16 x17) r := Ev.step (fun _ => rfl) h
theorem impl_TreeOk.j2.ev {x0 : List Int} {x3 : Int} {x5 : Int} {x15 : List Int} {x16 : Int} {x17 : Int} {x28 : Bool} {r : Bool} (h : Ev (fun k => if x28 = true then (some false) else (if x5 = 0 then (impl_TreeOk.l0 k x0 (wrap64 (x3 + 1)) x15 x16 (wrap64 (x17 + 1))) else (impl_TreeOk.l0 k x0 x3 x15 x16 (wrap64 (x17 + 1))))) r) : Ev (fun k => impl_TreeOk.j2 k x0 x3 x5 x15 x16 x17 x28) r := Ev.step (fun _ => rfl) h
theorem impl_TreeOk.l1.ev {x0 : List Int} {x3 : Int} {x35 : Int} {x36 : Int} {r : Bool} (h : Ev (fun k => if x36 < x35 then ((impl_steps.f k x0 (wrap64 (x36 + 1))).bind fun t122 => (if t122 < 0 then (some false) else (impl_TreeOk.l1 k x0 x3 x35 (wrap64 (x36 + 1))))) else (some (x3 == 1))) r) : Ev (fun k => impl_TreeOk.l1 k x0 x3 x35 x36) r := Ev.step (fun _ => rfl) h
theorem impl_TreeOk_l1 {l : List Int} (v : Hd.Vals l) (h8 : l.length ≤ 8) {c : Int} (hc : c = Hd.zeros l l.length) : ∀ i : Int, i ≤ l.length → 0 ≤ i → (∀ a : Int, 1 ≤ a → a ≤ i → Hd.it (Hd.hd l) l.length a = 0) →
    Ev (fun k => impl_TreeOk.l1 k l c l.length i) (Hd.treeB l) := by
  refine Hd.down ?_
  intro i hi ih h0 hb
  refine impl_TreeOk.l1.ev ?_
  by_cases hlt : i < l.length
  · rw [wid (x := i + 1) (by omega) (by omega)]
    refine Ev.pos hlt (Ev.bind (impl_steps_ev v h8 (by omega) (by omega)) ?_)
    by_cases hz : Hd.it (Hd.hd l) l.length (i + 1) = 0
    · rw [if_pos hz]
      refine Ev.neg (by omega) (ih hlt (by omega) fun a h1 h2 => ?_)
      by_cases e : a = i + 1
      · rw [e]; exact hz
      · exact hb a h1 (by omega)
    · rw [if_neg hz, Hd.treeB_no (fun t => hz (t.2.back _ (by omega) (by omega)))]
      exact Ev.pos (by omega) (Ev.now _)
  · refine Ev.neg hlt (Ev.ret ?_)
    have t := Hd.T_iff h8 v (fun a h1 h2 => hb a h1 (by omega))
    by_cases e : Hd.zeros l l.length = 1
    · rw [Hd.treeB_yes (t.2 e), hc, e]; rfl
    · rw [Hd.treeB_no (fun x => e (t.1 x)), hc]; simp; omega
theorem impl_TreeOk_l0 {l : List Int} (h8 : l.length ≤ 8) : ∀ i : Int, i ≤ l.length → 0 ≤ i → (∀ a : Int, 1 ≤ a → a ≤ i → 0 ≤ Hd.hd l a ∧ Hd.hd l a ≤ l.length) →
    Ev (fun k => impl_TreeOk.l0 k l (Hd.zeros l i.toNat) l l.length i) (Hd.treeB l) := by
  refine Hd.down ?_
  intro i hi ih h0 hb
  refine impl_TreeOk.l0.ev ?_
  by_cases hlt : i < l.length
  · have hz := Hd.cnt_le (fun a => decide (Hd.hd l a = 0)) i.toNat
    have hzz : Hd.zeros l (i + 1).toNat = Hd.zeros l i.toNat + if Hd.hd l (i + 1) = 0 then 1 else 0 := by
      rw [show (i + 1).toNat = i.toNat + 1 from by omega]
      show Hd.cnt _ (i.toNat + 1) = _
      rw [Hd.cnt, show ((i.toNat : Int) + 1) = i + 1 from by omega]
      simp [Hd.zeros]
    have hz' : Hd.zeros l i.toNat ≤ i.toNat := hz
    rw [rd_hd1 h0]
    refine Ev.pos hlt (Ev.pos h0 (Ev.pos hlt ?_))
    have no : ¬ (0 ≤ Hd.hd l (i + 1) ∧ Hd.hd l (i + 1) ≤ l.length) → Hd.treeB l = false := fun hn => Hd.treeB_no fun t => hn (t.vals _ (by omega) (by omega))
    by_cases hneg : Hd.hd l (i + 1) < 0
    · refine Ev.pos hneg (impl_TreeOk.j2.ev (Ev.pos rfl (Ev.ret ?_)))
      rw [no (by omega)]
    · refine Ev.neg hneg (impl_TreeOk.j2.ev ?_)
      by_cases hbig : Hd.hd l (i + 1) > l.length
      · refine Ev.pos (by simpa using hbig) (Ev.ret ?_)
        rw [no (by omega)]
      · refine Ev.neg (by simpa using hbig) ?_
        rw [wid (x := (Hd.zeros l i.toNat : Int) + 1) (by omega) (by omega), wid (x := i + 1) (by omega) (by omega)]
        have next := ih hlt (by omega) (fun a h1 h2 => by
          by_cases e : a = i + 1
          · rw [e]; omega
          · exact hb a h1 (by omega))
        rw [hzz] at next
        by_cases h00 : Hd.hd l (i + 1) = 0
        · rw [if_pos h00] at next
          exact Ev.pos h00 next
        · rw [if_neg h00] at next
          exact Ev.neg h00 next
  · refine Ev.neg hlt ?_
    have e : i.toNat = l.length := by omega
    rw [e]
    exact impl_TreeOk_l1 (fun a h1 h2 => hb a h1 (by omega)) h8 rfl 0 (by omega) (by omega) (fun a h1 h2 => by omega)
theorem impl_TreeOk_ev (l : List Int) : Ev (fun k => impl_TreeOk.f k l) (Hd.treeB l) := by
  unfold impl_TreeOk.f
  by_cases h1 : (l.length : Int) < 1
  · refine Ev.pos h1 (impl_TreeOk.j0.ev (Ev.pos rfl (Ev.ret ?_)))
    exact (Hd.treeB_no fun t => by have := t.2.pos; omega).symm
  · refine Ev.neg h1 (impl_TreeOk.j0.ev ?_)
    by_cases h8 : (l.length : Int) > 8
    · refine Ev.pos (by simpa using h8) (Ev.ret ?_)
      exact (Hd.treeB_no fun t => by have := t.1; omega).symm
    · refine Ev.neg (by simpa using h8) ?_
      exact impl_TreeOk_l0 (by omega) 0 (by omega) (by omega) (fun a h1 h2 => by omega)

/-! impl_DependsOf -/
theorem impl_DependsOf.j0.ev {x0 : List Int} {x1 : Int} {x20 : Bool} {r : List Int} (h : Ev (fun k => if x20 = true then (some ([] : List Int)) else (impl_DependsOf.l0 k x1 (([] : List Int)) x0 (x0.length : Int) 0)) r) : Ev (fun k => impl_DependsOf.j0 k x0 x1 x20) r := Ev.step (fun _ => rfl) h
theorem impl_DependsOf.l0.ev {x1 : Int} {x5 : List Int} {x22 : List Int} {x23 : Int} {x24 : Int} {r : List Int} (h : Ev (fun k => if x24 < x23 then (if 0 ≤ x24 then (if x24 < (x22.length : Int) then (if (rd x22 x24) = x1 then (if x5.length < 17592186044416 then (impl_DependsOf.l0 k x1 (x5 ++ [wrap64 (x24 + 1)]) x22 x23 (wrap64 (x24 + 1))) else (none)) else (impl_DependsOf.l0 k x1 x5 x22 x23 (wrap64 (x24 + 1)))) else (none)) else (none)) else (some x5)) r) : Ev (fun k => impl_DependsOf.l0 k x1 x5 x22 x23 x24) r := Ev.step (fun _ => rfl) h
theorem impl_DependsOf_l0 {l : List Int} (t : Hd.T l) (w : Int) : ∀ i : Int, i ≤ l.length → 0 ≤ i → Ev (fun k => impl_DependsOf.l0 k w (Hd.sel (fun a => decide (Hd.hd l a = w)) i.toNat) l l.length i) (Hd.kidL l w) := by
  have h8 := t.1
  refine Hd.down ?_
  intro i hi ih h0
  refine impl_DependsOf.l0.ev ?_
  by_cases hlt : i < l.length
  · refine Ev.pos hlt (Ev.pos h0 (Ev.pos hlt ?_))
    have next := ih hlt (by omega)
    have hs := Hd.sel_le (fun a => decide (Hd.hd l a = w)) i.toNat
    rw [show (i + 1).toNat = i.toNat + 1 from by omega, Hd.sel, show ((i.toNat : Int) + 1) = i + 1 from by omega] at next
    rw [rd_hd1 h0, wid (x := i + 1) (by omega) (by omega)]
    by_cases e : Hd.hd l (i + 1) = w
    · rw [if_pos (by simpa using e)] at next
      exact Ev.pos e (Ev.pos (by omega) next)
    · rw [if_neg (by simpa using e), List.append_nil] at next
      exact Ev.neg e next
  · refine Ev.neg hlt (Ev.ret ?_)
    rw [show i.toNat = l.length from by omega, Hd.kidL, if_pos t]
theorem impl_DependsOf_ev (l : List Int) (w : Int) : Ev (fun k => impl_DependsOf.f k l w) (Hd.kidL l w) := by
  unfold impl_DependsOf.f
  refine Ev.bind (impl_TreeOk_ev l) ?_
  by_cases t : Hd.T l
  · have none : ¬ (0 ≤ w ∧ w ≤ l.length) → Hd.kidL l w = [] := fun h => by
      rw [Hd.kidL, if_pos t]
      apply List.eq_nil_of_length_eq_zero
      rw [Hd.sel_length]
      exact Hd.cnt_none fun a _ _ => by
        have := t.2.lo a
        have := t.2.hi a
        simp; omega
    refine Ev.pos (Hd.treeB_yes t) ?_
    by_cases h1 : w < 0
    · exact Ev.pos h1 (impl_DependsOf.j0.ev (Ev.pos rfl (Ev.ret (none (by omega)).symm)))
    · refine Ev.neg h1 (impl_DependsOf.j0.ev ?_)
      by_cases h2 : w > l.length
      · exact Ev.pos (by simpa using h2) (Ev.ret (none (by omega)).symm)
      · exact Ev.neg (by simpa using h2) (impl_DependsOf_l0 t w 0 (by omega) (by omega))
  · refine Ev.neg (by rw [Hd.treeB_no t]; simp) (impl_DependsOf.j0.ev (Ev.pos rfl (Ev.ret ?_)))
    rw [Hd.kidL, if_neg t]

/-! impl_isWord -/

theorem impl_isWord_ev (l : List Int) (a : Int) : Ev (fun k => impl_isWord.f k l a) (wordB l a) := by
  unfold impl_isWord.f
  refine Ev.bind (impl_TreeOk_ev l) ?_
  unfold wordB
  by_cases ht : Hd.treeB l = true
  · refine Ev.pos ht ?_
    rw [ht]
    by_cases h1 : a ≥ 1
    · refine Ev.pos h1 (Ev.ret (bool_eq ?_)); simp; omega
    · refine Ev.neg h1 (Ev.ret (bool_eq ?_)); simp; omega
  · refine Ev.neg ht (Ev.ret ?_)
    rw [Bool.not_eq_true] at ht
    rw [ht]; rfl

/-! impl_SidesOf -/
theorem impl_SidesOf.l0.ev {x1 : Int} {x7 : Int} {x8 : Int} {x17 : List Int} {x18 : Int} {x19 : Int} {r : Int × Int × Bool} (h : Ev (fun k => if x19 < x18 then (if 0 ≤ x19 then (if x19 < (x17.length : Int) then (if (rd x17 x19) < x1 then (impl_SidesOf.l0 k x1 (wrap64 (x7 + 1)) x8 x17 x18 (wrap64 (x19 + 1))) else (impl_SidesOf.l0 k x1 x7 (wrap64 (x8 + 1)) x17 x18 (wrap64 (x19 + 1)))) else (none)) else (none)) else (some (x7, x8, true))) r) : Ev (fun k => impl_SidesOf.l0 k x1 x7 x8 x17 x18 x19) r := Ev.step (fun _ => rfl) h
theorem impl_SidesOf_l0 {w : Int} {ds : List Int} (h8 : ds.length ≤ 8) : ∀ i : Int, i ≤ ds.length → 0 ≤ i →
    Ev (fun k => impl_SidesOf.l0 k w (((ds.take i.toNat).filter (fun a => decide (a < w))).length : Int) (((ds.take i.toNat).filter (fun a => decide (¬ a < w))).length : Int) ds ds.length i)
      (((ds.filter (fun a => decide (a < w))).length : Int), ((ds.filter (fun a => decide (¬ a < w))).length : Int), true) := by
  refine Hd.down ?_
  intro i hi ih h0
  refine impl_SidesOf.l0.ev ?_
  by_cases hlt : i < ds.length
  · have next := ih hlt (by omega)
    have c1 := List.length_filter_le (fun a => decide (a < w)) (ds.take i.toNat)
    have c2 := List.length_filter_le (fun a => decide (¬ a < w)) (ds.take i.toNat)
    have c3 : (ds.take i.toNat).length ≤ 8 := by rw [List.length_take]; omega
    have g : ds[i.toNat]'(by omega) = rd ds i := by simp [rd, List.getD_eq_getElem?_getD, List.getElem?_eq_getElem (show i.toNat < ds.length by omega)]
    rw [show (i + 1).toNat = i.toNat + 1 from by omega, List.take_succ_eq_append_getElem (by omega), g, List.filter_append, List.filter_append, List.length_append, List.length_append] at next
    generalize ((ds.take i.toNat).filter (fun a => decide (a < w))).length = x at *
    generalize ((ds.take i.toNat).filter (fun a => decide (¬ a < w))).length = y at *
    rw [wid (x := i + 1) (by omega) (by omega), wid (x := (x : Int) + 1) (by omega) (by omega), wid (x := (y : Int) + 1) (by omega) (by omega)]
    refine Ev.pos hlt (Ev.pos h0 (Ev.pos hlt ?_))
    by_cases e : rd ds i < w
    · simp only [List.filter_cons, e, decide_true, if_true, List.filter_nil, List.length_cons, List.length_nil, not_true_eq_false, decide_false, Bool.false_eq_true, if_false] at next
      exact Ev.pos e next
    · simp only [List.filter_cons, e, decide_true, if_true, List.filter_nil, List.length_cons, List.length_nil, not_false_eq_true, decide_false, Bool.false_eq_true, if_false] at next
      exact Ev.neg e next
  · refine Ev.neg hlt (Ev.ret ?_)
    rw [show i.toNat = ds.length from by omega, List.take_length]
theorem impl_SidesOf_ev (l : List Int) (w : Int) : Ev (fun k => impl_SidesOf.f k l w) (sidesL l w) := by
  unfold impl_SidesOf.f
  refine Ev.bind (impl_isWord_ev l w) ?_
  by_cases hw : wordB l w = true
  · have h := wordB_true.1 hw
    refine Ev.pos hw (Ev.bind (impl_DependsOf_ev l w) ?_)
    have := impl_SidesOf_l0 (w := w) (Hd.kidL_len l w) 0 (by omega) (by omega)
    have e : sidesL l w = ((((Hd.kidL l w).filter (fun a => decide (a < w))).length : Int), (((Hd.kidL l w).filter (fun a => decide (¬ a < w))).length : Int), true) := by
      rw [sidesL, if_pos h, Hd.kidL, if_pos h.1, Hd.sel_filter, Hd.sel_filter]
      rw [Hd.cnt_congr (p := fun a => decide (Hd.hd l a = w ∧ a < w)) (q := fun a => decide (Hd.hd l a = w) && decide (a < w)) (fun a _ _ => by simp)]
      rw [Hd.cnt_congr (p := fun a => decide (Hd.hd l a = w ∧ a > w)) (q := fun a => decide (Hd.hd l a = w) && decide (¬ a < w)) (fun a k1 k2 => bool_eq (by
        have := h.1.2.not_own ⟨k1, k2⟩
        simp
        intro e; omega))]
    rw [e]
    exact this
  · rw [sidesL, if_neg fun h => hw (wordB_true.2 h)]
    exact Ev.neg hw (Ev.now _)

theorem laws_FnExactSidesOf.j0.ev {x0 : List Int} {x8 : List Int} {x44 : Bool} {r : Bool} (h : Ev (fun k => if x44 = true then (some false) else ((laws_toIntS.f k x0).bind fun t149 => ((laws_eqIntS.f k x8 t149).bind fun t152 => (if t152 = true then (some true) else (some false))))) r) : Ev (fun k => laws_FnExactSidesOf.j0 k x0 x8 x44) r := Ev.step (fun _ => rfl) h
end Go.Proofs.Ytikajogmjfldaaa.PFnExactSidesOf
