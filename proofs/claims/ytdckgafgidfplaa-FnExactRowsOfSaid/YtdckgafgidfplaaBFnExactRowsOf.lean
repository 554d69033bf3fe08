/- Contracts of the functions that the statement FnExactRowsOf reaches: what each printed function comes to. -/
import Derived.Test.YtdckgafgidfplaaQFnExactRowsOfx6
import Derived.Test.YtdckgafgidfplaaWSized
import Derived.Test.YtdckgafgidfplaaHd8
import Derived.Test.YtdckgafgidfplaaHdB
namespace Go.Proofs.Ytdckgafgidfplaa.PrintWords
/-- The name by which the printed row calls the word. -/
abbrev sized_ints := @Go.Proofs.YtdckgafgidfplaaW.PrintWords.sized_ints
end Go.Proofs.Ytdckgafgidfplaa.PrintWords
namespace Go.Proofs.Ytdckgafgidfplaa.QFnExactRowsOf
open Go.RowKit Go.Proofs.YtdckgafgidfplaaW.PrintWords Go.Proofs.YtdckgafgidfplaaW.PrintLast Go.Proofs.YtdckgafgidfplaaW.PrintMore
set_option linter.unusedVariables false
set_option linter.unusedSimpArgs false
theorem wid {x : Int} (h : -9223372036854775808 ≤ x) (h' : x ≤ 9223372036854775807) : wrap64 x = x := by unfold wrap64; omega
theorem Ev.pos {α : Type} {c : Prop} [Decidable c] {A B : Nat → Option α} {r : α} (h : c) (e : Ev A r) : Ev (fun k => if c then A k else B k) r := by simpa only [if_pos h] using e
theorem Ev.neg {α : Type} {c : Prop} [Decidable c] {A B : Nat → Option α} {r : α} (h : ¬ c) (e : Ev B r) : Ev (fun k => if c then A k else B k) r := by simpa only [if_neg h] using e
theorem Ev.bindv {α β : Type} {o : Option α} {f : Nat → α → Option β} {a : α} {r : β} (h : o = some a) (k : Ev (fun n => f n a) r) : Ev (fun n => o.bind (f n)) r := by subst h; exact k
theorem Ev.ret {α : Type} {a r : α} (h : a = r) : Ev (fun _ => some a) r := h ▸ Ev.now a
theorem rd_hd {l : List Int} {a : Int} (h : 1 ≤ a) : rd l (a - 1) = Hd.hd l a := Hd.hd_get h
theorem rd_hd1 {l : List Int} {a : Int} (h : 0 ≤ a) : rd l a = Hd.hd l (a + 1) := by rw [← rd_hd (by omega)]; congr 1; omega
theorem mn_mx (a b : Int) : (mn a b = a ∧ mx a b = b ∧ a ≤ b) ∨ (mn a b = b ∧ mx a b = a ∧ b ≤ a) := by
 unfold mn mx
 split <;> split <;> omega
theorem h_or_i64 {a b : Nat} (ha : a < 256) (hb : b < 256) : Go.bits .or .i64 (a : Int) (b : Int) = ((a ||| b : Nat) : Int) :=
 (Go.bits_nat .i64 8 (by decide) (fun n h0 h1 => by rw [Go.IntKind.wrap_i64]; omega) a b (by omega) (by omega)).2
theorem h_shl_one {x : Nat} (h : x ≤ 7) : shl .i64 1 (x : Int) = ((2 ^ x : Nat) : Int) := by
 have : ∀ x : Nat, x < 8 → shl .i64 1 (x : Int) = ((2 ^ x : Nat) : Int) := by decide
 exact this x (by omega)
theorem h_shr_bit {v x : Nat} (h : x ≤ 64) : (Int.tmod (shr .i64 (v : Int) (x : Int)) 2 = 1) ↔ v.testBit x = true := by
 unfold shr
 rw [Int.toNat_natCast, Nat.min_eq_left (by simpa [Go.IntKind.bits] using h), Nat.testBit_eq_decide_div_mod_eq]
 have : ((v : Int) / 2 ^ x) = ((v / 2 ^ x : Nat) : Int) := by simp
 rw [this, Int.tmod_eq_emod_of_nonneg (Int.natCast_nonneg _), decide_eq_true_eq]
 omega
theorem h_shr_nat {v x : Nat} (h : x ≤ 64) : shr .i64 (v : Int) (x : Int) = ((v / 2 ^ x : Nat) : Int) := by
 unfold shr
 rw [Int.toNat_natCast, Nat.min_eq_left (by simpa [Go.IntKind.bits] using h)]
 simp
theorem h_and_i64 {a b : Nat} (ha : a < 512) (hb : b < 512) : Go.bits .and .i64 (a : Int) (b : Int) = ((a &&& b : Nat) : Int) :=
 (Go.bits_nat .i64 9 (by decide) (fun n h0 h1 => by rw [Go.IntKind.wrap_i64]; omega) a b (by omega) (by omega)).1
theorem h_rd_set {P : List Int} {i j : Int} {v : Int} (h0 : 0 ≤ i) (h1 : i < P.length) (hj : 0 ≤ j) : rd (P.set i.toNat v) j = if j = i then v else rd P j := by
 unfold rd
 rw [List.getD_eq_getElem?_getD, List.getElem?_set]
 by_cases e : j = i
 rotate_left
 ·rw [if_neg (by omega), if_neg e, List.getD_eq_getElem?_getD]
 subst e
 rw [if_pos rfl, if_pos (by omega), if_pos rfl]; rfl
/-- Bytes of a code, as far as they are read. -/
def Bts (b : List Int) : Prop := b.length ≤ 2000 ∧ ∀ i : Int, 0 ≤ rd b i ∧ rd b i ≤ 255
theorem bts_rd {l : List Int} (h : ∀ x, x ∈ l → 0 ≤ x ∧ x ≤ 255) (i : Int) : 0 ≤ rd l i ∧ rd l i ≤ 255 := by
 unfold rd
 rw [List.getD_eq_getElem?_getD]
 by_cases hi : i.toNat < l.length
 rotate_left
 ·rw [List.getElem?_eq_none (by omega)]; simp
 rw [List.getElem?_eq_getElem hi]; exact h _ (List.getElem_mem hi)
theorem Ev.lit {α : Type} {g : Nat → Option α} {r : α} (K : Nat) (h : ∀ m, g (m + K) = some r) : Ev g r := ⟨K, fun k hk => by obtain ⟨m, rfl⟩ := Nat.exists_eq_add_of_le' hk; exact h m⟩
theorem rd_at {l : List Int} {j : Nat} (h : j < l.length) : rd l (j : Int) = l[j] := by
 simp [rd, List.getD_eq_getElem?_getD, List.getElem?_eq_getElem h]

/-! laws_eqIntS -/
theorem laws_eqIntS.l0.ev {x0 : List Int} {x1 : List Int} {x5 : Int} {r : Bool} (h : Ev (fun k => if x5 < (x0.length : Int) then (if 0 ≤ x5 then (if x5 < (x1.length : Int) then (if (rd x0 x5) = (rd x1 x5) then (laws_eqIntS.l0 k x0 x1 (wrap64 (x5 + 1))) else (some false)) else (none)) else (none)) else (some true)) r) : Ev (fun k => laws_eqIntS.l0 k x0 x1 x5) r := Ev.step (fun _ => rfl) h
theorem laws_eqIntS_l0 {a b : List Int} (hl : a.length ≤ 4611686018427387904) (he : a.length = b.length) : ∀ i : Int, i ≤ a.length → 0 ≤ i → a.take i.toNat = b.take i.toNat → Ev (fun k => laws_eqIntS.l0 k a b i) (decide (a = b)) := by
 refine Hd.down ?_
 intro i hi ih h0 ht
 refine laws_eqIntS.l0.ev ?_
 by_cases hlt : i < a.length
 rotate_left
 ·refine Ev.neg hlt (Ev.ret ?_)
  rw [show i.toNat = a.length from by omega] at ht
  rw [List.take_length, he, List.take_length] at ht
  simp [ht]
 rw [wid (x := i + 1) (by omega) (by omega)]
 refine Ev.pos hlt (Ev.pos h0 (Ev.pos (by omega) ?_))
 obtain ⟨j, rfl⟩ := Int.eq_ofNat_of_zero_le h0
 have hj : j < a.length := by omega
 have hj2 : j < b.length := by omega
 simp only [Int.toNat_natCast] at *
 have ga : rd a j = a[j] := by simp [rd, List.getD_eq_getElem?_getD, List.getElem?_eq_getElem hj]
 have gb : rd b j = b[j] := by simp [rd, List.getD_eq_getElem?_getD, List.getElem?_eq_getElem hj2]
 by_cases e : rd a j = rd b j
 rotate_left
 ·refine Ev.neg e (Ev.ret ?_)
  have : a ≠ b := fun h => e (by rw [h])
  simp [this]
 refine Ev.pos e (ih hlt (by omega) ?_)
 rw [show ((j : Int) + 1).toNat = j + 1 from by omega, List.take_succ_eq_append_getElem hj, List.take_succ_eq_append_getElem hj2, ht, ← ga, ← gb, e]
theorem laws_eqIntS_ev {a b : List Int} (hl : a.length ≤ 1048576) : Ev (fun k => laws_eqIntS.f k a b) (decide (a = b)) := by
 unfold laws_eqIntS.f
 by_cases e : a.length = b.length
 rotate_left
 ·refine Ev.neg (by omega) (Ev.ret ?_)
  have : a ≠ b := fun h => e (by rw [h])
  simp [this]
 refine Ev.pos (by omega) ?_
 exact laws_eqIntS_l0 (by omega) e 0 (by omega) (by omega) (by simp)

/-! laws_markIntS -/
theorem laws_markIntS.l0.ev {x0 : List Int} {x1 : Int} {x5 : Int} {r : Int × List Int} (h : Ev (fun k => if x5 < (x0.length : Int) then (if 0 ≤ x5 then (laws_markIntS.l0 k (x0.set (x5 : Int).toNat x1) (wrap64 (x1 + 1)) (wrap64 (x5 + 1))) else (none)) else (some (x1, x0))) r) : Ev (fun k => laws_markIntS.l0 k x0 x1 x5) r := Ev.step (fun _ => rfl) h
theorem laws_markIntS_l0 {l : List Int} (hl : l.length ≤ 1048600) {c : Int} (hc : 0 ≤ c) (hc2 : c ≤ 1000000000000) : ∀ i : Int, i ≤ l.length → 0 ≤ i → Ev (fun k => laws_markIntS.l0 k (Hd.tab (fun a => c + a - 1) i.toNat ++ l.drop i.toNat) (c + i) i) (c + l.length, Hd.tab (fun a => c + a - 1) l.length) := by
 refine Hd.down ?_
 intro i hi ih h0
 refine laws_markIntS.l0.ev ?_
 have hlen : (Hd.tab (fun a => c + a - 1) i.toNat ++ l.drop i.toNat).length = l.length := by rw [List.length_append, Hd.tab_length, List.length_drop]; omega
 rw [hlen]
 by_cases hlt : i < l.length
 rotate_left
 ·refine Ev.neg hlt (Ev.ret ?_)
  rw [show i.toNat = l.length from by omega, List.drop_length, List.append_nil, show i = (l.length : Int) from by omega]
 rw [wid (x := c + i + 1) (by omega) (by omega), wid (x := i + 1) (by omega) (by omega)]
 refine Ev.pos hlt (Ev.pos h0 ?_)
 have next := ih hlt (by omega)
 obtain ⟨j, rfl⟩ := Int.eq_ofNat_of_zero_le h0
 rw [show ((j : Int) + 1).toNat = j + 1 from by omega, show c + ((j : Int) + 1) = c + j + 1 from by omega] at next
 simp only [Int.toNat_natCast] at *
 have e : (Hd.tab (fun a => c + a - 1) j ++ l.drop j).set j (c + (j : Int)) = Hd.tab (fun a => c + a - 1) (j + 1) ++ l.drop (j + 1) := by
  rw [List.set_append, if_neg (by rw [Hd.tab_length]; omega), Hd.tab_length, Nat.sub_self, List.drop_eq_getElem_cons (show j < l.length by omega), List.set_cons_zero]
  simp only [Hd.tab, List.append_assoc, List.singleton_append]
  congr 2; omega
 rw [e]; exact next
theorem laws_markIntS_ev {l : List Int} (hl : l.length ≤ 1048600) {c : Int} (hc : 0 ≤ c) (hc2 : c ≤ 1000000000000) : Ev (fun k => laws_markIntS.f k l c) (c + l.length, Hd.tab (fun a => c + a - 1) l.length) := by
 have := laws_markIntS_l0 hl hc hc2 0 (by omega) (by omega)
 simp only [Int.toNat_zero, Hd.tab, List.drop_zero, List.nil_append, Int.add_zero] at this
 exact this

/-! laws_toIntS -/
theorem laws_toIntS.l0.ev {x0 : List Int} {x3 : List Int} {x4 : Int} {r : List Int} (h : Ev (fun k => if x4 < (x0.length : Int) then (if 0 ≤ x4 then (if x4 < (x3.length : Int) then (laws_toIntS.l0 k x0 (x3.set (x4 : Int).toNat (rd x0 x4)) (wrap64 (x4 + 1))) else (none)) else (none)) else (some x3)) r) : Ev (fun k => laws_toIntS.l0 k x0 x3 x4) r := Ev.step (fun _ => rfl) h
theorem laws_toIntS_l0 {l : List Int} (hl : l.length ≤ 35184372088832) : ∀ i : Int, i ≤ l.length → 0 ≤ i → Ev (fun k => laws_toIntS.l0 k l (l.take i.toNat ++ List.replicate (l.length - i.toNat) 0) i) l := by
 refine Hd.down ?_
 intro i hi ih h0
 refine laws_toIntS.l0.ev ?_
 by_cases hlt : i < l.length
 rotate_left
 ·refine Ev.neg hlt (Ev.ret ?_)
  rw [show i.toNat = l.length from by omega]
  simp
 rw [wid (x := i + 1) (by omega) (by omega)]
 refine Ev.pos hlt (Ev.pos h0 (Ev.pos (by simp; omega) ?_))
 have next := ih hlt (by omega)
 obtain ⟨j, rfl⟩ := Int.eq_ofNat_of_zero_le h0
 have hj : j < l.length := by omega
 rw [show ((j : Int) + 1).toNat = j + 1 from by omega] at next
 simp only [Int.toNat_natCast] at *
 have e : (l.take j ++ List.replicate (l.length - j) (0 : Int)).set j (rd l j) = l.take (j + 1) ++ List.replicate (l.length - (j + 1)) 0 := by
  rw [List.set_append, if_neg (by simp; omega)]
  rw [show l.length - j = (l.length - (j + 1)) + 1 from by omega, List.replicate_succ]
  rw [show j - (l.take j).length = 0 from by simp; omega, List.set_cons_zero, List.take_succ_eq_append_getElem hj]
  simp only [rd, List.getD_eq_getElem?_getD, Int.toNat_natCast, List.getElem?_eq_getElem hj, Option.getD_some, List.append_assoc, List.singleton_append]
 rw [e]; exact next
theorem laws_toIntS_ev {l : List Int} (hl : l.length ≤ 1048576) : Ev (fun k => laws_toIntS.f k l) l := by
 unfold laws_toIntS.f
 refine Ev.pos (by omega) (Ev.pos (by omega) ?_)
 have := laws_toIntS_l0 (l := l) (by omega) 0 (by omega) (by omega)
 simpa using this

/-! spec_l1In -/

theorem spec_l1In_eq (a b c : Int) : spec_l1In.f a b c = some (decide (b ≤ a ∧ a ≤ c)) := by
 unfold spec_l1In.f
 by_cases h : a ≥ b
 ·rw [if_pos h]; simp [h]
 rw [if_neg h]; simp; intro; omega

/-! spec_TreeOk -/
theorem spec_TreeOk.l0.ev {x0 : List Int} {x3 : Int} {x4 : Int} {x5 : Int} {r : Bool} (h : Ev (fun k => if x5 < x3 then (if 0 ≤ x5 then (if x5 < (x0.length : Int) then ((spec_l1In.f (rd x0 x5) 0 x3).bind fun t111 => (if t111 = true then (spec_TreeOk.j1 k x0 x3 x4 x5 ((rd x0 x5) == (wrap64 (x5 + 1)))) else (spec_TreeOk.j1 k x0 x3 x4 x5 true))) else (none)) else (none)) else (some (x4 == 1))) r) : Ev (fun k => spec_TreeOk.l0 k x0 x3 x4 x5) r := Ev.step (fun _ => rfl) h
theorem spec_TreeOk.j1.ev {x0 : List Int} {x3 : Int} {x4 : Int} {x5 : Int} {x33 : Bool} {r : Bool} (h : Ev (fun k => if x33 = true then (some false) else (if 0 ≤ x5 then (if x5 < (x0.length : Int) then (if (rd x0 x5) = 0 then (spec_TreeOk.j2 k x0 x3 (wrap64 (x4 + 1)) x5) else (spec_TreeOk.j2 k x0 x3 x4 x5)) else (none)) else (none))) r) : Ev (fun k => spec_TreeOk.j1 k x0 x3 x4 x5 x33) r := Ev.step (fun _ => rfl) h
theorem spec_TreeOk.j2.ev {x0 : List Int} {x3 : Int} {x4 : Int} {x5 : Int} {r : Bool} (h : Ev (fun k => spec_TreeOk.l1 k x0 x3 x4 x5 (wrap64 (x5 + 1)) 0) r) : Ev (fun k => spec_TreeOk.j2 k x0 x3 x4 x5) r := Ev.step (fun _ => rfl) h
theorem spec_TreeOk.l1.ev {x0 : List Int} {x3 : Int} {x4 : Int} {x5 : Int} {x6 : Int} {x7 : Int} {r : Bool} (h : Ev (fun k => if x6 > 0 then (spec_TreeOk.j4 k x0 x3 x4 x5 x6 x7 (decide (x7 < x3))) else (spec_TreeOk.j4 k x0 x3 x4 x5 x6 x7 false)) r) : Ev (fun k => spec_TreeOk.l1 k x0 x3 x4 x5 x6 x7) r := Ev.step (fun _ => rfl) h
theorem spec_TreeOk.j4.ev {x0 : List Int} {x3 : Int} {x4 : Int} {x5 : Int} {x6 : Int} {x7 : Int} {x49 : Bool} {r : Bool} (h : Ev (fun k => if x49 = true then (if 0 ≤ (wrap64 (x6 - 1)) then (if (wrap64 (x6 - 1)) < (x0.length : Int) then ((spec_l1In.f (rd x0 (wrap64 (x6 - 1))) 0 x3).bind fun t115 => (if t115 = true then (spec_TreeOk.l1 k x0 x3 x4 x5 (rd x0 (wrap64 (x6 - 1))) (wrap64 (x7 + 1))) else (some false))) else (none)) else (none)) else (if x6 > 0 then (some false) else (spec_TreeOk.l0 k x0 x3 x4 (wrap64 (x5 + 1))))) r) : Ev (fun k => spec_TreeOk.j4 k x0 x3 x4 x5 x6 x7 x49) r := Ev.step (fun _ => rfl) h
theorem spec_TreeOk_l1 {l : List Int} (h8 : l.length ≤ 8) {c i : Int} (h0 : 0 ≤ i) (hlt : i < l.length)
  (next : Hd.it (Hd.hd l) l.length (i + 1) = 0 → Ev (fun k => spec_TreeOk.l0 k l l.length c (i + 1)) (Hd.treeB l)) :
  ∀ s : Int, s ≤ l.length → 0 ≤ s → ∀ a : Int, 0 ≤ a → a ≤ l.length → a = Hd.it (Hd.hd l) s.toNat (i + 1) → Ev (fun k => spec_TreeOk.l1 k l l.length c i a s) (Hd.treeB l) := by
 refine Hd.down ?_
 intro s hs ih h1 a ha1 ha2 ea
 refine spec_TreeOk.l1.ev ?_
 by_cases hz : a > 0
 rotate_left
 ·refine Ev.neg hz (spec_TreeOk.j4.ev (Ev.neg (by simp) (Ev.neg hz ?_)))
  rw [wid (x := i + 1) (by omega) (by omega)]
  exact next (Hd.it_more (Hd.hd_zero l) (j := s.toNat) (by omega) (by omega))
 refine Ev.pos hz (spec_TreeOk.j4.ev ?_)
 by_cases hsn : s < l.length
 rotate_left
 ·refine Ev.neg (by simpa using hsn) (Ev.pos hz (Ev.ret ?_))
  refine (Hd.treeB_no fun t => ?_).symm
  have := t.2.back (i + 1) (by omega) (by omega)
  rw [show s.toNat = l.length from by omega, this] at ea
  omega
 rw [wid (x := a - 1) (by omega) (by omega), rd_hd (by omega), wid (x := s + 1) (by omega) (by omega)]
 refine Ev.pos (by simpa using hsn) (Ev.pos (by omega) (Ev.pos (by omega) (Ev.bindv (spec_l1In_eq _ _ _) ?_)))
 by_cases hin : 0 ≤ Hd.hd l a ∧ Hd.hd l a ≤ l.length
 rotate_left
 ·refine Ev.neg (by simpa using hin) (Ev.ret ?_)
  exact (Hd.treeB_no fun t => hin (t.vals _ (by omega) (by omega))).symm
 refine Ev.pos (by simpa using hin) (ih hsn (by omega) _ hin.1 hin.2 ?_)
 rw [show (s + 1).toNat = s.toNat + 1 from by omega, Hd.it_succ, ← ea]
theorem spec_TreeOk_l0 {l : List Int} (h8 : l.length ≤ 8) : ∀ i : Int, i ≤ l.length → 0 ≤ i → (∀ a : Int, 1 ≤ a → a ≤ i → (0 ≤ Hd.hd l a ∧ Hd.hd l a ≤ l.length) ∧ Hd.it (Hd.hd l) l.length a = 0) →
  Ev (fun k => spec_TreeOk.l0 k l l.length (Hd.zeros l i.toNat) i) (Hd.treeB l) := by
 refine Hd.down ?_
 intro i hi ih h0 hb
 refine spec_TreeOk.l0.ev ?_
 by_cases hlt : i < l.length
 rotate_left
 ·refine Ev.neg hlt (Ev.ret ?_)
  have e : i.toNat = l.length := by omega
  rw [e]
  have t := Hd.T_iff h8 (fun a h1 h2 => (hb a h1 (by omega)).1) (fun a h1 h2 => (hb a h1 (by omega)).2)
  by_cases e : Hd.zeros l l.length = 1
  ·rw [Hd.treeB_yes (t.2 e), e]; rfl
  rw [Hd.treeB_no (fun x => e (t.1 x))]; simp; omega
 have hz := Hd.cnt_le (fun a => decide (Hd.hd l a = 0)) i.toNat
 have hzz : Hd.zeros l (i + 1).toNat = Hd.zeros l i.toNat + if Hd.hd l (i + 1) = 0 then 1 else 0 := by
  rw [show (i + 1).toNat = i.toNat + 1 from by omega]
  show Hd.cnt _ (i.toNat + 1) = _
  rw [Hd.cnt, show ((i.toNat : Int) + 1) = i + 1 from by omega]
  simp [Hd.zeros]
 have hz' : Hd.zeros l i.toNat ≤ i.toNat := hz
 rw [rd_hd1 h0, wid (x := i + 1) (by omega) (by omega)]
 refine Ev.pos hlt (Ev.pos h0 (Ev.pos hlt (Ev.bindv (spec_l1In_eq _ _ _) ?_)))
 by_cases hin : 0 ≤ Hd.hd l (i + 1) ∧ Hd.hd l (i + 1) ≤ l.length
 rotate_left
 ·refine Ev.neg (by simpa using hin) (spec_TreeOk.j1.ev (Ev.pos rfl (Ev.ret ?_)))
  exact (Hd.treeB_no fun t => hin (t.vals _ (by omega) (by omega))).symm
 refine Ev.pos (by simpa using hin) (spec_TreeOk.j1.ev ?_)
 by_cases hown : Hd.hd l (i + 1) = i + 1
 ·refine Ev.pos (by simpa using hown) (Ev.ret ?_)
  exact (Hd.treeB_no fun t => t.2.not_own (a := i + 1) (by omega) hown).symm
 refine Ev.neg (by simpa using hown) (Ev.pos h0 (Ev.pos hlt ?_))
 rw [rd_hd1 h0, wid (x := (Hd.zeros l i.toNat : Int) + 1) (by omega) (by omega)]
 have next : Hd.it (Hd.hd l) l.length (i + 1) = 0 → Ev (fun k => spec_TreeOk.l0 k l l.length (Hd.zeros l (i + 1).toNat) (i + 1)) (Hd.treeB l) := fun hit =>
  ih hlt (by omega) (fun a h1 h2 => by
   by_cases e : a = i + 1
   ·rw [e]; exact ⟨hin, hit⟩
   exact hb a h1 (by omega))
 rw [hzz] at next
 by_cases h00 : Hd.hd l (i + 1) = 0
 rotate_left
 ·rw [if_neg h00] at next
  refine Ev.neg h00 (spec_TreeOk.j2.ev ?_)
  rw [wid (x := i + 1) (by omega) (by omega)]
  exact spec_TreeOk_l1 h8 h0 hlt next 0 (by omega) (by omega) (i + 1) (by omega) (by omega) rfl
 rw [if_pos h00] at next
 refine Ev.pos h00 (spec_TreeOk.j2.ev ?_)
 rw [wid (x := i + 1) (by omega) (by omega)]
 exact spec_TreeOk_l1 h8 h0 hlt next 0 (by omega) (by omega) (i + 1) (by omega) (by omega) rfl
theorem spec_TreeOk_ev (l : List Int) : Ev (fun k => spec_TreeOk.f k l) (Hd.treeB l) := by
 unfold spec_TreeOk.f
 refine Ev.bindv (spec_l1In_eq _ _ _) ?_
 by_cases h : 1 ≤ (l.length : Int) ∧ (l.length : Int) ≤ 8
 rotate_left
 ·refine Ev.neg (by simpa using h) (Ev.ret ?_)
  exact (Hd.treeB_no fun t => by have := t.1; have := t.2.pos; omega).symm
 refine Ev.pos (by simpa using h) ?_
 exact spec_TreeOk_l0 (by omega) 0 (by omega) (by omega) (fun a h1 h2 => by omega)

/-! spec_l2Yield -/
theorem spec_l2Yield.l0.ev {x0 : List Int} {x1 : Int} {x5 : Int} {x6 : Int} {r : Int} (h : Ev (fun k => if x6 < (x0.length : Int) then (if 0 ≤ x6 then (if (rd x0 x6) = x1 then ((spec_l2Yield.f k x0 (wrap64 (x6 + 1))).bind fun t117 => (spec_l2Yield.l0 k x0 x1 (Go.bits .or .i64 x5 t117) (wrap64 (x6 + 1)))) else (spec_l2Yield.l0 k x0 x1 x5 (wrap64 (x6 + 1)))) else (none)) else (some x5)) r) : Ev (fun k => spec_l2Yield.l0 k x0 x1 x5 x6) r := Ev.step (fun _ => rfl) h
theorem spec_l2Yield.f.ev {l0 : List Int} {a1 : Int} {r : Int} (h : Ev (fun k => if 0 ≤ (wrap64 (a1 - 1)) then (spec_l2Yield.l0 k l0 a1 (shl .i64 1 (wrap64 (a1 - 1))) 0) else (none)) r) : Ev (fun k => spec_l2Yield.f k l0 a1) r := Ev.step (fun _ => rfl) h
theorem spec_l2Yield_l0 {l : List Int} (t : Hd.T l) {w : Int} (hw : 1 ≤ w ∧ w ≤ l.length)
  (rec : ∀ c : Int, 1 ≤ c → c ≤ l.length → Hd.hd l c = w → Ev (fun k => spec_l2Yield.f k l c) (Hd.ybits l c : Int)) :
  ∀ i : Int, i ≤ l.length → 0 ≤ i → ∀ q : Int → Bool, (∀ x, q x = true ↔ x = w ∨ ∃ c, (1 ≤ c ∧ c ≤ i) ∧ Hd.hd l c = w ∧ Hd.Und (Hd.hd l) x c) →
  Ev (fun k => spec_l2Yield.l0 k l w (Hd.ysum q l.length : Int) i) (Hd.ybits l w : Int) := by
 refine Hd.down ?_
 intro i hi ih h0 q hq
 have h8 := t.1
 refine spec_l2Yield.l0.ev ?_
 by_cases hlt : i < l.length
 rotate_left
 ·refine Ev.neg hlt (Ev.ret ?_)
  unfold Hd.ybits
  congr 1
  refine Hd.ysum_congr fun a h1 h2 => bool_eq ?_
  rw [hq, Hd.undB_true, Hd.und_child t.2 hw]
  constructor
  ·rintro (e | ⟨c, h1, h2, h3⟩)
   ·exact .inl e
   ·exact .inr ⟨c, ⟨h1.1, by omega⟩, h2, h3⟩
  ·rintro (e | ⟨c, h1, h2, h3⟩)
   ·exact .inl e
   ·exact .inr ⟨c, ⟨h1.1, by omega⟩, h2, h3⟩
 rw [wid (x := i + 1) (by omega) (by omega), rd_hd1 h0]
 refine Ev.pos hlt (Ev.pos h0 ?_)
 by_cases hc : Hd.hd l (i + 1) = w
 rotate_left
 ·refine Ev.neg hc (ih hlt (by omega) q fun x => ?_)
  rw [hq]
  constructor
  ·rintro (e | ⟨c, h1, h2, h3⟩)
   ·exact .inl e
   ·exact .inr ⟨c, ⟨h1.1, by omega⟩, h2, h3⟩
  ·rintro (e | ⟨c, h1, h2, h3⟩)
   ·exact .inl e
   ·by_cases e : c = i + 1
    ·subst e; exact absurd h2 hc
    ·exact .inr ⟨c, ⟨h1.1, by omega⟩, h2, h3⟩
 refine Ev.pos hc (Ev.bind (rec (i + 1) (by omega) (by omega) hc) ?_)
 unfold Hd.ybits at *
 rw [h_or_i64 (Hd.ysum_le h8) (Hd.ysum_le h8), Hd.ysum_or]
 refine ih hlt (by omega) _ fun x => ?_
 rw [Bool.or_eq_true, hq, Hd.undB_true]
 constructor
 ·rintro ((e | ⟨c, h1, h2, h3⟩) | u)
  ·exact .inl e
  ·exact .inr ⟨c, ⟨h1.1, by omega⟩, h2, h3⟩
  ·exact .inr ⟨i + 1, ⟨by omega, by omega⟩, hc, u⟩
 ·rintro (e | ⟨c, h1, h2, h3⟩)
  ·exact .inl (.inl e)
  ·by_cases e : c = i + 1
   ·subst e; exact .inr h3
   ·exact .inl (.inr ⟨c, ⟨h1.1, by omega⟩, h2, h3⟩)
theorem spec_l2Yield_all {l : List Int} (t : Hd.T l) : ∀ (d : Nat) (w : Int), 1 ≤ w → w ≤ l.length → l.length ≤ d + Hd.dep l.length (Hd.hd l) w → Ev (fun k => spec_l2Yield.f k l w) (Hd.ybits l w : Int)
 | 0, w, h1, h2, h3 => by have := t.2.dep_lt ⟨h1, h2⟩; omega
 | d + 1, w, h1, h2, h3 => by
  have h8 := t.1
  refine spec_l2Yield.f.ev ?_
  rw [wid (x := w - 1) (by omega) (by omega)]
  refine Ev.pos (by omega) ?_
  obtain ⟨v, rfl⟩ : ∃ v : Nat, w = (v : Int) + 1 := ⟨(w - 1).toNat, by omega⟩
  rw [show ((v : Int) + 1 - 1) = (v : Int) from by omega, h_shl_one (by omega), Hd.ysum_one (m := l.length) (by omega)]
  refine spec_l2Yield_l0 t ⟨h1, h2⟩ (fun c k1 k2 e => spec_l2Yield_all t d c k1 k2 ?_) 0 (by omega) (by omega) _ fun x => ?_
  ·have := t.2.dep_head (a := c) (by omega)
   rw [e] at this
   omega
  ·simp; intro c _ _; omega
theorem spec_l2Yield_ev {l : List Int} (t : Hd.T l) {w : Int} (h1 : 1 ≤ w) (h2 : w ≤ l.length) : Ev (fun k => spec_l2Yield.f k l w) (Hd.ybits l w : Int) :=
 spec_l2Yield_all t l.length w h1 h2 (by omega)
theorem ybits_at {l : List Int} (t : Hd.T l) {a w : Int} (h1 : 1 ≤ a) (h2 : a ≤ l.length) : (Int.tmod (shr .i64 (Hd.ybits l w : Int) (a - 1)) 2 = 1) ↔ Hd.undB l a w = true := by
 have h8 := t.1
 obtain ⟨v, rfl⟩ : ∃ v : Nat, a = (v : Int) + 1 := ⟨(a - 1).toNat, by omega⟩
 rw [show ((v : Int) + 1 - 1) = (v : Int) from by omega, h_shr_bit (by omega)]
 unfold Hd.ybits
 rw [Hd.ysum_bit, show decide (v < l.length) = true from by simp; omega, Bool.true_and]

/-! spec_l2Words -/
theorem spec_l2Words.l0.ev {x0 : Int} {x3 : List Int} {x4 : Int} {r : List Int} (h : Ev (fun k => if 0 ≤ x4 then (if (shr .i64 x0 x4) > 0 then (if (Int.tmod (shr .i64 x0 x4) 2) = 1 then (if x3.length < 17592186044416 then (spec_l2Words.l0 k x0 (x3 ++ [wrap64 (x4 + 1)]) (wrap64 (x4 + 1))) else (none)) else (spec_l2Words.l0 k x0 x3 (wrap64 (x4 + 1)))) else (some x3)) else (none)) r) : Ev (fun k => spec_l2Words.l0 k x0 x3 x4) r := Ev.step (fun _ => rfl) h
theorem ysum_div {p : Int → Bool} {m j : Nat} (h : Hd.ysum p m / 2 ^ j = 0) : ∀ a : Int, (j : Int) < a → a ≤ m → p a = false := by
 intro a h1 h2
 have hb := Hd.ysum_bit p m (a - 1).toNat
 have hlt : Hd.ysum p m < 2 ^ j := by
  apply Classical.byContradiction
  intro hn
  have := Nat.div_pos (Nat.le_of_not_lt hn) (Nat.two_pow_pos j)
  omega
 have h3 : Hd.ysum p m < 2 ^ (a - 1).toNat := Nat.lt_of_lt_of_le hlt (Nat.pow_le_pow_right (by decide) (by omega))
 rw [Nat.testBit_lt_two_pow h3, decide_eq_true (show (a - 1).toNat < m by omega), Bool.true_and, show (((a - 1).toNat : Nat) : Int) + 1 = a from by omega] at hb
 exact hb.symm
theorem spec_l2Words_l0 {p : Int → Bool} {n : Nat} (h8 : n ≤ 8) : ∀ i : Int, i ≤ n → 0 ≤ i → Ev (fun k => spec_l2Words.l0 k (Hd.ysum p n : Int) (Hd.sel p i.toNat) i) (Hd.sel p n) := by
 refine Hd.down ?_
 intro i hi ih h0
 obtain ⟨j, rfl⟩ := Int.eq_ofNat_of_zero_le h0
 refine spec_l2Words.l0.ev (Ev.pos h0 ?_)
 by_cases hz : Hd.ysum p n / 2 ^ j = 0
 ·rw [h_shr_nat (by omega), hz]
  refine Ev.neg (by simp) (Ev.ret ?_)
  obtain ⟨d, hd⟩ : ∃ d, n = j + d := ⟨n - j, by omega⟩
  rw [Int.toNat_natCast, hd]
  exact (Hd.sel_more (m := j) (k := d) fun a h1 h2 => ysum_div hz a h1 (by omega)).symm
 have hlt : j < n := by
  apply Classical.byContradiction
  intro hn
  refine hz (Nat.div_eq_of_lt (Nat.lt_of_lt_of_le (Hd.ysum_lt p n) (Nat.pow_le_pow_right (by decide) (by omega))))
 have next := ih (by omega) (by omega)
 have hs := Hd.sel_le p j
 rw [show ((j : Int) + 1).toNat = j + 1 from by omega, Hd.sel] at next
 rw [Int.toNat_natCast]
 rw [wid (x := (j : Int) + 1) (by omega) (by omega)]
 refine Ev.pos (by rw [h_shr_nat (by omega)]; exact Int.natCast_pos.2 (Nat.pos_of_ne_zero hz)) ?_
 have bit : (Int.tmod (shr .i64 (Hd.ysum p n : Int) (j : Int)) 2 = 1) ↔ p ((j : Int) + 1) = true := by
  rw [h_shr_bit (by omega), Hd.ysum_bit, decide_eq_true hlt, Bool.true_and]
 by_cases hp : p ((j : Int) + 1) = true
 ·rw [if_pos hp] at next
  exact Ev.pos (bit.2 hp) (Ev.pos (by omega) next)
 rw [if_neg hp, List.append_nil] at next
 exact Ev.neg (fun h => hp (bit.1 h)) next
theorem spec_l2Words_ev {p : Int → Bool} {n : Nat} (h8 : n ≤ 8) : Ev (fun k => spec_l2Words.f k (Hd.ysum p n : Int)) (Hd.sel p n) := spec_l2Words_l0 h8 0 (by omega) (by omega)

/-! spec_YieldOf -/
theorem spec_YieldOf.j0.ev {x0 : List Int} {x1 : Int} {x14 : Bool} {r : List Int} (h : Ev (fun k => if x14 = true then (some (([] : List Int))) else ((spec_l2Yield.f k x0 x1).bind fun t129 => ((spec_l2Words.f k t129).bind fun t130 => (some t130)))) r) : Ev (fun k => spec_YieldOf.j0 k x0 x1 x14) r := Ev.step (fun _ => rfl) h
theorem spec_YieldOf_ev (l : List Int) (w : Int) : Ev (fun k => spec_YieldOf.f k l w) (Hd.yldL l w) := by
 unfold spec_YieldOf.f
 refine Ev.bind (spec_TreeOk_ev l) ?_
 by_cases t : Hd.T l
 rotate_left
 ·rw [Hd.yldL, if_neg fun h => t h.1]
  exact Ev.neg (by rw [Hd.treeB_no t]; simp) (spec_YieldOf.j0.ev (Ev.pos rfl (Ev.now _)))
 refine Ev.pos (Hd.treeB_yes t) (Ev.bindv (spec_l1In_eq _ _ _) (spec_YieldOf.j0.ev ?_))
 by_cases hw : 1 ≤ w ∧ w ≤ (l.length : Int)
 rotate_left
 ·rw [Hd.yldL, if_neg fun h => hw h.2]
  exact Ev.pos (by simp; omega) (Ev.now _)
 rw [Hd.yldL, if_pos ⟨t, hw⟩]
 exact Ev.neg (by simpa using hw) (Ev.bind (spec_l2Yield_ev t hw.1 hw.2) (Ev.bind (spec_l2Words_ev t.1) (Ev.now _)))

/-! spec_RowsOf -/
theorem spec_RowsOf.l0.ev {x5 : List (List Int)} {x6 : List Int} {x7 : Int} {r : (List (List Int))} (h : Ev (fun k => if x7 < (x6.length : Int) then (if x7 > 0 then (if 0 ≤ x7 then (if 0 ≤ (wrap64 (x7 - 1)) then (if (wrap64 (x7 - 1)) < (x6.length : Int) then (if (rd x6 x7) = (wrap64 ((rd x6 (wrap64 (x7 - 1))) + 1)) then (if 0 ≤ (wrap64 ((x5.length : Int) - 1)) then (if (wrap64 ((x5.length : Int) - 1)) < (x5.length : Int) then (if 0 < ((rd_L1 x5 (wrap64 ((x5.length : Int) - 1))).length : Int) then (spec_RowsOf.l0 k (x5.set ((wrap64 ((x5.length : Int) - 1)) : Int).toNat (([rd (rd_L1 x5 (wrap64 ((x5.length : Int) - 1))) 0, rd x6 x7] : List Int))) x6 (wrap64 (x7 + 1))) else (none)) else (none)) else (none)) else (if x5.length < 5864062014805 then (spec_RowsOf.l0 k (x5 ++ [(([rd x6 x7, rd x6 x7] : List Int))]) x6 (wrap64 (x7 + 1))) else (none))) else (none)) else (none)) else (none)) else (if 0 ≤ x7 then (if x5.length < 5864062014805 then (spec_RowsOf.l0 k (x5 ++ [(([rd x6 x7, rd x6 x7] : List Int))]) x6 (wrap64 (x7 + 1))) else (none)) else (none))) else (some x5)) r) : Ev (fun k => spec_RowsOf.l0 k x5 x6 x7) r := Ev.step (fun _ => rfl) h
theorem rd_twoS (l : List Int) : rd l 1 = l.getD 1 0 ∧ rd l 0 = l.getD 0 0 := ⟨rfl, rfl⟩
theorem rd_L_natS (x : List (List Int)) (j : Nat) : rd_L1 x (j : Int) = x.getD j [] := by simp [rd_L1]
theorem rows_last {xs : List Int} {j : Nat} (h : 0 < j) (hj : j ≤ xs.length) : 0 < (Hd.rowsR (xs.take j)).length ∧ ((Hd.rowsR (xs.take j)).getD ((Hd.rowsR (xs.take j)).length - 1) []).getD 1 0 = rd xs ((j : Int) - 1) := by
 obtain ⟨i, rfl⟩ : ∃ i, j = i + 1 := ⟨j - 1, by omega⟩
 rw [List.take_succ_eq_append_getElem (by omega), show (((i + 1 : Nat) : Int) - 1) = (i : Int) from by omega, rd_at (by omega)]
 exact Hd.rowsR_last _ _
theorem spec_RowsOf_l0 {xs : List Int} (hx : xs.length ≤ 8) (hb : ∀ a, a ∈ xs → 1 ≤ a ∧ a ≤ 8) : ∀ i : Int, i ≤ xs.length → 0 ≤ i → Ev (fun k => spec_RowsOf.l0 k (Hd.rowsR (xs.take i.toNat)) xs i) (Hd.rowsR xs) := by
 refine Hd.down ?_
 intro i hi ih h0
 obtain ⟨j, rfl⟩ := Int.eq_ofNat_of_zero_le h0
 refine spec_RowsOf.l0.ev ?_
 rw [Int.toNat_natCast]
 by_cases hlt : (j : Int) < xs.length
 rotate_left
 ·refine Ev.neg hlt (Ev.ret ?_)
  rw [show j = xs.length from by omega, List.take_length]
 have hj : j < xs.length := by omega
 have next := ih hlt (by omega)
 rw [show ((j : Int) + 1).toNat = j + 1 from by omega, List.take_succ_eq_append_getElem hj, Hd.rowsR_snoc] at next
 have wb := hb _ (List.getElem_mem hj)
 have ln := Hd.rowsR_len (xs.take j)
 rw [List.length_take] at ln
 have two := Hd.rowsR_two (xs.take j)
 have lst : 0 < j → _ := fun h => rows_last (xs := xs) h (by omega)
 have zero : j = 0 → (Hd.rowsR (xs.take j)).length = 0 := fun h => by subst h; rfl
 have rb : 0 < j → 1 ≤ rd xs ((j : Int) - 1) ∧ rd xs ((j : Int) - 1) ≤ 8 := fun h => by
  rw [show (j : Int) - 1 = ((j - 1 : Nat) : Int) from by omega, rd_at (show j - 1 < xs.length by omega)]
  exact hb _ (List.getElem_mem _)
 rw [wid (x := (j : Int) + 1) (by omega) (by omega), wid (x := (j : Int) - 1) (by omega) (by omega), rd_at hj]
 generalize rd xs ((j : Int) - 1) = p at *
 generalize Hd.rowsR (xs.take j) = out at *
 generalize xs[j] = w at *
 refine Ev.pos hlt ?_
 have app : ¬ (0 < out.length ∧ (out.getD (out.length - 1) []).getD 1 0 = w - 1) → Ev (fun k => if out.length < 5864062014805 then spec_RowsOf.l0 k (out ++ [[w, w]]) xs ((j : Int) + 1) else none) (Hd.rowsR xs) := fun h => by
  rw [Hd.stepR, if_neg h] at next
  exact Ev.pos (by omega) next
 by_cases he : j = 0
 ·have := zero he
  exact Ev.neg (by omega) (Ev.pos h0 (app (by omega)))
 have ls := lst (by omega)
 have rb := rb (by omega)
 obtain ⟨m, hm⟩ : ∃ m : Nat, out.length = m + 1 := ⟨out.length - 1, by omega⟩
 have hmem : out.getD m [] ∈ out := Hd.getD_mem _ (by omega)
 have h2 := two _ hmem
 rw [wid (x := p + 1) (by omega) (by omega), wid (x := (out.length : Int) - 1) (by omega) (by omega), show (out.length : Int) - 1 = (m : Int) from by omega, rd_L_natS, (rd_twoS _).2]
 rw [show out.length - 1 = m from by omega] at app ls
 refine Ev.pos (by omega) (Ev.pos h0 (Ev.pos (by omega) (Ev.pos (by omega) ?_)))
 by_cases hc : w = p + 1
 rotate_left
 ·exact Ev.neg hc (app fun h => hc (by omega))
 refine Ev.pos hc (Ev.pos (by omega) (Ev.pos (by omega) (Ev.pos (by omega) ?_)))
 rw [Hd.stepR, if_pos (by rw [show out.length - 1 = m from by omega]; exact ⟨by omega, by omega⟩), show out.length - 1 = m from by omega] at next
 exact next
theorem spec_yldL_bd (l : List Int) (w : Int) : ∀ a, a ∈ Hd.yldL l w → 1 ≤ a ∧ a ≤ 8 := by
 intro a ha
 unfold Hd.yldL Hd.yld at ha
 split at ha
 ·rename_i t
  have := Hd.mem_sel.1 ha
  have := t.1.1
  omega
 ·exact absurd ha (by simp)
theorem spec_RowsOf_ev (l : List Int) (w : Int) : Ev (fun k => spec_RowsOf.f k l w) (Hd.rowsL l w) := by
 unfold spec_RowsOf.f
 exact Ev.bind (spec_YieldOf_ev l w) (spec_RowsOf_l0 (Hd.yldL_len l w) (spec_yldL_bd l w) 0 (by omega) (by omega))

/-! impl_steps -/
theorem impl_steps.l0.ev {x0 : List Int} {x1 : Int} {x7 : Int} {x8 : Int} {r : Int} (h : Ev (fun k => if x8 < x7 then (if 0 ≤ (wrap64 (x1 - 1)) then (if (wrap64 (x1 - 1)) < (x0.length : Int) then (if (rd x0 (wrap64 (x1 - 1))) = 0 then (some x8) else (impl_steps.l0 k x0 (rd x0 (wrap64 (x1 - 1))) x7 (wrap64 (x8 + 1)))) else (none)) else (none)) else (some (-1))) r) : Ev (fun k => impl_steps.l0 k x0 x1 x7 x8) r := Ev.step (fun _ => rfl) h
theorem impl_steps_l0 {l : List Int} (v : Hd.Vals l) (h8 : l.length ≤ 8) : ∀ (d : Nat) (m w : Int), 0 ≤ m → m + d = l.length → 1 ≤ w → w ≤ l.length →
  Ev (fun k => impl_steps.l0 k l w l.length m) (if Hd.it (Hd.hd l) d w = 0 then m + Hd.depF (Hd.hd l) d w else -1)
 | 0, m, w, h0, hd, h1, h2 => by
  refine impl_steps.l0.ev ?_
  rw [if_neg (show ¬ Hd.it (Hd.hd l) 0 w = 0 from fun e => by have : w = 0 := e; omega)]
  exact Ev.neg (by omega) (Ev.now _)
 | d + 1, m, w, h0, hd, h1, h2 => by
  refine impl_steps.l0.ev ?_
  rw [wid (x := w - 1) (by omega) (by omega), wid (x := m + 1) (by omega) (by omega), rd_hd h1]
  refine Ev.pos (by omega) (Ev.pos (by omega) (Ev.pos (by omega) ?_))
  by_cases hz : Hd.hd l w = 0
  ·refine Ev.pos hz (Ev.ret ?_)
   have : Hd.it (Hd.hd l) (d + 1) w = 0 := by show Hd.it (Hd.hd l) d (Hd.hd l w) = 0; rw [hz]; exact Hd.it_zero (Hd.hd_zero l) d
   rw [if_pos this, Hd.depF, if_pos hz]; simp
  refine Ev.neg hz ?_
  have := v w h1 h2
  have ih := impl_steps_l0 v h8 d (m + 1) (Hd.hd l w) (by omega) (by omega) (by omega) (by omega)
  have e : Hd.it (Hd.hd l) (d + 1) w = Hd.it (Hd.hd l) d (Hd.hd l w) := rfl
  rw [e, Hd.depF, if_neg hz]
  have e2 : m + ((Hd.depF (Hd.hd l) d (Hd.hd l w) + 1 : Nat) : Int) = m + 1 + (Hd.depF (Hd.hd l) d (Hd.hd l w) : Nat) := by omega
  rw [e2]; exact ih
theorem impl_steps_ev {l : List Int} (v : Hd.Vals l) (h8 : l.length ≤ 8) {w : Int} (h1 : 1 ≤ w) (h2 : w ≤ l.length) :
  Ev (fun k => impl_steps.f k l w) (if Hd.it (Hd.hd l) l.length w = 0 then (Hd.depF (Hd.hd l) l.length w : Int) else -1) := by
 have := impl_steps_l0 v h8 l.length 0 w (by omega) (by omega) h1 h2
 simp only [Int.zero_add] at this
 exact this

/-! impl_TreeOk -/
theorem impl_TreeOk.j0.ev {x0 : List Int} {x14 : Bool} {r : Bool} (h : Ev (fun k => if x14 = true then (some false) else (impl_TreeOk.l0 k x0 0 x0 (x0.length : Int) 0)) r) : Ev (fun k => impl_TreeOk.j0 k x0 x14) r := Ev.step (fun _ => rfl) h
theorem impl_TreeOk.l0.ev {x0 : List Int} {x3 : Int} {x15 : List Int} {x16 : Int} {x17 : Int} {r : Bool} (h : Ev (fun k => if x17 < x16 then (if 0 ≤ x17 then (if x17 < (x15.length : Int) then (if (rd x15 x17) < 0 then (impl_TreeOk.j2 k x0 x3 (rd x15 x17) x15 x16 x17 true) else (impl_TreeOk.j2 k x0 x3 (rd x15 x17) x15 x16 x17 (decide ((rd x15 x17) > (x0.length : Int))))) else (none)) else (none)) else (impl_TreeOk.l1 k x0 x3 (x0.length : Int) 0)) r) : Ev (fun k => impl_TreeOk.l0 k x0 x3 x15 x16 x17) r := Ev.step (fun _ => rfl) h
theorem impl_TreeOk.j2.ev {x0 : List Int} {x3 : Int} {x5 : Int} {x15 : List Int} {x16 : Int} {x17 : Int} {x28 : Bool} {r : Bool} (h : Ev (fun k => if x28 = true then (some false) else (if x5 = 0 then (impl_TreeOk.l0 k x0 (wrap64 (x3 + 1)) x15 x16 (wrap64 (x17 + 1))) else (impl_TreeOk.l0 k x0 x3 x15 x16 (wrap64 (x17 + 1))))) r) : Ev (fun k => impl_TreeOk.j2 k x0 x3 x5 x15 x16 x17 x28) r := Ev.step (fun _ => rfl) h
theorem impl_TreeOk.l1.ev {x0 : List Int} {x3 : Int} {x35 : Int} {x36 : Int} {r : Bool} (h : Ev (fun k => if x36 < x35 then ((impl_steps.f k x0 (wrap64 (x36 + 1))).bind fun t166 => (if t166 < 0 then (some false) else (impl_TreeOk.l1 k x0 x3 x35 (wrap64 (x36 + 1))))) else (some (x3 == 1))) r) : Ev (fun k => impl_TreeOk.l1 k x0 x3 x35 x36) r := Ev.step (fun _ => rfl) h
theorem impl_TreeOk_l1 {l : List Int} (v : Hd.Vals l) (h8 : l.length ≤ 8) {c : Int} (hc : c = Hd.zeros l l.length) : ∀ i : Int, i ≤ l.length → 0 ≤ i → (∀ a : Int, 1 ≤ a → a ≤ i → Hd.it (Hd.hd l) l.length a = 0) →
  Ev (fun k => impl_TreeOk.l1 k l c l.length i) (Hd.treeB l) := by
 refine Hd.down ?_
 intro i hi ih h0 hb
 refine impl_TreeOk.l1.ev ?_
 by_cases hlt : i < l.length
 rotate_left
 ·refine Ev.neg hlt (Ev.ret ?_)
  have t := Hd.T_iff h8 v (fun a h1 h2 => hb a h1 (by omega))
  by_cases e : Hd.zeros l l.length = 1
  ·rw [Hd.treeB_yes (t.2 e), hc, e]; rfl
  rw [Hd.treeB_no (fun x => e (t.1 x)), hc]; simp; omega
 rw [wid (x := i + 1) (by omega) (by omega)]
 refine Ev.pos hlt (Ev.bind (impl_steps_ev v h8 (by omega) (by omega)) ?_)
 by_cases hz : Hd.it (Hd.hd l) l.length (i + 1) = 0
 rotate_left
 ·rw [if_neg hz, Hd.treeB_no (fun t => hz (t.2.back _ (by omega) (by omega)))]
  exact Ev.pos (by omega) (Ev.now _)
 rw [if_pos hz]
 refine Ev.neg (by omega) (ih hlt (by omega) fun a h1 h2 => ?_)
 by_cases e : a = i + 1
 ·rw [e]; exact hz
 exact hb a h1 (by omega)
theorem impl_TreeOk_l0 {l : List Int} (h8 : l.length ≤ 8) : ∀ i : Int, i ≤ l.length → 0 ≤ i → (∀ a : Int, 1 ≤ a → a ≤ i → 0 ≤ Hd.hd l a ∧ Hd.hd l a ≤ l.length) →
  Ev (fun k => impl_TreeOk.l0 k l (Hd.zeros l i.toNat) l l.length i) (Hd.treeB l) := by
 refine Hd.down ?_
 intro i hi ih h0 hb
 refine impl_TreeOk.l0.ev ?_
 by_cases hlt : i < l.length
 rotate_left
 ·refine Ev.neg hlt ?_
  have e : i.toNat = l.length := by omega
  rw [e]
  exact impl_TreeOk_l1 (fun a h1 h2 => hb a h1 (by omega)) h8 rfl 0 (by omega) (by omega) (fun a h1 h2 => by omega)
 have hz := Hd.cnt_le (fun a => decide (Hd.hd l a = 0)) i.toNat
 have hzz : Hd.zeros l (i + 1).toNat = Hd.zeros l i.toNat + if Hd.hd l (i + 1) = 0 then 1 else 0 := by
  rw [show (i + 1).toNat = i.toNat + 1 from by omega]
  show Hd.cnt _ (i.toNat + 1) = _
  rw [Hd.cnt, show ((i.toNat : Int) + 1) = i + 1 from by omega]
  simp [Hd.zeros]
 have hz' : Hd.zeros l i.toNat ≤ i.toNat := hz
 rw [rd_hd1 h0]
 refine Ev.pos hlt (Ev.pos h0 (Ev.pos hlt ?_))
 have no : ¬ (0 ≤ Hd.hd l (i + 1) ∧ Hd.hd l (i + 1) ≤ l.length) → Hd.treeB l = false := fun hn => Hd.treeB_no fun t => hn (t.vals _ (by omega) (by omega))
 by_cases hneg : Hd.hd l (i + 1) < 0
 ·refine Ev.pos hneg (impl_TreeOk.j2.ev (Ev.pos rfl (Ev.ret ?_)))
  rw [no (by omega)]
 refine Ev.neg hneg (impl_TreeOk.j2.ev ?_)
 by_cases hbig : Hd.hd l (i + 1) > l.length
 ·refine Ev.pos (by simpa using hbig) (Ev.ret ?_)
  rw [no (by omega)]
 refine Ev.neg (by simpa using hbig) ?_
 rw [wid (x := (Hd.zeros l i.toNat : Int) + 1) (by omega) (by omega), wid (x := i + 1) (by omega) (by omega)]
 have next := ih hlt (by omega) (fun a h1 h2 => by
  by_cases e : a = i + 1
  ·rw [e]; omega
  exact hb a h1 (by omega))
 rw [hzz] at next
 by_cases h00 : Hd.hd l (i + 1) = 0
 rotate_left
 ·rw [if_neg h00] at next
  exact Ev.neg h00 next
 rw [if_pos h00] at next
 exact Ev.pos h00 next
theorem impl_TreeOk_ev (l : List Int) : Ev (fun k => impl_TreeOk.f k l) (Hd.treeB l) := by
 unfold impl_TreeOk.f
 by_cases h1 : (l.length : Int) < 1
 ·refine Ev.pos h1 (impl_TreeOk.j0.ev (Ev.pos rfl (Ev.ret ?_)))
  exact (Hd.treeB_no fun t => by have := t.2.pos; omega).symm
 refine Ev.neg h1 (impl_TreeOk.j0.ev ?_)
 by_cases h8 : (l.length : Int) > 8
 ·refine Ev.pos (by simpa using h8) (Ev.ret ?_)
  exact (Hd.treeB_no fun t => by have := t.1; omega).symm
 refine Ev.neg (by simpa using h8) ?_
 exact impl_TreeOk_l0 (by omega) 0 (by omega) (by omega) (fun a h1 h2 => by omega)

/-! impl_isWord -/

theorem impl_isWord_ev (l : List Int) (a : Int) : Ev (fun k => impl_isWord.f k l a) (wordB l a) := by
 unfold impl_isWord.f
 refine Ev.bind (impl_TreeOk_ev l) ?_
 unfold wordB
 by_cases ht : Hd.treeB l = true
 rotate_left
 ·refine Ev.neg ht (Ev.ret ?_)
  rw [Bool.not_eq_true] at ht
  rw [ht]; rfl
 refine Ev.pos ht ?_
 rw [ht]
 by_cases h1 : a ≥ 1
 rotate_left
 ·refine Ev.neg h1 (Ev.ret (bool_eq ?_)); simp; omega
 refine Ev.pos h1 (Ev.ret (bool_eq ?_)); simp; omega

/-! impl_under -/
theorem impl_under.l0.ev {x0 : List Int} {x1 : Int} {x2 : Int} {r : Bool} (h : Ev (fun k => if x1 = 0 then (some (x1 == x2)) else (if x1 = x2 then (some (x1 == x2)) else (if 0 ≤ (wrap64 (x1 - 1)) then (if (wrap64 (x1 - 1)) < (x0.length : Int) then (impl_under.l0 k x0 (rd x0 (wrap64 (x1 - 1))) x2) else (none)) else (none)))) r) : Ev (fun k => impl_under.l0 k x0 x1 x2) r := Ev.step (fun _ => rfl) h
theorem impl_under_l0 {l : List Int} (t : Hd.T l) (b : Int) : ∀ (k : Nat) (a : Int), 0 ≤ a → a ≤ l.length → Hd.it (Hd.hd l) k a = 0 → Ev (fun j => impl_under.l0 j l a b) (Hd.undB l a b)
 | k, a, h1, h2, e => by
  refine impl_under.l0.ev ?_
  by_cases hz : a = 0
  ·subst hz
   refine Ev.pos rfl (Ev.ret (bool_eq ?_))
   rw [Hd.undB_true]; simp
   constructor
   ·rintro rfl; exact Hd.Und.refl _ _
   ·intro u; exact (t.2.und_zero u).symm
  refine Ev.neg hz ?_
  by_cases hab : a = b
  ·refine Ev.pos hab (Ev.ret (bool_eq ?_))
   rw [Hd.undB_true]; simp [hab]
   exact Hd.Und.refl _ _
  refine Ev.neg hab ?_
  rw [wid (x := a - 1) (by omega) (by have := t.1; omega), rd_hd (by omega)]
  refine Ev.pos (by omega) (Ev.pos (by omega) ?_)
  match k, e with
  | 0, e => exact absurd e hz
  | k + 1, e =>
   have ih := impl_under_l0 t b k (Hd.hd l a) (t.2.lo a) (t.2.hi a) e
   have : Hd.undB l a b = Hd.undB l (Hd.hd l a) b := bool_eq (by
    rw [Hd.undB_true, Hd.undB_true]
    exact ⟨fun u => u.cases.elim (fun e => absurd e hab) id, fun u => u.up⟩)
   rw [this]; exact ih
theorem impl_under_ev {l : List Int} (t : Hd.T l) {a : Int} (h1 : 1 ≤ a) (h2 : a ≤ l.length) (b : Int) : Ev (fun k => impl_under.f k l a b) (Hd.undB l a b) :=
 impl_under_l0 t b l.length a (by omega) h2 (t.2.back a h1 h2)

/-! impl_YieldOf -/
theorem impl_YieldOf.l0.ev {x0 : List Int} {x1 : Int} {x5 : List Int} {x13 : Int} {x14 : Int} {r : List Int} (h : Ev (fun k => if x14 < x13 then ((impl_under.f k x0 (wrap64 (x14 + 1)) x1).bind fun t173 => (if t173 = true then (if x5.length < 17592186044416 then (impl_YieldOf.l0 k x0 x1 (x5 ++ [wrap64 (x14 + 1)]) x13 (wrap64 (x14 + 1))) else (none)) else (impl_YieldOf.l0 k x0 x1 x5 x13 (wrap64 (x14 + 1))))) else (some x5)) r) : Ev (fun k => impl_YieldOf.l0 k x0 x1 x5 x13 x14) r := Ev.step (fun _ => rfl) h
theorem impl_YieldOf_l0 {l : List Int} (t : Hd.T l) {w : Int} (hw : 1 ≤ w ∧ w ≤ (l.length : Int)) : ∀ i : Int, i ≤ l.length → 0 ≤ i → Ev (fun k => impl_YieldOf.l0 k l w (Hd.sel (fun x => Hd.undB l x w) i.toNat) l.length i) (Hd.yldL l w) := by
 have h8 := t.1
 refine Hd.down ?_
 intro i hi ih h0
 refine impl_YieldOf.l0.ev ?_
 by_cases hlt : i < l.length
 rotate_left
 ·refine Ev.neg hlt (Ev.ret ?_)
  rw [show i.toNat = l.length from by omega, Hd.yldL, if_pos ⟨t, hw⟩]; rfl
 have next := ih hlt (by omega)
 have hs := Hd.sel_le (fun x => Hd.undB l x w) i.toNat
 rw [show (i + 1).toNat = i.toNat + 1 from by omega, Hd.sel, show ((i.toNat : Int) + 1) = i + 1 from by omega] at next
 rw [wid (x := i + 1) (by omega) (by omega)]
 refine Ev.pos hlt (Ev.bind (impl_under_ev t (by omega) (by omega) w) ?_)
 by_cases e : Hd.undB l (i + 1) w = true
 rotate_left
 ·rw [if_neg e, List.append_nil] at next
  exact Ev.neg e next
 rw [if_pos e] at next
 exact Ev.pos e (Ev.pos (by omega) next)
theorem impl_YieldOf_ev (l : List Int) (w : Int) : Ev (fun k => impl_YieldOf.f k l w) (Hd.yldL l w) := by
 unfold impl_YieldOf.f
 refine Ev.bind (impl_isWord_ev l w) ?_
 by_cases hw : wordB l w = true
 rotate_left
 ·rw [Hd.yldL, if_neg fun h => hw (wordB_true.2 h)]
  exact Ev.neg hw (Ev.now _)
 have h := wordB_true.1 hw
 exact Ev.pos hw (impl_YieldOf_l0 h.1 h.2 0 (by omega) (by omega))

/-! slices_Clip_int_int -/

theorem slices_Clip_eq (l : List (List Int)) : slices_Clip_int_int.f l = some l := by
 unfold slices_Clip_int_int.f
 rw [if_pos (by omega), if_pos (by omega), Int.toNat_natCast, List.take_length]
theorem rd_two (l : List Int) : rd l 1 = l.getD 1 0 ∧ rd l 0 = l.getD 0 0 := ⟨rfl, rfl⟩
theorem rd_L_nat (x : List (List Int)) (j : Nat) : rd_L1 x (j : Int) = x.getD j [] := by simp [rd_L1]

/-! impl_RowsOf -/
theorem impl_RowsOf.l0.ev {x5 : List (List Int)} {x12 : List Int} {x13 : Int} {x14 : Int} {r : (List (List Int))} (h : Ev (fun k => if x14 < x13 then (if 0 ≤ x14 then (if x14 < (x12.length : Int) then (if (x5.length : Int) > 0 then (if 0 ≤ (wrap64 ((x5.length : Int) - 1)) then (if (wrap64 ((x5.length : Int) - 1)) < (x5.length : Int) then (if 1 < ((rd_L1 x5 (wrap64 ((x5.length : Int) - 1))).length : Int) then (if (rd (rd_L1 x5 (wrap64 ((x5.length : Int) - 1))) 1) = (wrap64 ((rd x12 x14) - 1)) then (impl_RowsOf.l0 k (x5.set ((wrap64 ((x5.length : Int) - 1)) : Int).toNat ((rd_L1 x5 (wrap64 ((x5.length : Int) - 1))).set (1 : Int).toNat (rd x12 x14))) x12 x13 (wrap64 (x14 + 1))) else (if x5.length < 5864062014805 then (impl_RowsOf.l0 k (x5 ++ [(([rd x12 x14, rd x12 x14] : List Int))]) x12 x13 (wrap64 (x14 + 1))) else (none))) else (none)) else (none)) else (none)) else (if x5.length < 5864062014805 then (impl_RowsOf.l0 k (x5 ++ [(([rd x12 x14, rd x12 x14] : List Int))]) x12 x13 (wrap64 (x14 + 1))) else (none))) else (none)) else (none)) else ((slices_Clip_int_int.f x5).bind fun t207 => (some t207))) r) : Ev (fun k => impl_RowsOf.l0 k x5 x12 x13 x14) r := Ev.step (fun _ => rfl) h
theorem impl_RowsOf_l0 {xs : List Int} (hx : xs.length ≤ 8) (hb : ∀ a, a ∈ xs → 1 ≤ a ∧ a ≤ 8) : ∀ i : Int, i ≤ xs.length → 0 ≤ i → Ev (fun k => impl_RowsOf.l0 k (Hd.rowsR (xs.take i.toNat)) xs xs.length i) (Hd.rowsR xs) := by
 refine Hd.down ?_
 intro i hi ih h0
 obtain ⟨j, rfl⟩ := Int.eq_ofNat_of_zero_le h0
 refine impl_RowsOf.l0.ev ?_
 rw [Int.toNat_natCast]
 by_cases hlt : (j : Int) < xs.length
 rotate_left
 ·refine Ev.neg hlt (Ev.bindv (slices_Clip_eq _) (Ev.ret ?_))
  rw [show j = xs.length from by omega, List.take_length]
 have hj : j < xs.length := by omega
 have next := ih hlt (by omega)
 rw [show ((j : Int) + 1).toNat = j + 1 from by omega, List.take_succ_eq_append_getElem hj, Hd.rowsR_snoc] at next
 have wb := hb _ (List.getElem_mem hj)
 have ln := Hd.rowsR_len (xs.take j)
 rw [List.length_take] at ln
 have two := Hd.rowsR_two (xs.take j)
 rw [wid (x := (j : Int) + 1) (by omega) (by omega), rd_at hj]
 generalize Hd.rowsR (xs.take j) = out at *
 generalize xs[j] = w at *
 refine Ev.pos hlt (Ev.pos h0 (Ev.pos hlt ?_))
 have app : ¬ (0 < out.length ∧ (out.getD (out.length - 1) []).getD 1 0 = w - 1) → Ev (fun k => if out.length < 5864062014805 then impl_RowsOf.l0 k (out ++ [[w, w]]) xs xs.length ((j : Int) + 1) else none) (Hd.rowsR xs) := fun h => by
  rw [Hd.stepR, if_neg h] at next
  exact Ev.pos (by omega) next
 by_cases he : out.length = 0
 ·exact Ev.neg (by omega) (app (by omega))
 obtain ⟨m, hm⟩ : ∃ m : Nat, out.length = m + 1 := ⟨out.length - 1, by omega⟩
 have hmem : out.getD m [] ∈ out := Hd.getD_mem _ (by omega)
 have h2 := two _ hmem
 rw [wid (x := (out.length : Int) - 1) (by omega) (by omega), show (out.length : Int) - 1 = (m : Int) from by omega, rd_L_nat, wid (x := w - 1) (by omega) (by omega), (rd_two _).1]
 rw [show out.length - 1 = m from by omega] at app
 refine Ev.pos (by omega) (Ev.pos (by omega) (Ev.pos (by omega) (Ev.pos (by omega) ?_)))
 by_cases hc : (out.getD m []).getD 1 0 = w - 1
 rotate_left
 ·exact Ev.neg hc (app fun h => hc h.2)
 refine Ev.pos hc ?_
 rw [Hd.stepR, if_pos (by rw [show out.length - 1 = m from by omega]; exact ⟨by omega, hc⟩), show out.length - 1 = m from by omega, ← Hd.set_two h2] at next
 exact next
theorem yldL_bd (l : List Int) (w : Int) : ∀ a, a ∈ Hd.yldL l w → 1 ≤ a ∧ a ≤ 8 := by
 intro a ha
 unfold Hd.yldL Hd.yld at ha
 split at ha
 ·rename_i t
  have := Hd.mem_sel.1 ha
  have := t.1.1
  omega
 ·exact absurd ha (by simp)
theorem impl_RowsOf_ev (l : List Int) (w : Int) : Ev (fun k => impl_RowsOf.f k l w) (Hd.rowsL l w) := by
 unfold impl_RowsOf.f
 exact Ev.bind (impl_YieldOf_ev l w) (impl_RowsOf_l0 (Hd.yldL_len l w) (yldL_bd l w) 0 (by omega) (by omega))

/-! laws_eqIntSS -/
theorem laws_eqIntSS.l0.ev {x0 : List (List Int)} {x1 : List (List Int)} {x5 : Int} {r : Bool} (h : Ev (fun k => if x5 < (x0.length : Int) then (if 0 ≤ x5 then (if x5 < (x1.length : Int) then ((laws_eqIntS.f k (rd_L1 x0 x5) (rd_L1 x1 x5)).bind fun t213 => (if t213 = true then (laws_eqIntSS.l0 k x0 x1 (wrap64 (x5 + 1))) else (some false))) else (none)) else (none)) else (some true)) r) : Ev (fun k => laws_eqIntSS.l0 k x0 x1 x5) r := Ev.step (fun _ => rfl) h
-- (with laws_markIntSS)

/-! laws_heldIntS -/
theorem laws_heldIntS.l0.ev {x0 : List Int} {x1 : Int} {x5 : Int} {r : Int} (h : Ev (fun k => if x5 < (x0.length : Int) then (if 0 ≤ x5 then (if (rd x0 x5) = x1 then (laws_heldIntS.l0 k x0 (wrap64 (x1 + 1)) (wrap64 (x5 + 1))) else (some (-1))) else (none)) else (some x1)) r) : Ev (fun k => laws_heldIntS.l0 k x0 x1 x5) r := Ev.step (fun _ => rfl) h
theorem laws_heldIntS_l0 {n : Nat} (hn : n ≤ 1048600) {c : Int} (hc : 0 ≤ c) (hc2 : c ≤ 1000000000000) : ∀ i : Int, i ≤ n → 0 ≤ i → Ev (fun k => laws_heldIntS.l0 k (Hd.tab (fun a => c + a - 1) n) (c + i) i) (c + n) := by
 refine Hd.down ?_
 intro i hi ih h0
 refine laws_heldIntS.l0.ev ?_
 rw [Hd.tab_length]
 by_cases hlt : i < n
 rotate_left
 ·refine Ev.neg hlt (Ev.ret ?_)
  omega
 rw [wid (x := c + i + 1) (by omega) (by omega), wid (x := i + 1) (by omega) (by omega)]
 have next := ih hlt (by omega)
 rw [show c + (i + 1) = c + i + 1 from by omega] at next
 refine Ev.pos hlt (Ev.pos h0 (Ev.pos ?_ next))
 unfold rd
 rw [Hd.tab_get _ _ (show i.toNat < n by omega)]; omega
theorem laws_heldIntS_ev {n : Nat} (hn : n ≤ 1048600) {c : Int} (hc : 0 ≤ c) (hc2 : c ≤ 1000000000000) : Ev (fun k => laws_heldIntS.f k (Hd.tab (fun a => c + a - 1) n) c) (c + n) := by
 have := laws_heldIntS_l0 hn hc hc2 0 (by omega) (by omega)
 simp only [Int.add_zero] at this
 exact this

/-! laws_heldIntSS -/
theorem laws_heldIntSS.l0.ev {x0 : List (List Int)} {x1 : Int} {x5 : Int} {r : Int} (h : Ev (fun k => if x5 < (x0.length : Int) then (if 0 ≤ x5 then ((laws_heldIntS.f k (rd_L1 x0 x5) x1).bind fun t217 => (if t217 < 0 then (some (-1)) else (laws_heldIntSS.l0 k x0 t217 (wrap64 (x5 + 1))))) else (none)) else (some x1)) r) : Ev (fun k => laws_heldIntSS.l0 k x0 x1 x5) r := Ev.step (fun _ => rfl) h
-- (with laws_markIntSS)

/-! laws_markIntSS -/

/-- Rows marked from c on, one behind the other. -/
def markL : Int → List (List Int) → List (List Int)
 | _, [] => []
 | c, x :: xs => Hd.tab (fun a => c + a - 1) x.length :: markL (c + x.length) xs
def totL : List (List Int) → Int
 | [] => 0
 | x :: xs => x.length + totL xs
def SmallR (xs : List (List Int)) : Prop := xs.length ≤ 1000 ∧ ∀ x, x ∈ xs → x.length ≤ 1000
theorem totL_bd : ∀ {xs : List (List Int)}, (∀ x, x ∈ xs → x.length ≤ 1000) → 0 ≤ totL xs ∧ totL xs ≤ 1000 * xs.length
 | [], _ => by simp [totL]
 | x :: xs, h => by
  have := totL_bd (xs := xs) fun y hy => h y (by simp [hy])
  have := h x (by simp)
  rw [totL, List.length_cons]; push_cast; omega
theorem laws_markIntSS_ev : ∀ {xs : List (List Int)} {c : Int}, (∀ x, x ∈ xs → x.length ≤ 1000) → 0 ≤ c → c + 1000 * xs.length ≤ 1000000000000 → Ev (fun k => laws_markIntSS.f k c xs) (c + totL xs, markL c xs)
 | [], c, _, _, _ => by
  refine Ev.ret ?_
  simp [totL, markL]
 | x :: xs, c, h, h0, h1 => by
  have hx := h x (by simp)
  rw [List.length_cons] at h1
  have ih := laws_markIntSS_ev (xs := xs) (c := c + x.length) (fun y hy => h y (by simp [hy])) (by omega) (by push_cast at h1; omega)
  refine Ev.bind (laws_markIntS_ev (by omega) h0 (by push_cast at h1; omega)) (Ev.bind ih (Ev.ret ?_))
  simp only [totL, markL]
  rw [Int.add_assoc]
theorem markL_len : ∀ (c : Int) (xs : List (List Int)), (markL c xs).length = xs.length
 | _, [] => rfl
 | c, x :: xs => by rw [markL, List.length_cons, List.length_cons, markL_len]
/-- The row at a place, and what was counted ahead of it. -/
theorem markL_at : ∀ {xs : List (List Int)} {c : Int} {i : Nat}, i < xs.length → (markL c xs).getD i [] = Hd.tab (fun a => (c + totL (xs.take i)) + a - 1) (xs.getD i []).length ∧ totL (xs.take (i + 1)) = totL (xs.take i) + (xs.getD i []).length
 | [], _, _, h => by simp at h
 | x :: xs, c, 0, _ => by simp [markL, totL]
 | x :: xs, c, i + 1, h => by
  obtain ⟨e1, e2⟩ := markL_at (xs := xs) (c := c + x.length) (i := i) (by simpa using h)
  refine ⟨?_, ?_⟩
  ·rw [markL, List.getD_cons_succ, e1, List.take_succ_cons, totL, List.getD_cons_succ]
   congr 1; funext a; omega
  ·rw [List.take_succ_cons, List.take_succ_cons, totL, totL, e2, List.getD_cons_succ]; omega
theorem getD_memSS {xs : List (List Int)} {i : Nat} (h : i < xs.length) : xs.getD i [] ∈ xs := by
 rw [List.getD_eq_getElem?_getD, List.getElem?_eq_getElem h]; exact List.getElem_mem h
theorem laws_heldIntSS_ev {xs : List (List Int)} (s : SmallR xs) : Ev (fun k => laws_heldIntSS.f k (markL 1 xs) 1) (1 + totL xs) := by
 have hl := markL_len 1 xs
 have main : ∀ i : Int, i ≤ (xs.length : Int) → 0 ≤ i → Ev (fun k => laws_heldIntSS.l0 k (markL 1 xs) (1 + totL (xs.take i.toNat)) i) (1 + totL xs) := by
  refine Hd.down ?_
  intro i hi ih h0
  obtain ⟨j, rfl⟩ := Int.eq_ofNat_of_zero_le h0
  refine laws_heldIntSS.l0.ev ?_
  rw [Int.toNat_natCast]
  by_cases hlt : (j : Int) < xs.length
  rotate_left
  ·refine Ev.neg (by omega) (Ev.ret ?_)
   rw [List.take_of_length_le (by omega)]
  have nx := ih hlt (by omega)
  obtain ⟨e1, e2⟩ := markL_at (xs := xs) (c := 1) (i := j) (by omega)
  have hx := s.2 _ (getD_memSS (xs := xs) (i := j) (by omega))
  have tb := totL_bd (xs := xs.take j) fun x hx => s.2 x (List.mem_of_mem_take hx)
  have hs := s.1
  have tl : (xs.take j).length ≤ 1000 := by rw [List.length_take]; omega
  rw [show ((j : Int) + 1).toNat = j + 1 from by omega, e2] at nx
  have er : rd_L1 (markL 1 xs) (j : Int) = (markL 1 xs).getD j [] := by rw [rd_L1, Int.toNat_natCast]
  rw [wid (x := (j : Int) + 1) (by omega) (by omega), er, e1]
  have H := laws_heldIntS_ev (n := (xs.getD j []).length) (c := 1 + totL (xs.take j)) (by omega) (by omega) (by omega)
  refine Ev.pos (by omega) (Ev.pos h0 (Ev.bind H (Ev.neg (by omega) ?_)))
  rw [Int.add_assoc]; exact nx
 have m := main 0 (by omega) (by omega)
 rw [Int.toNat_zero, List.take_zero] at m
 exact m
theorem laws_eqIntSS_ev {xs : List (List Int)} (s : SmallR xs) : Ev (fun k => laws_eqIntSS.f k xs xs) true := by
 have main : ∀ i : Int, i ≤ (xs.length : Int) → 0 ≤ i → Ev (fun k => laws_eqIntSS.l0 k xs xs i) true := by
  refine Hd.down ?_
  intro i hi ih h0
  obtain ⟨j, rfl⟩ := Int.eq_ofNat_of_zero_le h0
  refine laws_eqIntSS.l0.ev ?_
  have hs := s.1
  by_cases hlt : (j : Int) < xs.length
  rotate_left
  ·exact Ev.neg hlt (Ev.now _)
  have nx := ih hlt (by omega)
  have hx := s.2 _ (getD_memSS (xs := xs) (i := j) (by omega))
  have er : rd_L1 xs (j : Int) = xs.getD j [] := by rw [rd_L1, Int.toNat_natCast]
  rw [wid (x := (j : Int) + 1) (by omega) (by omega), er]
  have E := laws_eqIntS_ev (a := xs.getD j []) (b := xs.getD j []) (by omega)
  exact Ev.pos hlt (Ev.pos h0 (Ev.pos hlt (Ev.bind E (Ev.pos (by simp) nx))))
 unfold laws_eqIntSS.f
 exact Ev.pos rfl (main 0 (by omega) (by omega))


end Go.Proofs.Ytdckgafgidfplaa.QFnExactRowsOf
