/- Contracts of the functions that the statement FnEagerFor reaches: what each printed function comes to. -/
import Derived.Test.YtdckgafgidfplaaQFnEagerForx9
import Derived.Test.YtdckgafgidfplaaWSized
import Derived.Test.YtdckgafgidfplaaHd8
import Derived.Test.YtdckgafgidfplaaHdF
namespace Go.Proofs.Ytdckgafgidfplaa.PrintWords
/-- The name by which the printed row calls the word. -/
abbrev sized_ints := @Go.Proofs.YtdckgafgidfplaaW.PrintWords.sized_ints
end Go.Proofs.Ytdckgafgidfplaa.PrintWords
namespace Go.Proofs.Ytdckgafgidfplaa.QFnEagerFor
open Go.RowKit Go.Proofs.YtdckgafgidfplaaW.PrintWords Go.Proofs.YtdckgafgidfplaaW.PrintLast Go.Proofs.YtdckgafgidfplaaW.PrintMore
set_option linter.unusedVariables false
set_option linter.unusedSimpArgs false
theorem wid {x : Int} (h : -9223372036854775808 ≤ x) (h' : x ≤ 9223372036854775807) : wrap64 x = x := by unfold wrap64; omega
theorem Ev.pos {α : Type} {c : Prop} [Decidable c] {A B : Nat → Option α} {r : α} (h : c) (e : Ev A r) : Ev (fun k => if c then A k else B k) r := by simpa only [if_pos h] using e
theorem Ev.neg {α : Type} {c : Prop} [Decidable c] {A B : Nat → Option α} {r : α} (h : ¬ c) (e : Ev B r) : Ev (fun k => if c then A k else B k) r := by simpa only [if_neg h] using e
theorem Ev.bindv {α β : Type} {o : Option α} {f : Nat → α → Option β} {a : α} {r : β} (h : o = some a) (k : Ev (fun n => f n a) r) : Ev (fun n => o.bind (f n)) r := by subst h; exact k
theorem Ev.ret {α : Type} {a r : α} (h : a = r) : Ev (fun _ => some a) r := h ▸ Ev.now a
theorem rd_hd {l : List Int} {a : Int} (h : 1 ≤ a) : rd l (a - 1) = Hd.hd l a := Hd.hd_get h
theorem rd_hd1 {l : List Int} {a : Int} (h : 0 ≤ a) : rd l a = Hd.hd l (a + 1) := by rw [← rd_hd (by omega)]; congr 1; omega
theorem mn_mx (a b : Int) : (mn a b = a ∧ mx a b = b ∧ a ≤ b) ∨ (mn a b = b ∧ mx a b = a ∧ b ≤ a) := by
 unfold mn mx
 split <;> split <;> omega
theorem h_or_i64 {a b : Nat} (ha : a < 256) (hb : b < 256) : Go.bits .or .i64 (a : Int) (b : Int) = ((a ||| b : Nat) : Int) :=
 (Go.bits_nat .i64 8 (by decide) (fun n h0 h1 => by rw [Go.IntKind.wrap_i64]; omega) a b (by omega) (by omega)).2
theorem h_shl_one {x : Nat} (h : x ≤ 7) : shl .i64 1 (x : Int) = ((2 ^ x : Nat) : Int) := by
 have : ∀ x : Nat, x < 8 → shl .i64 1 (x : Int) = ((2 ^ x : Nat) : Int) := by decide
 exact this x (by omega)
theorem h_shr_bit {v x : Nat} (h : x ≤ 64) : (Int.tmod (shr .i64 (v : Int) (x : Int)) 2 = 1) ↔ v.testBit x = true := by
 unfold shr
 rw [Int.toNat_natCast, Nat.min_eq_left (by simpa [Go.IntKind.bits] using h), Nat.testBit_eq_decide_div_mod_eq]
 have : ((v : Int) / 2 ^ x) = ((v / 2 ^ x : Nat) : Int) := by simp
 rw [this, Int.tmod_eq_emod_of_nonneg (Int.natCast_nonneg _), decide_eq_true_eq]
 omega
theorem h_shr_nat {v x : Nat} (h : x ≤ 64) : shr .i64 (v : Int) (x : Int) = ((v / 2 ^ x : Nat) : Int) := by
 unfold shr
 rw [Int.toNat_natCast, Nat.min_eq_left (by simpa [Go.IntKind.bits] using h)]
 simp
theorem h_and_i64 {a b : Nat} (ha : a < 512) (hb : b < 512) : Go.bits .and .i64 (a : Int) (b : Int) = ((a &&& b : Nat) : Int) :=
 (Go.bits_nat .i64 9 (by decide) (fun n h0 h1 => by rw [Go.IntKind.wrap_i64]; omega) a b (by omega) (by omega)).1
theorem h_rd_set {P : List Int} {i j : Int} {v : Int} (h0 : 0 ≤ i) (h1 : i < P.length) (hj : 0 ≤ j) : rd (P.set i.toNat v) j = if j = i then v else rd P j := by
 unfold rd
 rw [List.getD_eq_getElem?_getD, List.getElem?_set]
 by_cases e : j = i
 rotate_left
 ·rw [if_neg (by omega), if_neg e, List.getD_eq_getElem?_getD]
 subst e
 rw [if_pos rfl, if_pos (by omega), if_pos rfl]; rfl
/-- Bytes of a code, as far as they are read. -/
def Bts (b : List Int) : Prop := b.length ≤ 2000 ∧ ∀ i : Int, 0 ≤ rd b i ∧ rd b i ≤ 255
theorem bts_rd {l : List Int} (h : ∀ x, x ∈ l → 0 ≤ x ∧ x ≤ 255) (i : Int) : 0 ≤ rd l i ∧ rd l i ≤ 255 := by
 unfold rd
 rw [List.getD_eq_getElem?_getD]
 by_cases hi : i.toNat < l.length
 rotate_left
 ·rw [List.getElem?_eq_none (by omega)]; simp
 rw [List.getElem?_eq_getElem hi]; exact h _ (List.getElem_mem hi)
theorem Ev.lit {α : Type} {g : Nat → Option α} {r : α} (K : Nat) (h : ∀ m, g (m + K) = some r) : Ev g r := ⟨K, fun k hk => by obtain ⟨m, rfl⟩ := Nat.exists_eq_add_of_le' hk; exact h m⟩
theorem rd_at {l : List Int} {j : Nat} (h : j < l.length) : rd l (j : Int) = l[j] := by
 simp [rd, List.getD_eq_getElem?_getD, List.getElem?_eq_getElem h]

/-! impl_steps -/
theorem impl_steps.l0.ev {x0 : List Int} {x1 : Int} {x7 : Int} {x8 : Int} {r : Int} (h : Ev (fun k => if x8 < x7 then (if 0 ≤ (wrap64 (x1 - 1)) then (if (wrap64 (x1 - 1)) < (x0.length : Int) then (if (rd x0 (wrap64 (x1 - 1))) = 0 then (some x8) else (impl_steps.l0 k x0 (rd x0 (wrap64 (x1 - 1))) x7 (wrap64 (x8 + 1)))) else (none)) else (none)) else (some (-1))) r) : Ev (fun k => impl_steps.l0 k x0 x1 x7 x8) r := Ev.step (fun _ => rfl) h
theorem impl_steps_l0 {l : List Int} (v : Hd.Vals l) (h8 : l.length ≤ 8) : ∀ (d : Nat) (m w : Int), 0 ≤ m → m + d = l.length → 1 ≤ w → w ≤ l.length →
  Ev (fun k => impl_steps.l0 k l w l.length m) (if Hd.it (Hd.hd l) d w = 0 then m + Hd.depF (Hd.hd l) d w else -1)
 | 0, m, w, h0, hd, h1, h2 => by
  refine impl_steps.l0.ev ?_
  rw [if_neg (show ¬ Hd.it (Hd.hd l) 0 w = 0 from fun e => by have : w = 0 := e; omega)]
  exact Ev.neg (by omega) (Ev.now _)
 | d + 1, m, w, h0, hd, h1, h2 => by
  refine impl_steps.l0.ev ?_
  rw [wid (x := w - 1) (by omega) (by omega), wid (x := m + 1) (by omega) (by omega), rd_hd h1]
  refine Ev.pos (by omega) (Ev.pos (by omega) (Ev.pos (by omega) ?_))
  by_cases hz : Hd.hd l w = 0
  ·refine Ev.pos hz (Ev.ret ?_)
   have : Hd.it (Hd.hd l) (d + 1) w = 0 := by show Hd.it (Hd.hd l) d (Hd.hd l w) = 0; rw [hz]; exact Hd.it_zero (Hd.hd_zero l) d
   rw [if_pos this, Hd.depF, if_pos hz]; simp
  refine Ev.neg hz ?_
  have := v w h1 h2
  have ih := impl_steps_l0 v h8 d (m + 1) (Hd.hd l w) (by omega) (by omega) (by omega) (by omega)
  have e : Hd.it (Hd.hd l) (d + 1) w = Hd.it (Hd.hd l) d (Hd.hd l w) := rfl
  rw [e, Hd.depF, if_neg hz]
  have e2 : m + ((Hd.depF (Hd.hd l) d (Hd.hd l w) + 1 : Nat) : Int) = m + 1 + (Hd.depF (Hd.hd l) d (Hd.hd l w) : Nat) := by omega
  rw [e2]; exact ih
theorem impl_steps_ev {l : List Int} (v : Hd.Vals l) (h8 : l.length ≤ 8) {w : Int} (h1 : 1 ≤ w) (h2 : w ≤ l.length) :
  Ev (fun k => impl_steps.f k l w) (if Hd.it (Hd.hd l) l.length w = 0 then (Hd.depF (Hd.hd l) l.length w : Int) else -1) := by
 have := impl_steps_l0 v h8 l.length 0 w (by omega) (by omega) h1 h2
 simp only [Int.zero_add] at this
 exact this

/-! impl_TreeOk -/
theorem impl_TreeOk.j0.ev {x0 : List Int} {x14 : Bool} {r : Bool} (h : Ev (fun k => if x14 = true then (some false) else (impl_TreeOk.l0 k x0 0 x0 (x0.length : Int) 0)) r) : Ev (fun k => impl_TreeOk.j0 k x0 x14) r := Ev.step (fun _ => rfl) h
theorem impl_TreeOk.l0.ev {x0 : List Int} {x3 : Int} {x15 : List Int} {x16 : Int} {x17 : Int} {r : Bool} (h : Ev (fun k => if x17 < x16 then (if 0 ≤ x17 then (if x17 < (x15.length : Int) then (if (rd x15 x17) < 0 then (impl_TreeOk.j2 k x0 x3 (rd x15 x17) x15 x16 x17 true) else (impl_TreeOk.j2 k x0 x3 (rd x15 x17) x15 x16 x17 (decide ((rd x15 x17) > (x0.length : Int))))) else (none)) else (none)) else (impl_TreeOk.l1 k x0 x3 (x0.length : Int) 0)) r) : Ev (fun k => impl_TreeOk.l0 k x0 x3 x15 x16 x17) r := Ev.step (fun _ => rfl) h
theorem impl_TreeOk.j2.ev {x0 : List Int} {x3 : Int} {x5 : Int} {x15 : List Int} {x16 : Int} {x17 : Int} {x28 : Bool} {r : Bool} (h : Ev (fun k => if x28 = true then (some false) else (if x5 = 0 then (impl_TreeOk.l0 k x0 (wrap64 (x3 + 1)) x15 x16 (wrap64 (x17 + 1))) else (impl_TreeOk.l0 k x0 x3 x15 x16 (wrap64 (x17 + 1))))) r) : Ev (fun k => impl_TreeOk.j2 k x0 x3 x5 x15 x16 x17 x28) r := Ev.step (fun _ => rfl) h
theorem impl_TreeOk.l1.ev {x0 : List Int} {x3 : Int} {x35 : Int} {x36 : Int} {r : Bool} (h : Ev (fun k => if x36 < x35 then ((impl_steps.f k x0 (wrap64 (x36 + 1))).bind fun t103 => (if t103 < 0 then (some false) else (impl_TreeOk.l1 k x0 x3 x35 (wrap64 (x36 + 1))))) else (some (x3 == 1))) r) : Ev (fun k => impl_TreeOk.l1 k x0 x3 x35 x36) r := Ev.step (fun _ => rfl) h
theorem impl_TreeOk_l1 {l : List Int} (v : Hd.Vals l) (h8 : l.length ≤ 8) {c : Int} (hc : c = Hd.zeros l l.length) : ∀ i : Int, i ≤ l.length → 0 ≤ i → (∀ a : Int, 1 ≤ a → a ≤ i → Hd.it (Hd.hd l) l.length a = 0) →
  Ev (fun k => impl_TreeOk.l1 k l c l.length i) (Hd.treeB l) := by
 refine Hd.down ?_
 intro i hi ih h0 hb
 refine impl_TreeOk.l1.ev ?_
 by_cases hlt : i < l.length
 rotate_left
 ·refine Ev.neg hlt (Ev.ret ?_)
  have t := Hd.T_iff h8 v (fun a h1 h2 => hb a h1 (by omega))
  by_cases e : Hd.zeros l l.length = 1
  ·rw [Hd.treeB_yes (t.2 e), hc, e]; rfl
  rw [Hd.treeB_no (fun x => e (t.1 x)), hc]; simp; omega
 rw [wid (x := i + 1) (by omega) (by omega)]
 refine Ev.pos hlt (Ev.bind (impl_steps_ev v h8 (by omega) (by omega)) ?_)
 by_cases hz : Hd.it (Hd.hd l) l.length (i + 1) = 0
 rotate_left
 ·rw [if_neg hz, Hd.treeB_no (fun t => hz (t.2.back _ (by omega) (by omega)))]
  exact Ev.pos (by omega) (Ev.now _)
 rw [if_pos hz]
 refine Ev.neg (by omega) (ih hlt (by omega) fun a h1 h2 => ?_)
 by_cases e : a = i + 1
 ·rw [e]; exact hz
 exact hb a h1 (by omega)
theorem impl_TreeOk_l0 {l : List Int} (h8 : l.length ≤ 8) : ∀ i : Int, i ≤ l.length → 0 ≤ i → (∀ a : Int, 1 ≤ a → a ≤ i → 0 ≤ Hd.hd l a ∧ Hd.hd l a ≤ l.length) →
  Ev (fun k => impl_TreeOk.l0 k l (Hd.zeros l i.toNat) l l.length i) (Hd.treeB l) := by
 refine Hd.down ?_
 intro i hi ih h0 hb
 refine impl_TreeOk.l0.ev ?_
 by_cases hlt : i < l.length
 rotate_left
 ·refine Ev.neg hlt ?_
  have e : i.toNat = l.length := by omega
  rw [e]
  exact impl_TreeOk_l1 (fun a h1 h2 => hb a h1 (by omega)) h8 rfl 0 (by omega) (by omega) (fun a h1 h2 => by omega)
 have hz := Hd.cnt_le (fun a => decide (Hd.hd l a = 0)) i.toNat
 have hzz : Hd.zeros l (i + 1).toNat = Hd.zeros l i.toNat + if Hd.hd l (i + 1) = 0 then 1 else 0 := by
  rw [show (i + 1).toNat = i.toNat + 1 from by omega]
  show Hd.cnt _ (i.toNat + 1) = _
  rw [Hd.cnt, show ((i.toNat : Int) + 1) = i + 1 from by omega]
  simp [Hd.zeros]
 have hz' : Hd.zeros l i.toNat ≤ i.toNat := hz
 rw [rd_hd1 h0]
 refine Ev.pos hlt (Ev.pos h0 (Ev.pos hlt ?_))
 have no : ¬ (0 ≤ Hd.hd l (i + 1) ∧ Hd.hd l (i + 1) ≤ l.length) → Hd.treeB l = false := fun hn => Hd.treeB_no fun t => hn (t.vals _ (by omega) (by omega))
 by_cases hneg : Hd.hd l (i + 1) < 0
 ·refine Ev.pos hneg (impl_TreeOk.j2.ev (Ev.pos rfl (Ev.ret ?_)))
  rw [no (by omega)]
 refine Ev.neg hneg (impl_TreeOk.j2.ev ?_)
 by_cases hbig : Hd.hd l (i + 1) > l.length
 ·refine Ev.pos (by simpa using hbig) (Ev.ret ?_)
  rw [no (by omega)]
 refine Ev.neg (by simpa using hbig) ?_
 rw [wid (x := (Hd.zeros l i.toNat : Int) + 1) (by omega) (by omega), wid (x := i + 1) (by omega) (by omega)]
 have next := ih hlt (by omega) (fun a h1 h2 => by
  by_cases e : a = i + 1
  ·rw [e]; omega
  exact hb a h1 (by omega))
 rw [hzz] at next
 by_cases h00 : Hd.hd l (i + 1) = 0
 rotate_left
 ·rw [if_neg h00] at next
  exact Ev.neg h00 next
 rw [if_pos h00] at next
 exact Ev.pos h00 next
theorem impl_TreeOk_ev (l : List Int) : Ev (fun k => impl_TreeOk.f k l) (Hd.treeB l) := by
 unfold impl_TreeOk.f
 by_cases h1 : (l.length : Int) < 1
 ·refine Ev.pos h1 (impl_TreeOk.j0.ev (Ev.pos rfl (Ev.ret ?_)))
  exact (Hd.treeB_no fun t => by have := t.2.pos; omega).symm
 refine Ev.neg h1 (impl_TreeOk.j0.ev ?_)
 by_cases h8 : (l.length : Int) > 8
 ·refine Ev.pos (by simpa using h8) (Ev.ret ?_)
  exact (Hd.treeB_no fun t => by have := t.1; omega).symm
 refine Ev.neg (by simpa using h8) ?_
 exact impl_TreeOk_l0 (by omega) 0 (by omega) (by omega) (fun a h1 h2 => by omega)

/-! laws_alive -/

theorem alive_one : Hd.treeB [0] = true := by
 have one : ∀ a : Int, 1 ≤ a → a ≤ ([0] : List Int).length → a = 1 := fun a h1 h2 => by simp at h2; omega
 exact Hd.treeB_yes ((Hd.T_iff (l := [0]) (by decide) (fun a h1 h2 => by rw [one a h1 h2]; decide) (fun a h1 h2 => by rw [one a h1 h2]; decide)).2 (by decide))
theorem alive_two : Hd.treeB [1] = false := Hd.treeB_no fun t => by
 have := t.2.not_own (a := 1) (by simp)
 exact this (by decide)
theorem laws_alive_ev : Ev (fun k => laws_alive.f k) true := by
 unfold laws_alive.f
 refine Ev.bind (impl_TreeOk_ev [0]) (Ev.pos alive_one (Ev.bind (impl_TreeOk_ev [1]) (Ev.ret ?_)))
 rw [alive_two]; rfl

/-! laws_sameInts -/
theorem laws_sameInts.l0.ev {x0 : List Int} {x1 : List Int} {x5 : Int} {r : Bool} (h : Ev (fun k => if x5 < (x0.length : Int) then (if 0 ≤ x5 then (if x5 < (x1.length : Int) then (if (rd x0 x5) = (rd x1 x5) then (laws_sameInts.l0 k x0 x1 (wrap64 (x5 + 1))) else (some false)) else (none)) else (none)) else (some true)) r) : Ev (fun k => laws_sameInts.l0 k x0 x1 x5) r := Ev.step (fun _ => rfl) h
theorem laws_sameInts_l0 {a b : List Int} (hl : a.length ≤ 4611686018427387904) (he : a.length = b.length) : ∀ i : Int, i ≤ a.length → 0 ≤ i → a.take i.toNat = b.take i.toNat → Ev (fun k => laws_sameInts.l0 k a b i) (decide (a = b)) := by
 refine Hd.down ?_
 intro i hi ih h0 ht
 refine laws_sameInts.l0.ev ?_
 by_cases hlt : i < a.length
 rotate_left
 ·refine Ev.neg hlt (Ev.ret ?_)
  rw [show i.toNat = a.length from by omega] at ht
  rw [List.take_length, he, List.take_length] at ht
  simp [ht]
 rw [wid (x := i + 1) (by omega) (by omega)]
 refine Ev.pos hlt (Ev.pos h0 (Ev.pos (by omega) ?_))
 obtain ⟨j, rfl⟩ := Int.eq_ofNat_of_zero_le h0
 have hj : j < a.length := by omega
 have hj2 : j < b.length := by omega
 simp only [Int.toNat_natCast] at *
 have ga : rd a j = a[j] := by simp [rd, List.getD_eq_getElem?_getD, List.getElem?_eq_getElem hj]
 have gb : rd b j = b[j] := by simp [rd, List.getD_eq_getElem?_getD, List.getElem?_eq_getElem hj2]
 by_cases e : rd a j = rd b j
 rotate_left
 ·refine Ev.neg e (Ev.ret ?_)
  have : a ≠ b := fun h => e (by rw [h])
  simp [this]
 refine Ev.pos e (ih hlt (by omega) ?_)
 rw [show ((j : Int) + 1).toNat = j + 1 from by omega, List.take_succ_eq_append_getElem hj, List.take_succ_eq_append_getElem hj2, ht, ← ga, ← gb, e]
theorem laws_sameInts_ev {a b : List Int} (hl : a.length ≤ 1048576) : Ev (fun k => laws_sameInts.f k a b) (decide (a = b)) := by
 unfold laws_sameInts.f
 by_cases e : a.length = b.length
 rotate_left
 ·refine Ev.neg (by omega) (Ev.ret ?_)
  have : a ≠ b := fun h => e (by rw [h])
  simp [this]
 refine Ev.pos (by omega) ?_
 exact laws_sameInts_l0 (by omega) e 0 (by omega) (by omega) (by simp)

/-! impl_under -/
theorem impl_under.l0.ev {x0 : List Int} {x1 : Int} {x2 : Int} {r : Bool} (h : Ev (fun k => if x1 = 0 then (some (x1 == x2)) else (if x1 = x2 then (some (x1 == x2)) else (if 0 ≤ (wrap64 (x1 - 1)) then (if (wrap64 (x1 - 1)) < (x0.length : Int) then (impl_under.l0 k x0 (rd x0 (wrap64 (x1 - 1))) x2) else (none)) else (none)))) r) : Ev (fun k => impl_under.l0 k x0 x1 x2) r := Ev.step (fun _ => rfl) h
theorem impl_under_l0 {l : List Int} (t : Hd.T l) (b : Int) : ∀ (k : Nat) (a : Int), 0 ≤ a → a ≤ l.length → Hd.it (Hd.hd l) k a = 0 → Ev (fun j => impl_under.l0 j l a b) (Hd.undB l a b)
 | k, a, h1, h2, e => by
  refine impl_under.l0.ev ?_
  by_cases hz : a = 0
  ·subst hz
   refine Ev.pos rfl (Ev.ret (bool_eq ?_))
   rw [Hd.undB_true]; simp
   constructor
   ·rintro rfl; exact Hd.Und.refl _ _
   ·intro u; exact (t.2.und_zero u).symm
  refine Ev.neg hz ?_
  by_cases hab : a = b
  ·refine Ev.pos hab (Ev.ret (bool_eq ?_))
   rw [Hd.undB_true]; simp [hab]
   exact Hd.Und.refl _ _
  refine Ev.neg hab ?_
  rw [wid (x := a - 1) (by omega) (by have := t.1; omega), rd_hd (by omega)]
  refine Ev.pos (by omega) (Ev.pos (by omega) ?_)
  match k, e with
  | 0, e => exact absurd e hz
  | k + 1, e =>
   have ih := impl_under_l0 t b k (Hd.hd l a) (t.2.lo a) (t.2.hi a) e
   have : Hd.undB l a b = Hd.undB l (Hd.hd l a) b := bool_eq (by
    rw [Hd.undB_true, Hd.undB_true]
    exact ⟨fun u => u.cases.elim (fun e => absurd e hab) id, fun u => u.up⟩)
   rw [this]; exact ih
theorem impl_under_ev {l : List Int} (t : Hd.T l) {a : Int} (h1 : 1 ≤ a) (h2 : a ≤ l.length) (b : Int) : Ev (fun k => impl_under.f k l a b) (Hd.undB l a b) :=
 impl_under_l0 t b l.length a (by omega) h2 (t.2.back a h1 h2)

/-! impl_flat -/
theorem impl_flat.l0.ev {x0 : List Int} {x9 : Int} {x10 : Int} {r : Bool} (h : Ev (fun k => if x10 < x9 then (impl_flat.l1 k x0 x10 0 (x0.length : Int) (-1) x9 x10 (x0.length : Int) 0) else (some true)) r) : Ev (fun k => impl_flat.l0 k x0 x9 x10) r := Ev.step (fun _ => rfl) h
theorem impl_flat.l1.ev {x0 : List Int} {x3 : Int} {x4 : Int} {x5 : Int} {x6 : Int} {x9 : Int} {x10 : Int} {x16 : Int} {x17 : Int} {r : Bool} (h : Ev (fun k => if x17 < x16 then ((impl_under.f k x0 (wrap64 (x17 + 1)) (wrap64 (x3 + 1))).bind fun t115 => (if t115 = true then (impl_flat.l1 k x0 x3 (wrap64 (x4 + 1)) (mn x5 x17) (mx x6 x17) x9 x10 x16 (wrap64 (x17 + 1))) else (impl_flat.l1 k x0 x3 x4 x5 x6 x9 x10 x16 (wrap64 (x17 + 1))))) else (if (wrap64 ((wrap64 (x6 - x5)) + 1)) = x4 then (impl_flat.l0 k x0 x9 (wrap64 (x10 + 1))) else (some false))) r) : Ev (fun k => impl_flat.l1 k x0 x3 x4 x5 x6 x9 x10 x16 x17) r := Ev.step (fun _ => rfl) h
theorem impl_flat_l1 {l : List Int} (t : Hd.T l) {w : Int} (h1 : 1 ≤ w) (h2 : w ≤ l.length)
  (next : Hd.rowM (Hd.ybits l w) = true → Ev (fun k => impl_flat.l0 k l l.length w) (Hd.flatB l)) : ∀ i : Int, i ≤ l.length → 0 ≤ i →
  Ev (fun k => impl_flat.l1 k l (w - 1) (Hd.mmN (Hd.ybits l w).testBit l.length i.toNat).1 (Hd.mmN (Hd.ybits l w).testBit l.length i.toNat).2.1 (Hd.mmN (Hd.ybits l w).testBit l.length i.toNat).2.2 l.length (w - 1) l.length i) (Hd.flatB l) := by
 have h8 := t.1
 refine Hd.down ?_
 intro i hi ih h0
 refine impl_flat.l1.ev ?_
 have bd := Hd.mmN_bd (Hd.ybits l w).testBit l.length i.toNat
 by_cases hlt : i < l.length
 ·have nx := ih hlt (by omega)
  rw [show (i + 1).toNat = i.toNat + 1 from by omega] at nx
  rw [wid (x := i + 1) (by omega) (by omega), wid (x := w - 1 + 1) (by omega) (by omega), show w - 1 + 1 = w from by omega]
  refine Ev.pos hlt (Ev.bind (impl_under_ev t (by omega) (by omega) w) ?_)
  have bit : (Hd.ybits l w).testBit i.toNat = Hd.undB l (i + 1) w := by
   unfold Hd.ybits
   rw [Hd.ysum_bit, decide_eq_true (show i.toNat < l.length by omega), Bool.true_and]
   congr 1; omega
  rw [Hd.mmN, bit, show ((i.toNat : Nat) : Int) = i from by omega] at nx
  rw [wid (x := (Hd.mmN (Hd.ybits l w).testBit l.length i.toNat).1 + 1) (by omega) (by omega)]
  by_cases hu : Hd.undB l (i + 1) w = true
  rotate_left
  ·rw [if_neg hu] at nx
   exact Ev.neg hu nx
  rw [if_pos hu] at nx
  exact Ev.pos hu nx
 have e : i.toNat = l.length := by omega
 rw [e] at bd ⊢
 have hp := t.2.pos
 have row := Hd.mmN_row l.length (by omega) (Hd.ybits l w) (Hd.ysum_lt _ _) (Hd.ybits_pos h1 h2)
 generalize Hd.mmN (Hd.ybits l w).testBit l.length l.length = mm at *
 rw [wid (x := mm.2.2 - mm.2.1) (by omega) (by omega), wid (x := mm.2.2 - mm.2.1 + 1) (by omega) (by omega), wid (x := w - 1 + 1) (by omega) (by omega), show w - 1 + 1 = w from by omega]
 refine Ev.neg hlt ?_
 by_cases hr : Hd.rowM (Hd.ybits l w) = true
 ·rw [hr] at row
  exact Ev.pos (by simpa using row) (next hr)
 rw [Bool.not_eq_true] at hr
 rw [hr] at row
 refine Ev.neg (by simpa using row) (Ev.ret ?_)
 cases hc : Hd.flatB l with
 | false => rfl
 | true =>
  have := (Hd.row_masks t).1 (Hd.flatB_true.1 hc).2 w h1 h2
  rw [hr] at this; cases this
theorem impl_flat_l0 {l : List Int} (t : Hd.T l) : ∀ i : Int, i ≤ l.length → 0 ≤ i → (∀ w : Int, 1 ≤ w → w ≤ i → Hd.rowM (Hd.ybits l w) = true) → Ev (fun k => impl_flat.l0 k l l.length i) (Hd.flatB l) := by
 have h8 := t.1
 refine Hd.down ?_
 intro i hi ih h0 hall
 refine impl_flat.l0.ev ?_
 by_cases hlt : i < l.length
 rotate_left
 ·refine Ev.neg hlt (Ev.ret ?_)
  exact (Hd.flatB_true.2 ⟨t, (Hd.row_masks t).2 fun w k1 k2 => hall w k1 (by omega)⟩).symm
 refine Ev.pos hlt ?_
 have := impl_flat_l1 t (w := i + 1) (by omega) (by omega) (fun hr => ih hlt (by omega) (fun w k1 k2 => by
  by_cases e : w = i + 1
  ·rw [e]; exact hr
  exact hall w k1 (by omega))) 0 (by omega) (by omega)
 rw [show i + 1 - 1 = i from by omega] at this
 exact this
theorem impl_flat_ev {l : List Int} (t : Hd.T l) : Ev (fun k => impl_flat.f k l) (Hd.flatB l) := impl_flat_l0 t 0 (by omega) (by omega) (fun w k1 k2 => by omega)

/-! impl_FlatOk -/

theorem impl_FlatOk_ev (l : List Int) : Ev (fun k => impl_FlatOk.f k l) (Hd.flatB l) := by
 unfold impl_FlatOk.f
 refine Ev.bind (impl_TreeOk_ev l) ?_
 by_cases t : Hd.T l
 ·exact Ev.pos (Hd.treeB_yes t) (Ev.bind (impl_flat_ev t) (Ev.now _))
 refine Ev.neg (by rw [Hd.treeB_no t]; simp) (Ev.ret ?_)
 cases hc : Hd.flatB l with
 | false => rfl
 | true => exact absurd (Hd.flatB_true.1 hc).1 t

/-! impl_RunEager -/

theorem runEF_len (a0 : Int) (a1 : ByteArray) : (Mach.runEF a0 a1).1.length ≤ 8 := by
 unfold Mach.runEF Hd.ranE
 by_cases h : a0 < 1 ∨ 8 < a0
 ·rw [if_pos h]; simp
 rw [if_neg h]
 cases e : Hd.runE (bytesOf a1) (Hd.St.start a0.toNat) with
 | none => simp
 | some s =>
  have o := (Hd.St.OK.start (n := a0.toNat) (by omega)).runE e
  have := o.len; have := o.n8
  simp only [Option.bind_some]
  by_cases c : s.nx < a0 ∨ Hd.zerosC s.hs s.hs.length ≠ 1
  ·rw [if_pos c]; simp
  rw [if_neg c]; simp only; omega
theorem impl_RunEager_eq (a0 : Int) {a1 : ByteArray} (hs : a1.size ≤ 140737488351232) : impl_RunEager.f a0 a1 = some (Mach.runEF a0 a1) := if_pos hs

/-! spec_l1In -/

theorem spec_l1In_eq (a b c : Int) : spec_l1In.f a b c = some (decide (b ≤ a ∧ a ≤ c)) := by
 unfold spec_l1In.f
 by_cases h : a ≥ b
 ·rw [if_pos h]; simp [h]
 rw [if_neg h]; simp; intro; omega

/-! spec_TreeOk -/
theorem spec_TreeOk.l0.ev {x0 : List Int} {x3 : Int} {x4 : Int} {x5 : Int} {r : Bool} (h : Ev (fun k => if x5 < x3 then (if 0 ≤ x5 then (if x5 < (x0.length : Int) then ((spec_l1In.f (rd x0 x5) 0 x3).bind fun t123 => (if t123 = true then (spec_TreeOk.j1 k x0 x3 x4 x5 ((rd x0 x5) == (wrap64 (x5 + 1)))) else (spec_TreeOk.j1 k x0 x3 x4 x5 true))) else (none)) else (none)) else (some (x4 == 1))) r) : Ev (fun k => spec_TreeOk.l0 k x0 x3 x4 x5) r := Ev.step (fun _ => rfl) h
theorem spec_TreeOk.j1.ev {x0 : List Int} {x3 : Int} {x4 : Int} {x5 : Int} {x33 : Bool} {r : Bool} (h : Ev (fun k => if x33 = true then (some false) else (if 0 ≤ x5 then (if x5 < (x0.length : Int) then (if (rd x0 x5) = 0 then (spec_TreeOk.j2 k x0 x3 (wrap64 (x4 + 1)) x5) else (spec_TreeOk.j2 k x0 x3 x4 x5)) else (none)) else (none))) r) : Ev (fun k => spec_TreeOk.j1 k x0 x3 x4 x5 x33) r := Ev.step (fun _ => rfl) h
theorem spec_TreeOk.j2.ev {x0 : List Int} {x3 : Int} {x4 : Int} {x5 : Int} {r : Bool} (h : Ev (fun k => spec_TreeOk.l1 k x0 x3 x4 x5 (wrap64 (x5 + 1)) 0) r) : Ev (fun k => spec_TreeOk.j2 k x0 x3 x4 x5) r := Ev.step (fun _ => rfl) h
theorem spec_TreeOk.l1.ev {x0 : List Int} {x3 : Int} {x4 : Int} {x5 : Int} {x6 : Int} {x7 : Int} {r : Bool} (h : Ev (fun k => if x6 > 0 then (spec_TreeOk.j4 k x0 x3 x4 x5 x6 x7 (decide (x7 < x3))) else (spec_TreeOk.j4 k x0 x3 x4 x5 x6 x7 false)) r) : Ev (fun k => spec_TreeOk.l1 k x0 x3 x4 x5 x6 x7) r := Ev.step (fun _ => rfl) h
theorem spec_TreeOk.j4.ev {x0 : List Int} {x3 : Int} {x4 : Int} {x5 : Int} {x6 : Int} {x7 : Int} {x49 : Bool} {r : Bool} (h : Ev (fun k => if x49 = true then (if 0 ≤ (wrap64 (x6 - 1)) then (if (wrap64 (x6 - 1)) < (x0.length : Int) then ((spec_l1In.f (rd x0 (wrap64 (x6 - 1))) 0 x3).bind fun t127 => (if t127 = true then (spec_TreeOk.l1 k x0 x3 x4 x5 (rd x0 (wrap64 (x6 - 1))) (wrap64 (x7 + 1))) else (some false))) else (none)) else (none)) else (if x6 > 0 then (some false) else (spec_TreeOk.l0 k x0 x3 x4 (wrap64 (x5 + 1))))) r) : Ev (fun k => spec_TreeOk.j4 k x0 x3 x4 x5 x6 x7 x49) r := Ev.step (fun _ => rfl) h
theorem spec_TreeOk_l1 {l : List Int} (h8 : l.length ≤ 8) {c i : Int} (h0 : 0 ≤ i) (hlt : i < l.length)
  (next : Hd.it (Hd.hd l) l.length (i + 1) = 0 → Ev (fun k => spec_TreeOk.l0 k l l.length c (i + 1)) (Hd.treeB l)) :
  ∀ s : Int, s ≤ l.length → 0 ≤ s → ∀ a : Int, 0 ≤ a → a ≤ l.length → a = Hd.it (Hd.hd l) s.toNat (i + 1) → Ev (fun k => spec_TreeOk.l1 k l l.length c i a s) (Hd.treeB l) := by
 refine Hd.down ?_
 intro s hs ih h1 a ha1 ha2 ea
 refine spec_TreeOk.l1.ev ?_
 by_cases hz : a > 0
 rotate_left
 ·refine Ev.neg hz (spec_TreeOk.j4.ev (Ev.neg (by simp) (Ev.neg hz ?_)))
  rw [wid (x := i + 1) (by omega) (by omega)]
  exact next (Hd.it_more (Hd.hd_zero l) (j := s.toNat) (by omega) (by omega))
 refine Ev.pos hz (spec_TreeOk.j4.ev ?_)
 by_cases hsn : s < l.length
 rotate_left
 ·refine Ev.neg (by simpa using hsn) (Ev.pos hz (Ev.ret ?_))
  refine (Hd.treeB_no fun t => ?_).symm
  have := t.2.back (i + 1) (by omega) (by omega)
  rw [show s.toNat = l.length from by omega, this] at ea
  omega
 rw [wid (x := a - 1) (by omega) (by omega), rd_hd (by omega), wid (x := s + 1) (by omega) (by omega)]
 refine Ev.pos (by simpa using hsn) (Ev.pos (by omega) (Ev.pos (by omega) (Ev.bindv (spec_l1In_eq _ _ _) ?_)))
 by_cases hin : 0 ≤ Hd.hd l a ∧ Hd.hd l a ≤ l.length
 rotate_left
 ·refine Ev.neg (by simpa using hin) (Ev.ret ?_)
  exact (Hd.treeB_no fun t => hin (t.vals _ (by omega) (by omega))).symm
 refine Ev.pos (by simpa using hin) (ih hsn (by omega) _ hin.1 hin.2 ?_)
 rw [show (s + 1).toNat = s.toNat + 1 from by omega, Hd.it_succ, ← ea]
theorem spec_TreeOk_l0 {l : List Int} (h8 : l.length ≤ 8) : ∀ i : Int, i ≤ l.length → 0 ≤ i → (∀ a : Int, 1 ≤ a → a ≤ i → (0 ≤ Hd.hd l a ∧ Hd.hd l a ≤ l.length) ∧ Hd.it (Hd.hd l) l.length a = 0) →
  Ev (fun k => spec_TreeOk.l0 k l l.length (Hd.zeros l i.toNat) i) (Hd.treeB l) := by
 refine Hd.down ?_
 intro i hi ih h0 hb
 refine spec_TreeOk.l0.ev ?_
 by_cases hlt : i < l.length
 rotate_left
 ·refine Ev.neg hlt (Ev.ret ?_)
  have e : i.toNat = l.length := by omega
  rw [e]
  have t := Hd.T_iff h8 (fun a h1 h2 => (hb a h1 (by omega)).1) (fun a h1 h2 => (hb a h1 (by omega)).2)
  by_cases e : Hd.zeros l l.length = 1
  ·rw [Hd.treeB_yes (t.2 e), e]; rfl
  rw [Hd.treeB_no (fun x => e (t.1 x))]; simp; omega
 have hz := Hd.cnt_le (fun a => decide (Hd.hd l a = 0)) i.toNat
 have hzz : Hd.zeros l (i + 1).toNat = Hd.zeros l i.toNat + if Hd.hd l (i + 1) = 0 then 1 else 0 := by
  rw [show (i + 1).toNat = i.toNat + 1 from by omega]
  show Hd.cnt _ (i.toNat + 1) = _
  rw [Hd.cnt, show ((i.toNat : Int) + 1) = i + 1 from by omega]
  simp [Hd.zeros]
 have hz' : Hd.zeros l i.toNat ≤ i.toNat := hz
 rw [rd_hd1 h0, wid (x := i + 1) (by omega) (by omega)]
 refine Ev.pos hlt (Ev.pos h0 (Ev.pos hlt (Ev.bindv (spec_l1In_eq _ _ _) ?_)))
 by_cases hin : 0 ≤ Hd.hd l (i + 1) ∧ Hd.hd l (i + 1) ≤ l.length
 rotate_left
 ·refine Ev.neg (by simpa using hin) (spec_TreeOk.j1.ev (Ev.pos rfl (Ev.ret ?_)))
  exact (Hd.treeB_no fun t => hin (t.vals _ (by omega) (by omega))).symm
 refine Ev.pos (by simpa using hin) (spec_TreeOk.j1.ev ?_)
 by_cases hown : Hd.hd l (i + 1) = i + 1
 ·refine Ev.pos (by simpa using hown) (Ev.ret ?_)
  exact (Hd.treeB_no fun t => t.2.not_own (a := i + 1) (by omega) hown).symm
 refine Ev.neg (by simpa using hown) (Ev.pos h0 (Ev.pos hlt ?_))
 rw [rd_hd1 h0, wid (x := (Hd.zeros l i.toNat : Int) + 1) (by omega) (by omega)]
 have next : Hd.it (Hd.hd l) l.length (i + 1) = 0 → Ev (fun k => spec_TreeOk.l0 k l l.length (Hd.zeros l (i + 1).toNat) (i + 1)) (Hd.treeB l) := fun hit =>
  ih hlt (by omega) (fun a h1 h2 => by
   by_cases e : a = i + 1
   ·rw [e]; exact ⟨hin, hit⟩
   exact hb a h1 (by omega))
 rw [hzz] at next
 by_cases h00 : Hd.hd l (i + 1) = 0
 rotate_left
 ·rw [if_neg h00] at next
  refine Ev.neg h00 (spec_TreeOk.j2.ev ?_)
  rw [wid (x := i + 1) (by omega) (by omega)]
  exact spec_TreeOk_l1 h8 h0 hlt next 0 (by omega) (by omega) (i + 1) (by omega) (by omega) rfl
 rw [if_pos h00] at next
 refine Ev.pos h00 (spec_TreeOk.j2.ev ?_)
 rw [wid (x := i + 1) (by omega) (by omega)]
 exact spec_TreeOk_l1 h8 h0 hlt next 0 (by omega) (by omega) (i + 1) (by omega) (by omega) rfl
theorem spec_TreeOk_ev (l : List Int) : Ev (fun k => spec_TreeOk.f k l) (Hd.treeB l) := by
 unfold spec_TreeOk.f
 refine Ev.bindv (spec_l1In_eq _ _ _) ?_
 by_cases h : 1 ≤ (l.length : Int) ∧ (l.length : Int) ≤ 8
 rotate_left
 ·refine Ev.neg (by simpa using h) (Ev.ret ?_)
  exact (Hd.treeB_no fun t => by have := t.1; have := t.2.pos; omega).symm
 refine Ev.pos (by simpa using h) ?_
 exact spec_TreeOk_l0 (by omega) 0 (by omega) (by omega) (fun a h1 h2 => by omega)

/-! spec_l3Row -/
theorem spec_l3Row.l0.ev {x0 : Int} {r : Bool} (h : Ev (fun k => if (Int.tmod x0 2) = 0 then (spec_l3Row.l0 k (wrap64 (Int.tdiv x0 2))) else (some ((Go.bits .and .i64 x0 (wrap64 (x0 + 1))) == 0))) r) : Ev (fun k => spec_l3Row.l0 k x0) r := Ev.step (fun _ => rfl) h
theorem spec_l3Row_all : ∀ (d s : Nat), s < 256 → s ≠ 0 → s ≤ d → Ev (fun k => spec_l3Row.l0 k (s : Int)) (Hd.rowM s)
 | 0, s, _, h0, h => by omega
 | d + 1, s, hs, h0, h => by
  refine spec_l3Row.l0.ev ?_
  have e1 : Int.tmod (s : Int) 2 = ((s % 2 : Nat) : Int) := by rw [Int.tmod_eq_emod_of_nonneg (by omega)]; simp
  have e2 : Int.tdiv (s : Int) 2 = ((s / 2 : Nat) : Int) := by rw [Int.tdiv_eq_ediv_of_nonneg (by omega)]; simp
  rw [e1, e2, wid (x := ((s / 2 : Nat) : Int)) (by omega) (by omega), wid (x := (s : Int) + 1) (by omega) (by omega)]
  by_cases h2 : s % 2 = 0
  ·rw [← Hd.rowM_even s hs h2]
   exact Ev.pos (by omega) (spec_l3Row_all d (s / 2) (by omega) (by omega) (by omega))
  refine Ev.neg (by omega) (Ev.ret ?_)
  rw [← Hd.rowM_odd s hs (by omega), show ((s : Int) + 1) = ((s + 1 : Nat) : Int) from by omega, h_and_i64 (by omega) (by omega)]
  exact bool_eq (by simp only [beq_iff_eq]; omega)
theorem spec_l3Row_ev {s : Nat} (hs : s < 256) (h0 : s ≠ 0) : Ev (fun k => spec_l3Row.f k (s : Int)) (Hd.rowM s) := spec_l3Row_all s s hs h0 (by omega)

/-! spec_l2Yield -/
theorem spec_l2Yield.l0.ev {x0 : List Int} {x1 : Int} {x5 : Int} {x6 : Int} {r : Int} (h : Ev (fun k => if x6 < (x0.length : Int) then (if 0 ≤ x6 then (if (rd x0 x6) = x1 then ((spec_l2Yield.f k x0 (wrap64 (x6 + 1))).bind fun t129 => (spec_l2Yield.l0 k x0 x1 (Go.bits .or .i64 x5 t129) (wrap64 (x6 + 1)))) else (spec_l2Yield.l0 k x0 x1 x5 (wrap64 (x6 + 1)))) else (none)) else (some x5)) r) : Ev (fun k => spec_l2Yield.l0 k x0 x1 x5 x6) r := Ev.step (fun _ => rfl) h
theorem spec_l2Yield.f.ev {l0 : List Int} {a1 : Int} {r : Int} (h : Ev (fun k => if 0 ≤ (wrap64 (a1 - 1)) then (spec_l2Yield.l0 k l0 a1 (shl .i64 1 (wrap64 (a1 - 1))) 0) else (none)) r) : Ev (fun k => spec_l2Yield.f k l0 a1) r := Ev.step (fun _ => rfl) h
theorem spec_l2Yield_l0 {l : List Int} (t : Hd.T l) {w : Int} (hw : 1 ≤ w ∧ w ≤ l.length)
  (rec : ∀ c : Int, 1 ≤ c → c ≤ l.length → Hd.hd l c = w → Ev (fun k => spec_l2Yield.f k l c) (Hd.ybits l c : Int)) :
  ∀ i : Int, i ≤ l.length → 0 ≤ i → ∀ q : Int → Bool, (∀ x, q x = true ↔ x = w ∨ ∃ c, (1 ≤ c ∧ c ≤ i) ∧ Hd.hd l c = w ∧ Hd.Und (Hd.hd l) x c) →
  Ev (fun k => spec_l2Yield.l0 k l w (Hd.ysum q l.length : Int) i) (Hd.ybits l w : Int) := by
 refine Hd.down ?_
 intro i hi ih h0 q hq
 have h8 := t.1
 refine spec_l2Yield.l0.ev ?_
 by_cases hlt : i < l.length
 rotate_left
 ·refine Ev.neg hlt (Ev.ret ?_)
  unfold Hd.ybits
  congr 1
  refine Hd.ysum_congr fun a h1 h2 => bool_eq ?_
  rw [hq, Hd.undB_true, Hd.und_child t.2 hw]
  constructor
  ·rintro (e | ⟨c, h1, h2, h3⟩)
   ·exact .inl e
   ·exact .inr ⟨c, ⟨h1.1, by omega⟩, h2, h3⟩
  ·rintro (e | ⟨c, h1, h2, h3⟩)
   ·exact .inl e
   ·exact .inr ⟨c, ⟨h1.1, by omega⟩, h2, h3⟩
 rw [wid (x := i + 1) (by omega) (by omega), rd_hd1 h0]
 refine Ev.pos hlt (Ev.pos h0 ?_)
 by_cases hc : Hd.hd l (i + 1) = w
 rotate_left
 ·refine Ev.neg hc (ih hlt (by omega) q fun x => ?_)
  rw [hq]
  constructor
  ·rintro (e | ⟨c, h1, h2, h3⟩)
   ·exact .inl e
   ·exact .inr ⟨c, ⟨h1.1, by omega⟩, h2, h3⟩
  ·rintro (e | ⟨c, h1, h2, h3⟩)
   ·exact .inl e
   ·by_cases e : c = i + 1
    ·subst e; exact absurd h2 hc
    ·exact .inr ⟨c, ⟨h1.1, by omega⟩, h2, h3⟩
 refine Ev.pos hc (Ev.bind (rec (i + 1) (by omega) (by omega) hc) ?_)
 unfold Hd.ybits at *
 rw [h_or_i64 (Hd.ysum_le h8) (Hd.ysum_le h8), Hd.ysum_or]
 refine ih hlt (by omega) _ fun x => ?_
 rw [Bool.or_eq_true, hq, Hd.undB_true]
 constructor
 ·rintro ((e | ⟨c, h1, h2, h3⟩) | u)
  ·exact .inl e
  ·exact .inr ⟨c, ⟨h1.1, by omega⟩, h2, h3⟩
  ·exact .inr ⟨i + 1, ⟨by omega, by omega⟩, hc, u⟩
 ·rintro (e | ⟨c, h1, h2, h3⟩)
  ·exact .inl (.inl e)
  ·by_cases e : c = i + 1
   ·subst e; exact .inr h3
   ·exact .inl (.inr ⟨c, ⟨h1.1, by omega⟩, h2, h3⟩)
theorem spec_l2Yield_all {l : List Int} (t : Hd.T l) : ∀ (d : Nat) (w : Int), 1 ≤ w → w ≤ l.length → l.length ≤ d + Hd.dep l.length (Hd.hd l) w → Ev (fun k => spec_l2Yield.f k l w) (Hd.ybits l w : Int)
 | 0, w, h1, h2, h3 => by have := t.2.dep_lt ⟨h1, h2⟩; omega
 | d + 1, w, h1, h2, h3 => by
  have h8 := t.1
  refine spec_l2Yield.f.ev ?_
  rw [wid (x := w - 1) (by omega) (by omega)]
  refine Ev.pos (by omega) ?_
  obtain ⟨v, rfl⟩ : ∃ v : Nat, w = (v : Int) + 1 := ⟨(w - 1).toNat, by omega⟩
  rw [show ((v : Int) + 1 - 1) = (v : Int) from by omega, h_shl_one (by omega), Hd.ysum_one (m := l.length) (by omega)]
  refine spec_l2Yield_l0 t ⟨h1, h2⟩ (fun c k1 k2 e => spec_l2Yield_all t d c k1 k2 ?_) 0 (by omega) (by omega) _ fun x => ?_
  ·have := t.2.dep_head (a := c) (by omega)
   rw [e] at this
   omega
  ·simp; intro c _ _; omega
theorem spec_l2Yield_ev {l : List Int} (t : Hd.T l) {w : Int} (h1 : 1 ≤ w) (h2 : w ≤ l.length) : Ev (fun k => spec_l2Yield.f k l w) (Hd.ybits l w : Int) :=
 spec_l2Yield_all t l.length w h1 h2 (by omega)
theorem ybits_at {l : List Int} (t : Hd.T l) {a w : Int} (h1 : 1 ≤ a) (h2 : a ≤ l.length) : (Int.tmod (shr .i64 (Hd.ybits l w : Int) (a - 1)) 2 = 1) ↔ Hd.undB l a w = true := by
 have h8 := t.1
 obtain ⟨v, rfl⟩ : ∃ v : Nat, a = (v : Int) + 1 := ⟨(a - 1).toNat, by omega⟩
 rw [show ((v : Int) + 1 - 1) = (v : Int) from by omega, h_shr_bit (by omega)]
 unfold Hd.ybits
 rw [Hd.ysum_bit, show decide (v < l.length) = true from by simp; omega, Bool.true_and]

/-! spec_FlatOk -/
theorem spec_FlatOk.l0.ev {x0 : List Int} {x3 : Int} {r : Bool} (h : Ev (fun k => if x3 ≤ (x0.length : Int) then ((spec_TreeOk.f k x0).bind fun t130 => (spec_FlatOk.j1 k x0 x3 t130)) else (spec_FlatOk.j1 k x0 x3 false)) r) : Ev (fun k => spec_FlatOk.l0 k x0 x3) r := Ev.step (fun _ => rfl) h
theorem spec_FlatOk.j1.ev {x0 : List Int} {x3 : Int} {x11 : Bool} {r : Bool} (h : Ev (fun k => if x11 = true then ((spec_l2Yield.f k x0 x3).bind fun t132 => ((spec_l3Row.f k t132).bind fun t133 => (if t133 = true then (spec_FlatOk.l0 k x0 (wrap64 (x3 + 1))) else (some false)))) else ((spec_TreeOk.f k x0).bind fun t131 => (some t131))) r) : Ev (fun k => spec_FlatOk.j1 k x0 x3 x11) r := Ev.step (fun _ => rfl) h
theorem spec_FlatOk_l0 {l : List Int} (t : Hd.T l) : ∀ i : Int, i ≤ (l.length : Int) + 1 → 1 ≤ i → (∀ w : Int, 1 ≤ w → w < i → Hd.rowM (Hd.ybits l w) = true) → Ev (fun k => spec_FlatOk.l0 k l i) (Hd.flatB l) := by
 have h8 := t.1
 refine Hd.down ?_
 intro i hi ih h1 hall
 refine spec_FlatOk.l0.ev ?_
 by_cases hle : i ≤ (l.length : Int)
 rotate_left
 ·refine Ev.neg hle (spec_FlatOk.j1.ev (Ev.neg (by simp) (Ev.bind (spec_TreeOk_ev l) (Ev.ret ?_))))
  rw [Hd.treeB_yes t]
  exact (Hd.flatB_true.2 ⟨t, (Hd.row_masks t).2 fun w k1 k2 => hall w k1 (by omega)⟩).symm
 refine Ev.pos hle (Ev.bind (spec_TreeOk_ev l) (spec_FlatOk.j1.ev (Ev.pos (Hd.treeB_yes t) (Ev.bind (spec_l2Yield_ev t h1 hle) (Ev.bind (spec_l3Row_ev (Hd.ysum_le h8) (Hd.ybits_pos h1 hle)) ?_)))))
 rw [wid (x := i + 1) (by omega) (by omega)]
 by_cases hr : Hd.rowM (Hd.ybits l i) = true
 ·refine Ev.pos hr (ih (by omega) (by omega) fun w k1 k2 => ?_)
  by_cases e : w = i
  ·rw [e]; exact hr
  exact hall w k1 (by omega)
 refine Ev.neg hr (Ev.ret ?_)
 cases hc : Hd.flatB l with
 | false => rfl
 | true => exact absurd ((Hd.row_masks t).1 (Hd.flatB_true.1 hc).2 i h1 hle) hr
theorem spec_FlatOk_ev (l : List Int) : Ev (fun k => spec_FlatOk.f k l) (Hd.flatB l) := by
 unfold spec_FlatOk.f
 by_cases t : Hd.T l
 ·exact spec_FlatOk_l0 t 1 (by omega) (by omega) (fun w k1 k2 => by omega)
 have hf : Hd.flatB l = Hd.treeB l := by
  rw [Hd.treeB_no t]
  cases hc : Hd.flatB l with
  | false => rfl
  | true => exact absurd (Hd.flatB_true.1 hc).1 t
 rw [hf]
 have hn : ¬ Hd.treeB l = true := by rw [Hd.treeB_no t]; simp
 refine spec_FlatOk.l0.ev ?_
 by_cases hl : (1 : Int) ≤ l.length
 rotate_left
 ·exact Ev.neg hl (spec_FlatOk.j1.ev (Ev.neg (by simp) (Ev.bind (spec_TreeOk_ev l) (Ev.now _))))
 exact Ev.pos hl (Ev.bind (spec_TreeOk_ev l) (spec_FlatOk.j1.ev (Ev.neg hn (Ev.bind (spec_TreeOk_ev l) (Ev.now _)))))

/-! spec_l7Step -/
theorem spec_l7Step.j0.ev {x0 : List Int} {x1 : List Int} {x2 : Int} {x3 : Int} {x11 : Int} {x15 : Bool} {r : List Int × Int × Bool × List Int} (h : Ev (fun k => if x15 = true then ((some (([] : List Int) : List Int)).bind fun y134 => (if y134.length + x1.length < 17592186044416 then ((some (y134 ++ x1 : List Int)).bind fun y137 => (if y137.length < 17592186044416 then (some ((y137 ++ [x2]), wrap64 (x2 + 1), true, x0)) else (none))) else (none))) else (if x3 = 76 then (if x2 ≤ (x0.length : Int) then (if x11 ≥ 0 then (if 0 ≤ x11 then (if x11 < (x1.length : Int) then (if 0 ≤ (wrap64 ((rd x1 x11) - 1)) then (if (wrap64 ((rd x1 x11) - 1)) < (x0.length : Int) then (spec_l7Step.j1 k x0 x1 x2 x3 x11 (decide ((rd x0 (wrap64 ((rd x1 x11) - 1))) < 0))) else (none)) else (none)) else (none)) else (none)) else (spec_l7Step.j1 k x0 x1 x2 x3 x11 false)) else (spec_l7Step.j1 k x0 x1 x2 x3 x11 false)) else (spec_l7Step.j1 k x0 x1 x2 x3 x11 false))) r) : Ev (fun k => spec_l7Step.j0 k x0 x1 x2 x3 x11 x15) r := Ev.step (fun _ => rfl) h
theorem spec_l7Step.j1.ev {x0 : List Int} {x1 : List Int} {x2 : Int} {x3 : Int} {x11 : Int} {x32 : Bool} {r : List Int × Int × Bool × List Int} (h : Ev (fun k => if x32 = true then (if 0 ≤ x11 then (if x11 < (x1.length : Int) then (if 0 ≤ (wrap64 ((rd x1 x11) - 1)) then (if (wrap64 ((rd x1 x11) - 1)) < (x0.length : Int) then ((some (([] : List Int) : List Int)).bind fun y147 => (if x11 ≤ (x1.length : Int) then ((some (x1.take (x11 : Int).toNat : List Int)).bind fun y150 => (if y147.length + y150.length < 17592186044416 then (some ((y147 ++ y150), x2, true, (x0.set ((wrap64 ((rd x1 x11) - 1)) : Int).toNat x2))) else (none))) else (none))) else (none)) else (none)) else (none)) else (none)) else (if x3 = 82 then (if x2 ≤ (x0.length : Int) then (spec_l7Step.j2 k x0 x1 x2 x3 x11 (decide (x11 ≥ 0))) else (spec_l7Step.j2 k x0 x1 x2 x3 x11 false)) else (spec_l7Step.j2 k x0 x1 x2 x3 x11 false))) r) : Ev (fun k => spec_l7Step.j1 k x0 x1 x2 x3 x11 x32) r := Ev.step (fun _ => rfl) h
theorem spec_l7Step.j2.ev {x0 : List Int} {x1 : List Int} {x2 : Int} {x3 : Int} {x11 : Int} {x70 : Bool} {r : List Int × Int × Bool × List Int} (h : Ev (fun k => if x70 = true then (if 0 ≤ x11 then (if x11 < (x1.length : Int) then (if 0 ≤ (wrap64 (x2 - 1)) then (if (wrap64 (x2 - 1)) < (x0.length : Int) then ((some (([] : List Int) : List Int)).bind fun y159 => (if y159.length + x1.length < 17592186044416 then ((some (y159 ++ x1 : List Int)).bind fun y162 => (if y162.length < 17592186044416 then (some ((y162 ++ [x2]), wrap64 (x2 + 1), true, (x0.set ((wrap64 (x2 - 1)) : Int).toNat (rd x1 x11)))) else (none))) else (none))) else (none)) else (none)) else (none)) else (none)) else (if x3 = 68 then (if x11 ≥ 0 then (if 0 ≤ x11 then (if x11 < (x1.length : Int) then (if 0 ≤ (wrap64 ((rd x1 x11) - 1)) then (if (wrap64 ((rd x1 x11) - 1)) < (x0.length : Int) then (if (rd x0 (wrap64 ((rd x1 x11) - 1))) > 0 then ((some (([] : List Int) : List Int)).bind fun y170 => (if x11 ≤ (x1.length : Int) then ((some (x1.take (x11 : Int).toNat : List Int)).bind fun y173 => (if y170.length + y173.length < 17592186044416 then (some ((y170 ++ y173), x2, true, x0)) else (none))) else (none))) else (some (x1, x2, false, x0))) else (none)) else (none)) else (none)) else (none)) else (some (x1, x2, false, x0))) else (some (x1, x2, false, x0)))) r) : Ev (fun k => spec_l7Step.j2 k x0 x1 x2 x3 x11 x70) r := Ev.step (fun _ => rfl) h
/-- The heads as the reference tells them: -1 for none. -/
def told7 (hs : List Int) : List Int := hs.map fun x => if x = 0 then -1 else x
theorem told7_len (hs : List Int) : (told7 hs).length = hs.length := List.length_map _
theorem told7_rd {hs : List Int} {i : Int} (h0 : 0 ≤ i) (h : i < hs.length) : rd (told7 hs) i = if hs.getD i.toNat 0 = 0 then -1 else hs.getD i.toNat 0 := by
 have e : i.toNat < hs.length := by omega
 simp [rd, told7, List.getD_eq_getElem?_getD, List.getElem?_map, List.getElem?_eq_getElem e]
theorem told7_set {hs : List Int} {j : Nat} {v : Int} (hv : v ≠ 0) : (told7 hs).set j v = told7 (hs.set j v) := by
 rw [told7, told7, List.map_set, if_neg hv]
def l7end (s : Hd.St) : Option Hd.St → List Int × Int × Bool × List Int
 | some t => (t.ws, t.nx + 1, true, told7 t.hs)
 | none => (s.ws, s.nx + 1, false, told7 s.hs)
theorem top_rd7 {s : Hd.St} : rd s.ws ((s.ws.length : Int) - 1) = Hd.topW s := by rw [rd, Hd.topW, show ((s.ws.length : Int) - 1).toNat = s.ws.length - 1 by omega]
def Pos7 (s : Hd.St) : Prop := ∀ x, x ∈ s.hs → 0 ≤ x
theorem pos7_set {hs : List Int} {j : Nat} {v : Int} (h : ∀ x, x ∈ hs → 0 ≤ x) (hv : 0 ≤ v) : ∀ x, x ∈ hs.set j v → 0 ≤ x := fun x hx => by
 rcases List.mem_or_eq_of_mem_set hx with hx | rfl
 ·exact h x hx
 ·exact hv
theorem Pos7.eag {n : Nat} {s s' : Hd.St} {m : Int} (o : s.OK n) (p : Pos7 s) (h : Hd.eagS m s = some s') : Pos7 s' := by
 rcases Hd.eagS_cases o h with ⟨_, e⟩ | ⟨w, _, _, _, rfl⟩ | ⟨w, _, _, e⟩ | ⟨_, _, _, rfl⟩
 ·obtain ⟨_, rfl⟩ := Hd.pushS_eq e; exact p
 ·exact pos7_set p (by have := o.nx0; omega)
 ·obtain ⟨_, rfl⟩ := Hd.pushS_eq e; exact pos7_set p (by have := o.top w; omega)
 ·exact p
theorem spec_l7Step_ev {n : Nat} {s : Hd.St} (o : s.OK n) (p : Pos7 s) (m : Int) : Ev (fun k => spec_l7Step.f k (told7 s.hs) s.ws (s.nx + 1) m) (l7end s (Hd.eagS m s)) := by
 have hl := o.len; have h8 := o.n8; have hn0 := o.nx0; have hn1 := o.nx1; have hw := o.wl
 have tl := told7_len s.hs
 unfold spec_l7Step.f
 rw [wid (x := (s.ws.length : Int) - 1) (by omega) (by omega)]
 by_cases c : m = 83
 ·subst c
  refine Ev.pos rfl (spec_l7Step.j0.ev ?_)
  by_cases hn : s.nx + 1 ≤ n
  rotate_left
  ·have e : Hd.eagS 83 s = none := by rw [Hd.eagS, if_pos rfl, Hd.pushS, if_pos (by omega)]
   rw [e]
   exact Ev.neg (by simp; omega) (Ev.neg (by omega) (spec_l7Step.j1.ev (Ev.neg (by simp) (Ev.neg (by omega) (spec_l7Step.j2.ev (Ev.neg (by simp) (Ev.neg (by omega) (Ev.now _))))))))
  have e : Hd.eagS 83 s = some ⟨s.ws ++ [s.nx + 1], s.nx + 1, s.hs, if s.dp ≤ (s.ws.length : Int) + 1 then (s.ws.length : Int) + 1 else s.dp⟩ := by rw [Hd.eagS, if_pos rfl, Hd.pushS, if_neg (by omega)]
  rw [e, wid (x := s.nx + 1 + 1) (by omega) (by omega)]
  refine Ev.pos (by simp; omega) (Ev.bindv rfl (Ev.pos (by simp; omega) (Ev.bindv rfl (Ev.pos (by simp; omega) (Ev.ret ?_)))))
  simp [l7end]
 refine Ev.neg c (spec_l7Step.j0.ev (Ev.neg (by simp) ?_))
 by_cases c1 : m = 76
 ·subst c1
  have fin : Hd.eagS 76 s = none → Ev (fun k => spec_l7Step.j1 k (told7 s.hs) s.ws (s.nx + 1) 76 ((s.ws.length : Int) - 1) false) (l7end s (Hd.eagS 76 s)) := fun e => by
   rw [e]
   exact spec_l7Step.j1.ev (Ev.neg (by simp) (Ev.neg (by omega) (spec_l7Step.j2.ev (Ev.neg (by simp) (Ev.neg (by omega) (Ev.now _))))))
  refine Ev.pos rfl ?_
  by_cases hn : s.nx + 1 ≤ n
  rotate_left
  ·refine Ev.neg (by omega) ?_
   exact fin (by rw [Hd.eagS, if_neg (by omega)]; split <;> first | rfl | rw [if_neg (by omega), if_neg (by omega), if_neg (by omega)])
  refine Ev.pos (by omega) ?_
  by_cases ht : 1 ≤ s.ws.length
  rotate_left
  ·refine Ev.neg (by omega) ?_
   exact fin (by rw [Hd.eagS, if_neg (by omega), if_pos (by omega)])
  have ot := o.top ht
  rw [top_rd7, wid (x := Hd.topW s - 1) (by omega) (by omega)]
  refine Ev.pos (by omega) (Ev.pos (by omega) (Ev.pos (by omega) (Ev.pos (by omega) (Ev.pos (by omega) ?_))))
  rw [told7_rd (by omega) (by omega)]
  by_cases hz : s.hs.getD (Hd.topW s - 1).toNat 0 = 0
  rotate_left
  ·have hp : 0 ≤ s.hs.getD (Hd.topW s - 1).toNat 0 := p _ (Hd.mem_getD (by omega))
   rw [if_neg hz, decide_eq_false (by omega)]
   exact fin (by rw [Hd.eagS, if_neg (by omega), if_neg (by omega), if_neg (fun h => hz h.2.2), if_neg (by omega), if_neg (by omega)])
  have e : Hd.eagS 76 s = some (Hd.popS s (s.hs.set (Hd.topW s - 1).toNat (s.nx + 1))) := by
   rw [Hd.eagS, if_neg (by omega), if_neg (by omega), if_pos ⟨rfl, by omega, hz⟩]
  rw [e, if_pos hz]
  refine spec_l7Step.j1.ev ?_
  rw [top_rd7, wid (x := Hd.topW s - 1) (by omega) (by omega)]
  refine Ev.pos (by simp) (Ev.pos (by omega) (Ev.pos (by omega) (Ev.pos (by omega) (Ev.pos (by omega) (Ev.bindv rfl (Ev.pos (by omega) (Ev.bindv rfl (Ev.pos (by simp; omega) (Ev.ret ?_)))))))))
  rw [l7end, Hd.popS, told7_set (by omega), List.nil_append, show ((s.ws.length : Int) - 1).toNat = s.ws.length - 1 by omega]
 refine Ev.neg c1 (spec_l7Step.j1.ev (Ev.neg (by simp) ?_))
 by_cases c2 : m = 82
 ·subst c2
  have fin : Hd.eagS 82 s = none → Ev (fun k => spec_l7Step.j2 k (told7 s.hs) s.ws (s.nx + 1) 82 ((s.ws.length : Int) - 1) false) (l7end s (Hd.eagS 82 s)) := fun e => by
   rw [e]
   exact spec_l7Step.j2.ev (Ev.neg (by simp) (Ev.neg (by omega) (Ev.now _)))
  refine Ev.pos rfl ?_
  by_cases hn : s.nx + 1 ≤ n
  rotate_left
  ·refine Ev.neg (by omega) ?_
   exact fin (by rw [Hd.eagS, if_neg (by omega)]; split <;> first | rfl | rw [if_neg (by omega), if_neg (by omega), if_neg (by omega)])
  refine Ev.pos (by omega) ?_
  by_cases ht : 1 ≤ s.ws.length
  rotate_left
  ·rw [decide_eq_false (by omega)]
   exact fin (by rw [Hd.eagS, if_neg (by omega), if_pos (by omega)])
  have ot := o.top ht
  have e : Hd.eagS 82 s = some ⟨s.ws ++ [s.nx + 1], s.nx + 1, s.hs.set s.nx.toNat (Hd.topW s), if s.dp ≤ (s.ws.length : Int) + 1 then (s.ws.length : Int) + 1 else s.dp⟩ := by
   rw [Hd.eagS, if_neg (by omega), if_neg (by omega), if_neg (by omega), if_pos ⟨rfl, by omega⟩, Hd.pushS, if_neg (by simp only [List.length_set]; omega)]
  rw [e, decide_eq_true (by omega)]
  refine spec_l7Step.j2.ev ?_
  rw [top_rd7, wid (x := s.nx + 1 - 1) (by omega) (by omega), wid (x := s.nx + 1 + 1) (by omega) (by omega)]
  refine Ev.pos rfl (Ev.pos (by omega) (Ev.pos (by omega) (Ev.pos (by omega) (Ev.pos (by omega) (Ev.bindv rfl (Ev.pos (by simp; omega) (Ev.bindv rfl (Ev.pos (by simp; omega) (Ev.ret ?_)))))))))
  rw [l7end, told7_set (by omega), List.nil_append, show s.nx + 1 - 1 = s.nx by omega]
 refine Ev.neg c2 (spec_l7Step.j2.ev (Ev.neg (by simp) ?_))
 by_cases c3 : m = 68
 rotate_left
 ·refine Ev.neg c3 ?_
  rw [show Hd.eagS m s = none by rw [Hd.eagS, if_neg c]; split <;> first | rfl | rw [if_neg (fun h => c1 h.1), if_neg (fun h => c2 h.1), if_neg (fun h => c3 h.1)]]
  exact Ev.now _
 subst c3
 refine Ev.pos rfl ?_
 by_cases ht : 1 ≤ s.ws.length
 rotate_left
 ·refine Ev.neg (by omega) ?_
  rw [show Hd.eagS 68 s = none by rw [Hd.eagS, if_neg (by omega), if_pos (by omega)]]
  exact Ev.now _
 have ot := o.top ht
 rw [top_rd7, wid (x := Hd.topW s - 1) (by omega) (by omega)]
 refine Ev.pos (by omega) (Ev.pos (by omega) (Ev.pos (by omega) (Ev.pos (by omega) (Ev.pos (by omega) ?_))))
 rw [told7_rd (by omega) (by omega)]
 by_cases hz : s.hs.getD (Hd.topW s - 1).toNat 0 = 0
 ·rw [if_pos hz, show Hd.eagS 68 s = none by rw [Hd.eagS, if_neg (by omega), if_neg (by omega), if_neg (by omega), if_neg (by omega), if_neg (fun h => h.2 hz)]]
  exact Ev.neg (by omega) (Ev.now _)
 have hp : 0 ≤ s.hs.getD (Hd.topW s - 1).toNat 0 := p _ (Hd.mem_getD (by omega))
 rw [if_neg hz, show Hd.eagS 68 s = some (Hd.popS s s.hs) by rw [Hd.eagS, if_neg (by omega), if_neg (by omega), if_neg (by omega), if_neg (by omega), if_pos ⟨rfl, hz⟩]]
 refine Ev.pos (by omega) (Ev.bindv rfl (Ev.pos (by omega) (Ev.bindv rfl (Ev.pos (by simp; omega) (Ev.ret ?_)))))
 rw [l7end, Hd.popS, List.nil_append, show ((s.ws.length : Int) - 1).toNat = s.ws.length - 1 by omega]

/-! spec_l7Rule -/
theorem spec_l7Rule.l0.ev {x0 : List Int} {x1 : List Int} {x2 : Int} {x7 : Int} {x9 : Int} {r : ByteArray} (h : Ev (fun k => if x9 < x7 then (if 0 ≤ (wrap64 (x2 - 1)) then (if (wrap64 (x2 - 1)) < (x0.length : Int) then (if 0 ≤ x9 then (if x9 < (x1.length : Int) then (if (rd x0 (wrap64 (x2 - 1))) = (rd x1 x9) then (some (⟨#[68]⟩ : ByteArray)) else (if 0 ≤ (wrap64 ((rd x1 x9) - 1)) then (if (wrap64 ((rd x1 x9) - 1)) < (x0.length : Int) then (if (rd x0 (wrap64 ((rd x1 x9) - 1))) = x2 then (some (⟨#[68]⟩ : ByteArray)) else (spec_l7Rule.l0 k x0 x1 x2 x7 (wrap64 (x9 + 1)))) else (none)) else (none))) else (none)) else (none)) else (none)) else (none)) else (some (⟨#[83]⟩ : ByteArray))) r) : Ev (fun k => spec_l7Rule.l0 k x0 x1 x2 x7 x9) r := Ev.step (fun _ => rfl) h
theorem spec_l7Rule_l0 {n : Nat} {h : List Int} {s : Hd.St} (o : s.OK n) (hl : h.length = n) (hn : s.nx < (n : Int)) (hw1 : 1 ≤ s.ws.length) : ∀ i : Int, i ≤ (s.ws.length : Int) - 1 → 0 ≤ i → Ev (fun k => spec_l7Rule.l0 k h s.ws (s.nx + 1) ((s.ws.length : Int) - 1) i)
  (if ((s.ws.take (s.ws.length - 1)).drop i.toNat).any (fun w => decide (h.getD s.nx.toNat 0 = w) || decide (h.getD (w - 1).toNat 0 = s.nx + 1)) = true then ⟨#[68]⟩ else ⟨#[83]⟩) := by
 have h8 := o.n8; have hn0 := o.nx0; have hn1 := o.nx1; have hw := o.wl
 refine Hd.down ?_
 intro i hi ih h0
 obtain ⟨q, rfl⟩ := Int.eq_ofNat_of_zero_le h0
 refine spec_l7Rule.l0.ev ?_
 rw [Int.toNat_natCast]
 by_cases hlt : (q : Int) < (s.ws.length : Int) - 1
 rotate_left
 ·refine Ev.neg hlt ?_
  rw [List.drop_eq_nil_of_le (by rw [List.length_take]; omega)]
  exact Ev.now _
 have next := ih hlt (by omega)
 rw [show ((q : Int) + 1).toNat = q + 1 from by omega] at next
 have hq : q < s.ws.length := by omega
 have hqt : q < (s.ws.take (s.ws.length - 1)).length := by rw [List.length_take]; omega
 have hx : rd s.ws (q : Int) = s.ws[q] := rd_at hq
 have ox := o.mem _ (List.getElem_mem hq)
 rw [List.drop_eq_getElem_cons hqt, List.any_cons, List.getElem_take]
 generalize s.ws[q] = x at hx ox
 rw [wid (x := s.nx + 1 - 1) (by omega) (by omega), wid (x := (q : Int) + 1) (by omega) (by omega), hx, wid (x := x - 1) (by omega) (by omega), show s.nx + 1 - 1 = s.nx by omega]
 refine Ev.pos hlt (Ev.pos (by omega) (Ev.pos (by omega) (Ev.pos h0 (Ev.pos (by omega) ?_))))
 have e1 : rd h s.nx = h.getD s.nx.toNat 0 := rfl
 have e2 : rd h (x - 1) = h.getD (x - 1).toNat 0 := rfl
 by_cases c : h.getD s.nx.toNat 0 = x
 ·refine Ev.pos (by rw [e1]; exact c) ?_
  rw [if_pos (by rw [decide_eq_true c]; rfl)]; exact Ev.now _
 refine Ev.neg (by rw [e1]; exact c) (Ev.pos (by omega) (Ev.pos (by omega) ?_))
 by_cases c2 : h.getD (x - 1).toNat 0 = s.nx + 1
 ·refine Ev.pos (by rw [e2]; exact c2) ?_
  rw [if_pos (by rw [decide_eq_true c2, Bool.or_true]; rfl)]; exact Ev.now _
 refine Ev.neg (by rw [e2]; exact c2) ?_
 rw [decide_eq_false c, decide_eq_false c2, Bool.or_false, Bool.false_or]
 exact next
theorem spec_l7Rule_ev {n : Nat} {h : List Int} {s : Hd.St} (o : s.OK n) (hl : h.length = n) (hn : s.nx < (n : Int)) : Ev (fun k => spec_l7Rule.f k h s.ws (s.nx + 1)) ⟨#[(Hd.ruleE h s).toNat.toUInt8]⟩ := by
 have h8 := o.n8; have hn0 := o.nx0; have hn1 := o.nx1; have hw := o.wl
 unfold spec_l7Rule.f
 rw [wid (x := (s.ws.length : Int) - 1) (by omega) (by omega)]
 by_cases c : s.ws.length = 0
 ·rw [show Hd.ruleE h s = 83 from if_pos c]
  exact Ev.pos (by omega) (Ev.now _)
 have ot := o.top (by omega)
 have tr : rd s.ws ((s.ws.length : Int) - 1) = Hd.topW s := by rw [rd, Hd.topW, show ((s.ws.length : Int) - 1).toNat = s.ws.length - 1 by omega]
 rw [tr, wid (x := Hd.topW s - 1) (by omega) (by omega), wid (x := s.nx + 1 - 1) (by omega) (by omega), show s.nx + 1 - 1 = s.nx by omega]
 refine Ev.neg (by omega) (Ev.pos (by omega) (Ev.pos (by omega) (Ev.pos (by omega) (Ev.pos (by omega) ?_))))
 have e1 : rd h s.nx = h.getD s.nx.toNat 0 := rfl
 have e2 : rd h (Hd.topW s - 1) = h.getD (Hd.topW s - 1).toNat 0 := rfl
 rw [e1, e2]
 by_cases c1 : h.getD (Hd.topW s - 1).toNat 0 = s.nx + 1
 ·rw [show Hd.ruleE h s = 76 by rw [Hd.ruleE, if_neg c, if_pos c1]]
  exact Ev.pos c1 (Ev.now _)
 refine Ev.neg c1 (Ev.pos (by omega) (Ev.pos (by omega) ?_))
 by_cases c2 : h.getD s.nx.toNat 0 = Hd.topW s
 ·rw [show Hd.ruleE h s = 82 by rw [Hd.ruleE, if_neg c, if_neg c1, if_pos c2]]
  exact Ev.pos c2 (Ev.now _)
 refine Ev.neg c2 ?_
 have L := spec_l7Rule_l0 o hl hn (by omega) 0 (by omega) (by omega)
 rw [Int.toNat_zero, List.drop_zero] at L
 have e : (⟨#[(Hd.ruleE h s).toNat.toUInt8]⟩ : ByteArray) = if Hd.anyE h s = true then ⟨#[68]⟩ else ⟨#[83]⟩ := by
  rw [Hd.ruleE, if_neg c, if_neg c1, if_neg c2]
  by_cases c3 : Hd.anyE h s = true
  rotate_left
  ·rw [if_neg c3, if_neg c3]; rfl
  rw [if_pos c3, if_pos c3]; rfl
 rw [e]
 exact L

/-! spec_EagerFor -/
theorem spec_EagerFor.l0.ev {x0 : List Int} {x4 : List Int} {x5 : Int} {r : ByteArray × Bool} (h : Ev (fun k => if x5 < (x0.length : Int) then (if x4.length < 17592186044416 then (spec_EagerFor.l0 k x0 (x4 ++ [(-1)]) (wrap64 (x5 + 1))) else (none)) else (spec_EagerFor.l1 k x0 x4 (([] : List Int)) (⟨#[]⟩ : ByteArray) 1)) r) : Ev (fun k => spec_EagerFor.l0 k x0 x4 x5) r := Ev.step (fun _ => rfl) h
theorem spec_EagerFor.l1.ev {x0 : List Int} {x4 : List Int} {x6 : List Int} {x7 : ByteArray} {x8 : Int} {r : ByteArray × Bool} (h : Ev (fun k => if x8 ≤ (x0.length : Int) then ((spec_l7Rule.f k x0 x6 x8).bind fun t197 => (if 0 < (t197.size : Int) then ((spec_l7Step.f k x4 x6 x8 (bt t197 0)).bind fun bt198 => (if bt198.2.2.1 = true then (if x7.size + t197.size ≤ 9223372036854775807 then (spec_EagerFor.l1 k x0 bt198.2.2.2 bt198.1 (x7 ++ t197) bt198.2.1) else (none)) else (some ((⟨#[]⟩ : ByteArray), false)))) else (none))) else (some (x7, true))) r) : Ev (fun k => spec_EagerFor.l1 k x0 x4 x6 x7 x8) r := Ev.step (fun _ => rfl) h
theorem rule7_bt (h : List Int) (s : Hd.St) : bt (⟨#[(Hd.ruleE h s).toNat.toUInt8]⟩ : ByteArray) 0 = Hd.ruleE h s := by
 have : Hd.ruleE h s = 83 ∨ Hd.ruleE h s = 76 ∨ Hd.ruleE h s = 82 ∨ Hd.ruleE h s = 68 := by
  unfold Hd.ruleE
  by_cases c0 : s.ws.length = 0
  ·exact .inl (if_pos c0)
  rw [if_neg c0]
  by_cases c1 : h.getD (Hd.topW s - 1).toNat 0 = s.nx + 1
  ·exact .inr (.inl (if_pos c1))
  rw [if_neg c1]
  by_cases c2 : h.getD s.nx.toNat 0 = Hd.topW s
  ·exact .inr (.inr (.inl (if_pos c2)))
  rw [if_neg c2]
  by_cases c3 : Hd.anyE h s = true
  rotate_left
  ·exact .inl (if_neg c3)
  exact .inr (.inr (.inr (if_pos c3)))
 rcases this with e | e | e | e <;> rw [e] <;> rfl
theorem spec_EagerFor_l1 {n : Nat} {h : List Int} (hl : h.length = n) : ∀ (f : Nat) (s : Hd.St) (out : ByteArray), s.OK n → Pos7 s → Hd.todo n s < f → out.size + f ≤ 100 →
  Ev (fun k => spec_EagerFor.l1 k h (told7 s.hs) s.ws out (s.nx + 1)) (Hd.eagF h f s out)
 | 0, s, out, o, p, ht, hs => by omega
 | f + 1, s, out, o, p, ht, hs => by
  have h8 := o.n8; have hn0 := o.nx0; have hn1 := o.nx1
  refine spec_EagerFor.l1.ev ?_
  unfold Hd.eagF
  by_cases c : s.nx < (h.length : Int)
  rotate_left
  ·rw [if_neg c]
   exact Ev.neg (by omega) (Ev.now _)
  rw [if_pos c]
  refine Ev.pos (by omega) (Ev.bind (spec_l7Rule_ev o hl (by omega)) (Ev.pos (by show (0 : Int) < (1 : Int); decide) ?_))
  rw [rule7_bt]
  refine Ev.bind (spec_l7Step_ev o p _) ?_
  cases hm : Hd.eagS (Hd.ruleE h s) s with
  | none => exact Ev.neg (by simp [l7end]) (Ev.now _)
  | some t =>
   have ht2 := Hd.eag_todo o hm
   have hsz : (⟨#[(Hd.ruleE h s).toNat.toUInt8]⟩ : ByteArray).size = 1 := rfl
   refine Ev.pos rfl (Ev.pos (by omega) ?_)
   exact spec_EagerFor_l1 hl f t _ (o.eag hm) (p.eag o hm) (by omega) (by rw [ByteArray.size_append, hsz]; omega)
theorem spec_EagerFor_l0 {h : List Int} (h8 : h.length ≤ 8) {r : ByteArray × Bool} (L : Ev (fun k => spec_EagerFor.l1 k h (List.replicate h.length (-1)) [] ⟨#[]⟩ 1) r) : ∀ i : Int, i ≤ (h.length : Int) → 0 ≤ i → Ev (fun k => spec_EagerFor.l0 k h (List.replicate i.toNat (-1)) i) r := by
 refine Hd.down ?_
 intro i hi ih h0
 obtain ⟨q, rfl⟩ := Int.eq_ofNat_of_zero_le h0
 refine spec_EagerFor.l0.ev ?_
 rw [Int.toNat_natCast]
 by_cases hlt : (q : Int) < h.length
 rotate_left
 ·obtain rfl : q = h.length := by omega
  exact Ev.neg hlt L
 have next := ih hlt (by omega)
 rw [show ((q : Int) + 1).toNat = q + 1 from by omega, List.replicate_succ'] at next
 rw [wid (x := (q : Int) + 1) (by omega) (by omega)]
 exact Ev.pos hlt (Ev.pos (by simp; omega) next)
noncomputable def eagP (h : List Int) : ByteArray × Bool := if Hd.flatB h = true then Mach.eagerF h else (⟨#[]⟩, false)
theorem spec_EagerFor_ev (h : List Int) : Ev (fun k => spec_EagerFor.f k h) (eagP h) := by
 unfold spec_EagerFor.f eagP
 refine Ev.bind (spec_FlatOk_ev h) ?_
 by_cases f : Hd.flatB h = true
 rotate_left
 ·simp only [if_neg f]; exact Ev.now _
 have t := (Hd.flatB_true.1 f).1
 have hp := t.2.pos
 have h8 := t.1
 simp only [if_pos f]
 have L1 := spec_EagerFor_l1 (n := h.length) (h := h) rfl (2 * h.length + 1) (Hd.St.start h.length) ⟨#[]⟩ (Hd.St.OK.start h8) (fun x hx => by simp [Hd.St.start] at hx; omega) (by simp [Hd.todo, Hd.St.start]; omega) (by show 0 + _ ≤ 100; omega)
 have e1 : told7 (Hd.St.start h.length).hs = List.replicate h.length (-1) := by simp [told7, Hd.St.start]
 rw [e1] at L1
 exact spec_EagerFor_l0 h8 L1 0 (by omega) (by omega)

/-! impl_EagerFor -/

theorem impl_EagerFor_ev (l : List Int) : Ev (fun k => impl_EagerFor.f k l) (if Hd.flatB l = true then Mach.eagerF l else (⟨#[]⟩, false)) := by
 unfold impl_EagerFor.f
 refine Ev.bind (impl_FlatOk_ev l) ?_
 by_cases f : Hd.flatB l = true
 rotate_left
 ·simp only [if_neg f]; exact Ev.now _
 have t := (Hd.flatB_true.1 f).1
 simp only [if_pos f]
 exact Ev.pos ⟨t.2.pos, t.1⟩ (Ev.now _)

/-! spec_l20Open -/

theorem spec_l20Open_eq {l : List Int} (h : ∀ x ∈ l, (Lit.int .u8 x).wf = true) : ∃ b, spec_l20Open.f l = some (b, 0) ∧ Bts b := by
 have hb : ∀ x, x ∈ l → 0 ≤ x ∧ x ≤ 255 := fun x hx => by
  have := h x hx
  simpa [Lit.wf, IntKind.min, IntKind.max, IntKind.signed, IntKind.bits] using this
 unfold spec_l20Open.f
 by_cases hl : (l.length : Int) > 2000
 rotate_left
 ·rw [if_neg hl]
  exact ⟨_, rfl, by omega, bts_rd hb⟩
 rw [if_pos hl, if_pos (by omega)]
 exact ⟨_, rfl, by simp; omega, bts_rd fun x hx => hb x (List.mem_of_mem_take hx)⟩

/-! spec_l20Rd_pick -/
theorem spec_l20Rd_pick.j0.ev {x1 : Int} {x24 : Bool} {x1000 : List Int} {x1001 : Int} {r : Int × Int} (h : Ev (fun k => if x24 = true then (some (0, x1001)) else (if (wrap64 (x1001 - 1)) < (x1000.length : Int) then (if 0 ≤ (wrap64 (x1001 - 1)) then (if x1 = 0 then (none) else (some (Int.tmod (wrap64 (rd x1000 (wrap64 (x1001 - 1)))) x1, x1001))) else (none)) else (if (x1000.length : Int) = 0 then (none) else (if 0 ≤ (Int.tmod (wrap64 (x1001 - 1)) (x1000.length : Int)) then (if (Int.tmod (wrap64 (x1001 - 1)) (x1000.length : Int)) < (x1000.length : Int) then (if 0 ≤ (Int.tmod (wrap64 ((wrap64 ((wrap64 (x1001 - 1)) * 7)) + 3)) (x1000.length : Int)) then (if (Int.tmod (wrap64 ((wrap64 ((wrap64 (x1001 - 1)) * 7)) + 3)) (x1000.length : Int)) < (x1000.length : Int) then (if x1 = 0 then (none) else (some (Int.tmod (Go.bits .xor .i64 (wrap64 ((wrap64 ((wrap64 ((wrap64 ((wrap64 (rd x1000 (Int.tmod (wrap64 (x1001 - 1)) (x1000.length : Int)))) * 131)) + (wrap64 ((wrap64 (rd x1000 (Int.tmod (wrap64 ((wrap64 ((wrap64 (x1001 - 1)) * 7)) + 3)) (x1000.length : Int)))) * 1117)))) + (wrap64 ((wrap64 (x1001 - 1)) * 29)))) + (wrap64 ((wrap64 (Int.tdiv (wrap64 (x1001 - 1)) (x1000.length : Int))) * 53)))) (wrap64 (Int.tdiv (wrap64 ((wrap64 ((wrap64 ((wrap64 ((wrap64 (rd x1000 (Int.tmod (wrap64 (x1001 - 1)) (x1000.length : Int)))) * 131)) + (wrap64 ((wrap64 (rd x1000 (Int.tmod (wrap64 ((wrap64 ((wrap64 (x1001 - 1)) * 7)) + 3)) (x1000.length : Int)))) * 1117)))) + (wrap64 ((wrap64 (x1001 - 1)) * 29)))) + (wrap64 ((wrap64 (Int.tdiv (wrap64 (x1001 - 1)) (x1000.length : Int))) * 53)))) 64))) x1, x1001))) else (none)) else (none)) else (none)) else (none))))) r) : Ev (fun k => spec_l20Rd_pick.j0 k x1 x24 x1000 x1001) r := Ev.step (fun _ => rfl) h
theorem bits_xor_nat (k : Go.IntKind) (j : Nat) (hj : j ≤ k.bits) (hk : ∀ n : Int, 0 ≤ n → n < 2 ^ j → k.wrap n = n) (a b : Nat) (ha : a < 2 ^ j) (hb : b < 2 ^ j) : Go.bits .xor k a b = ((a ^^^ b : Nat) : Int) := by
 have hp : 2 ^ j ≤ 2 ^ k.bits := Nat.pow_le_pow_right (by decide) hj
 have ha' : a % 2 ^ k.bits = a := Nat.mod_eq_of_lt (Nat.lt_of_lt_of_le ha hp)
 have hb' : b % 2 ^ k.bits = b := Nat.mod_eq_of_lt (Nat.lt_of_lt_of_le hb hp)
 simp only [Go.bits, BitVec.ofInt_natCast, BitVec.toNat_xor, BitVec.toNat_ofNat, ha', hb']
 refine hk _ (Int.natCast_nonneg _) ?_
 exact_mod_cast Nat.xor_lt_two_pow ha hb
theorem h_xor_i64 {a b : Nat} (ha : a < 2 ^ 40) (hb : b < 2 ^ 40) : Go.bits .xor .i64 (a : Int) (b : Int) = ((a ^^^ b : Nat) : Int) :=
 bits_xor_nat .i64 40 (by decide) (fun n h0 h1 => by rw [Go.IntKind.wrap_i64]; omega) a b ha hb
theorem xor_nonneg {x : Int} (h0 : 0 ≤ x) (h1 : x < 1000000000) : 0 ≤ Go.bits .xor .i64 x (Int.tdiv x 64) ∧ Go.bits .xor .i64 x (Int.tdiv x 64) < 2 ^ 40 := by
 obtain ⟨a, rfl⟩ := Int.eq_ofNat_of_zero_le h0
 have : Int.tdiv (a : Int) 64 = ((a / 64 : Nat) : Int) := by
  rw [Int.tdiv_eq_ediv_of_nonneg (by omega)]; simp
 rw [this, h_xor_i64 (by omega) (by omega)]
 have := Nat.xor_lt_two_pow (n := 40) (x := a) (y := a / 64) (by omega) (by omega)
 omega
theorem spec_l20Rd_pick_ev {b : List Int} (B : Bts b) {p : Int} (h0 : 0 ≤ p) (h1 : p ≤ 1000000) (n : Int) : ∃ r : Int, Ev (fun k => spec_l20Rd_pick.f k b p n) (r, p + 1) ∧ 0 ≤ r ∧ (1 ≤ n → r < n) := by
 unfold spec_l20Rd_pick.f
 rw [wid (x := p + 1) (by omega) (by omega)]
 by_cases hn : n < 1
 ·exact ⟨0, Ev.pos hn (spec_l20Rd_pick.j0.ev (Ev.pos rfl (Ev.now _))), by omega, by omega⟩
 by_cases hb : b.length = 0
 ·refine ⟨0, Ev.neg hn ?_, by omega, by omega⟩
  rw [show ((b.length : Int) == 0) = true from by simp [hb]]
  exact spec_l20Rd_pick.j0.ev (Ev.pos rfl (Ev.now _))
 have hlen := B.1
 have key : ∃ r : Int, Ev (fun k => spec_l20Rd_pick.j0 k n false b (p + 1)) (r, p + 1) ∧ 0 ≤ r ∧ (1 ≤ n → r < n) := by
  by_cases hlt : p < b.length
  ·refine ⟨Int.tmod (rd b p) n, spec_l20Rd_pick.j0.ev (Ev.neg (by simp) ?_), Int.tmod_nonneg _ (B.2 p).1, fun h => Int.tmod_lt_of_pos _ (by omega)⟩
   have := B.2 p
   rw [wid (x := p + 1 - 1) (by omega) (by omega), show p + 1 - 1 = p from by omega, wid (x := rd b p) (by omega) (by omega)]
   exact Ev.pos hlt (Ev.pos h0 (Ev.neg (by omega) (Ev.now _)))
  have t0 : 0 ≤ Int.tmod p b.length := Int.tmod_nonneg _ h0
  have t1 : Int.tmod p b.length < b.length := Int.tmod_lt_of_pos _ (by omega)
  have u0 : 0 ≤ Int.tmod (p * 7 + 3) b.length := Int.tmod_nonneg _ (by omega)
  have u1 : Int.tmod (p * 7 + 3) b.length < b.length := Int.tmod_lt_of_pos _ (by omega)
  have v0 : 0 ≤ Int.tdiv p b.length := Int.tdiv_nonneg h0 (by omega)
  have v1 : Int.tdiv p b.length ≤ p := by
   rw [Int.tdiv_eq_ediv_of_nonneg h0]
   exact Int.ediv_le_self _ h0
  have b1 := B.2 (Int.tmod p b.length)
  have b2 := B.2 (Int.tmod (p * 7 + 3) b.length)
  generalize e1 : rd b (Int.tmod p b.length) = y1 at *
  generalize e2 : rd b (Int.tmod (p * 7 + 3) b.length) = y2 at *
  have hx0 : 0 ≤ y1 * 131 + y2 * 1117 + p * 29 + Int.tdiv p b.length * 53 := by omega
  have hx1 : y1 * 131 + y2 * 1117 + p * 29 + Int.tdiv p b.length * 53 < 1000000000 := by omega
  have hx := xor_nonneg hx0 hx1
  refine ⟨Int.tmod (Go.bits .xor .i64 (y1 * 131 + y2 * 1117 + p * 29 + Int.tdiv p b.length * 53) (Int.tdiv (y1 * 131 + y2 * 1117 + p * 29 + Int.tdiv p b.length * 53) 64)) n, spec_l20Rd_pick.j0.ev (Ev.neg (by simp) ?_), Int.tmod_nonneg _ hx.1, fun h => Int.tmod_lt_of_pos _ (by omega)⟩
  have d0 : 0 ≤ Int.tdiv (y1 * 131 + y2 * 1117 + p * 29 + Int.tdiv p b.length * 53) 64 := Int.tdiv_nonneg hx0 (by omega)
  have d1 : Int.tdiv (y1 * 131 + y2 * 1117 + p * 29 + Int.tdiv p b.length * 53) 64 ≤ y1 * 131 + y2 * 1117 + p * 29 + Int.tdiv p b.length * 53 := by
   rw [Int.tdiv_eq_ediv_of_nonneg hx0]
   exact Int.ediv_le_self _ hx0
  rw [wid (x := p + 1 - 1) (by omega) (by omega), show p + 1 - 1 = p from by omega, wid (x := p * 7) (by omega) (by omega), wid (x := p * 7 + 3) (by omega) (by omega), e1, e2]
  rw [wid (x := y1) (by omega) (by omega), wid (x := y2) (by omega) (by omega), wid (x := y1 * 131) (by omega) (by omega), wid (x := y2 * 1117) (by omega) (by omega), wid (x := y1 * 131 + y2 * 1117) (by omega) (by omega), wid (x := p * 29) (by omega) (by omega), wid (x := y1 * 131 + y2 * 1117 + p * 29) (by omega) (by omega)]
  rw [wid (x := Int.tdiv p b.length) (by omega) (by omega), wid (x := Int.tdiv p b.length * 53) (by omega) (by omega), wid (x := y1 * 131 + y2 * 1117 + p * 29 + Int.tdiv p b.length * 53) (by omega) (by omega)]
  rw [wid (x := Int.tdiv (y1 * 131 + y2 * 1117 + p * 29 + Int.tdiv p b.length * 53) 64) (by omega) (by omega)]
  exact Ev.neg hlt (Ev.neg (by omega) (Ev.pos t0 (Ev.pos t1 (Ev.pos u0 (Ev.pos u1 (Ev.neg (by omega) (Ev.now _)))))))
 obtain ⟨r, e, h2, h3⟩ := key
 refine ⟨r, Ev.neg hn ?_, h2, h3⟩
 rw [show ((b.length : Int) == 0) = false from by simpa using hb]
 exact e

/-! spec_l20Rd_odd -/

theorem spec_l20Rd_odd_ev {b : List Int} (B : Bts b) {p : Int} (h0 : 0 ≤ p) (h1 : p ≤ 1000000) (n : Int) : ∃ (r : Bool) (q : Int), Ev (fun k => spec_l20Rd_odd.f k b p n) (r, q) ∧ p ≤ q ∧ q ≤ p + 1 := by
 unfold spec_l20Rd_odd.f
 by_cases hn : n > 0
 rotate_left
 ·exact ⟨_, _, Ev.neg hn (Ev.now _), by omega, by omega⟩
 obtain ⟨r, e, _, _⟩ := spec_l20Rd_pick_ev B h0 h1 n
 exact ⟨_, _, Ev.pos hn (Ev.bind e (Ev.now _)), by omega, by omega⟩

/-! spec_l20Order -/
theorem spec_l20Order.l0.ev {x1 : Int} {x5 : List Int} {x6 : Int} {x7 : Int} {x1000 : List Int} {x1001 : Int} {r : List Int × Int} (h : Ev (fun k => if x7 ≤ x1 then (if x6 = 0 then ((spec_l20Rd_pick.f k x1000 x1001 x7).bind fun bt224 => ((some (([] : List Int) : List Int)).bind fun y226 => (if 0 ≤ bt224.1 then (if bt224.1 ≤ (x5.length : Int) then ((some (x5.take (bt224.1 : Int).toNat : List Int)).bind fun y229 => (if y226.length + y229.length < 17592186044416 then ((some (y226 ++ y229 : List Int)).bind fun y233 => (if y233.length < 17592186044416 then ((some (y233 ++ [x7] : List Int)).bind fun y236 => ((some (x5.drop (bt224.1 : Int).toNat : List Int)).bind fun y239 => (if y236.length + y239.length < 17592186044416 then (spec_l20Order.l0 k x1 (y236 ++ y239) x6 (wrap64 (x7 + 1)) x1000 bt224.2) else (none)))) else (none))) else (none))) else (none)) else (none)))) else ((spec_l20Rd_pick.f k x1000 x1001 3).bind fun bt246 => (if bt246.1 = 0 then ((spec_l20Rd_pick.f k x1000 bt246.2 x7).bind fun bt248 => ((some (([] : List Int) : List Int)).bind fun y250 => (if 0 ≤ bt248.1 then (if bt248.1 ≤ (x5.length : Int) then ((some (x5.take (bt248.1 : Int).toNat : List Int)).bind fun y253 => (if y250.length + y253.length < 17592186044416 then ((some (y250 ++ y253 : List Int)).bind fun y257 => (if y257.length < 17592186044416 then ((some (y257 ++ [x7] : List Int)).bind fun y260 => ((some (x5.drop (bt248.1 : Int).toNat : List Int)).bind fun y263 => (if y260.length + y263.length < 17592186044416 then (spec_l20Order.l0 k x1 (y260 ++ y263) x6 (wrap64 (x7 + 1)) x1000 bt248.2) else (none)))) else (none))) else (none))) else (none)) else (none)))) else ((some (([] : List Int) : List Int)).bind fun y270 => (if 0 ≤ (x5.length : Int) then (if (x5.length : Int) ≤ (x5.length : Int) then ((some (x5.take ((x5.length : Int) : Int).toNat : List Int)).bind fun y273 => (if y270.length + y273.length < 17592186044416 then ((some (y270 ++ y273 : List Int)).bind fun y277 => (if y277.length < 17592186044416 then ((some (y277 ++ [x7] : List Int)).bind fun y280 => ((some (x5.drop ((x5.length : Int) : Int).toNat : List Int)).bind fun y283 => (if y280.length + y283.length < 17592186044416 then (spec_l20Order.l0 k x1 (y280 ++ y283) x6 (wrap64 (x7 + 1)) x1000 bt246.2) else (none)))) else (none))) else (none))) else (none)) else (none)))))) else (some (x5, x1001))) r) : Ev (fun k => spec_l20Order.l0 k x1 x5 x6 x7 x1000 x1001) r := Ev.step (fun _ => rfl) h
/-- Numbers from 1 to many, so many of them. -/
def Ord (many : Int) (len : Nat) (o : List Int) : Prop := o.length = len ∧ ∀ x, x ∈ o → 1 ≤ x ∧ x ≤ many
theorem ord_put {many k a : Int} {o : List Int} (O : Ord many (k - 1).toNat o) (h1 : 1 ≤ k) (h2 : k ≤ many) (_h3 : 0 ≤ a) (_h4 : a < k) : Ord many (k + 1 - 1).toNat ((([] : List Int) ++ o.take a.toNat ++ [k]) ++ o.drop a.toNat) := by
 constructor
 ·have := O.1
  simp; omega
 ·intro x hx
  simp only [List.nil_append, List.mem_append, List.mem_singleton] at hx
  rcases hx with (hx | rfl) | hx
  ·exact O.2 x (List.mem_of_mem_take hx)
  ·exact ⟨h1, h2⟩
  ·exact O.2 x (List.mem_of_mem_drop hx)
theorem spec_l20Order_l0 {b : List Int} (B : Bts b) {many keep : Int} (hm : many ≤ 100) : ∀ i : Int, i ≤ many + 1 → 1 ≤ i → ∀ (o : List Int) (p : Int), Ord many (i - 1).toNat o → 0 ≤ p → p + 2 * (many + 1 - i) ≤ 900000 →
  ∃ (o' : List Int) (q : Int), Ev (fun k => spec_l20Order.l0 k many o keep i b p) (o', q) ∧ Ord many many.toNat o' ∧ p ≤ q ∧ q ≤ p + 2 * (many + 1 - i) := by
 refine Hd.down ?_
 intro i hi ih h1 o p O h0 hp
 have ol := O.1
 by_cases hlt : i ≤ many
 rotate_left
 ·refine ⟨o, p, spec_l20Order.l0.ev (Ev.neg hlt (Ev.now _)), ?_, by omega, by omega⟩
  rw [show many.toNat = (i - 1).toNat from by omega]; exact O
 have hlen : (o.length : Int) = i - 1 := by omega
 by_cases hk : keep = 0
 ·obtain ⟨a, e, a0, a1⟩ := spec_l20Rd_pick_ev B h0 (by omega) i
  have a1 := a1 h1
  obtain ⟨o', q, e2, O2, q0, q1⟩ := ih (by omega) (by omega) _ (p + 1) (ord_put O h1 hlt a0 a1) (by omega) (by omega)
  refine ⟨o', q, spec_l20Order.l0.ev (Ev.pos hlt (Ev.pos hk (Ev.bind e ?_))), O2, by omega, by omega⟩
  rw [wid (x := i + 1) (by omega) (by omega)]
  refine Ev.bindv rfl (Ev.pos a0 (Ev.pos (by omega) (Ev.bindv rfl (Ev.pos (by simp; omega) (Ev.bindv rfl (Ev.pos (by simp; omega) (Ev.bindv rfl (Ev.bindv rfl (Ev.pos (by simp; omega) ?_)))))))))
  exact e2
 obtain ⟨s, es, _, _⟩ := spec_l20Rd_pick_ev B h0 (by omega) 3
 by_cases hs : s = 0
 rotate_left
 ·obtain ⟨o', q, e2, O2, q0, q1⟩ := ih (by omega) (by omega) _ (p + 1) (ord_put O h1 hlt (a := (o.length : Int)) (by omega) (by omega)) (by omega) (by omega)
  refine ⟨o', q, spec_l20Order.l0.ev (Ev.pos hlt (Ev.neg hk (Ev.bind es (Ev.neg hs ?_)))), O2, by omega, by omega⟩
  rw [wid (x := i + 1) (by omega) (by omega)]
  refine Ev.bindv rfl (Ev.pos (by omega) (Ev.pos (by omega) (Ev.bindv rfl (Ev.pos (by simp; omega) (Ev.bindv rfl (Ev.pos (by simp; omega) (Ev.bindv rfl (Ev.bindv rfl (Ev.pos (by simp; omega) ?_)))))))))
  exact e2
 obtain ⟨a, e, a0, a1⟩ := spec_l20Rd_pick_ev B (p := p + 1) (by omega) (by omega) i
 have a1 := a1 h1
 obtain ⟨o', q, e2, O2, q0, q1⟩ := ih (by omega) (by omega) _ (p + 1 + 1) (ord_put O h1 hlt a0 a1) (by omega) (by omega)
 refine ⟨o', q, spec_l20Order.l0.ev (Ev.pos hlt (Ev.neg hk (Ev.bind es (Ev.pos hs (Ev.bind e ?_))))), O2, by omega, by omega⟩
 rw [wid (x := i + 1) (by omega) (by omega)]
 refine Ev.bindv rfl (Ev.pos a0 (Ev.pos (by omega) (Ev.bindv rfl (Ev.pos (by simp; omega) (Ev.bindv rfl (Ev.pos (by simp; omega) (Ev.bindv rfl (Ev.bindv rfl (Ev.pos (by simp; omega) ?_)))))))))
 exact e2
theorem spec_l20Order_ev {b : List Int} (B : Bts b) {p : Int} (h0 : 0 ≤ p) (h1 : p ≤ 800000) {many : Int} (hm0 : 0 ≤ many) (hm : many ≤ 100) :
  ∃ (o : List Int) (q : Int), Ev (fun k => spec_l20Order.f k b p many) (o, q) ∧ Ord many many.toNat o ∧ p ≤ q ∧ q ≤ p + 300 := by
 obtain ⟨s, es, _, _⟩ := spec_l20Rd_pick_ev B h0 (by omega) 2
 obtain ⟨o, q, e, O, q0, q1⟩ := spec_l20Order_l0 B (keep := s) hm 1 (by omega) (by omega) [] (p + 1) ⟨rfl, fun x hx => by cases hx⟩ (by omega) (by omega)
 refine ⟨o, q, ?_, O, by omega, by omega⟩
 unfold spec_l20Order.f
 exact Ev.bind es e

/-! spec_l20Tree -/
theorem spec_l20Tree.l0.ev {x1 : Int} {x5 : Int} {x6 : List Int} {x7 : List Int} {x8 : Int} {x9 : Int} {x1000 : List Int} {x1001 : Int} {r : List Int × Int} (h : Ev (fun k => if x9 < x5 then ((spec_l20Rd_pick.f k x1000 x1001 x9).bind fun bt301 => (if x8 = 1 then ((spec_l20Rd_pick.f k x1000 bt301.2 2).bind fun bt303 => (if bt303.1 = 0 then (if 0 ≤ x9 then (if x9 < (x6.length : Int) then (if 0 ≤ (wrap64 (x9 - 1)) then (if (wrap64 (x9 - 1)) < (x6.length : Int) then (if 0 ≤ (wrap64 ((rd x6 x9) - 1)) then (if (wrap64 ((rd x6 x9) - 1)) < (x7.length : Int) then (spec_l20Tree.l0 k x1 x5 x6 (x7.set ((wrap64 ((rd x6 x9) - 1)) : Int).toNat (rd x6 (wrap64 (x9 - 1)))) x8 (wrap64 (x9 + 1)) x1000 bt303.2) else (none)) else (none)) else (none)) else (none)) else (none)) else (none)) else (if 0 ≤ x9 then (if x9 < (x6.length : Int) then (if 0 ≤ bt301.1 then (if bt301.1 < (x6.length : Int) then (if 0 ≤ (wrap64 ((rd x6 x9) - 1)) then (if (wrap64 ((rd x6 x9) - 1)) < (x7.length : Int) then (spec_l20Tree.l0 k x1 x5 x6 (x7.set ((wrap64 ((rd x6 x9) - 1)) : Int).toNat (rd x6 bt301.1)) x8 (wrap64 (x9 + 1)) x1000 bt303.2) else (none)) else (none)) else (none)) else (none)) else (none)) else (none)))) else (if 0 ≤ x9 then (if x9 < (x6.length : Int) then (if 0 ≤ bt301.1 then (if bt301.1 < (x6.length : Int) then (if 0 ≤ (wrap64 ((rd x6 x9) - 1)) then (if (wrap64 ((rd x6 x9) - 1)) < (x7.length : Int) then (spec_l20Tree.l0 k x1 x5 x6 (x7.set ((wrap64 ((rd x6 x9) - 1)) : Int).toNat (rd x6 bt301.1)) x8 (wrap64 (x9 + 1)) x1000 bt301.2) else (none)) else (none)) else (none)) else (none)) else (none)) else (none)))) else ((spec_l20Rd_odd.f k x1000 x1001 x1).bind fun bt314 => (if bt314.1 = true then ((spec_l20Rd_pick.f k x1000 bt314.2 4).bind fun bt316 => (if bt316.1 = 0 then (some ((([] : List Int)), bt316.2)) else (if bt316.1 = 1 then (some ((([2, 1, 0] : List Int)), bt316.2)) else (if bt316.1 = 2 then ((spec_l20Rd_pick.f k x1000 bt316.2 x5).bind fun bt324 => (if 0 ≤ bt324.1 then (if bt324.1 < (x7.length : Int) then ((some (x7.set (bt324.1 : Int).toNat 0 : List Int)).bind fun y326 => (if y326.length < 17592186044416 then (some ((y326 ++ [0]), bt324.2)) else (none))) else (none)) else (none))) else ((some (([1, wrap64 (x5 + 1), (-1)] : List Int) : List Int)).bind fun y330 => ((spec_l20Rd_pick.f k x1000 bt316.2 3).bind fun bt333 => (if 0 ≤ bt333.1 then (if bt333.1 < (y330.length : Int) then (if 0 < (x7.length : Int) then (some ((x7.set (0 : Int).toNat (rd y330 bt333.1)), bt333.2)) else (none)) else (none)) else (none)))))))) else (some (x7, bt314.2))))) r) : Ev (fun k => spec_l20Tree.l0 k x1 x5 x6 x7 x8 x9 x1000 x1001) r := Ev.step (fun _ => rfl) h
theorem ord_rd {many : Int} {n : Nat} {o : List Int} (O : Ord many n o) {i : Int} (h0 : 0 ≤ i) (h1 : i < n) : 1 ≤ rd o i ∧ rd o i ≤ many := by
 have := O.1
 unfold rd
 rw [List.getD_eq_getElem?_getD, List.getElem?_eq_getElem (by omega)]
 exact O.2 _ (List.getElem_mem _)
theorem spec_l20Tree_l0 {b : List Int} (B : Bts b) {odd many near : Int} (hm1 : 1 ≤ many) (hm : many ≤ 8) {o : List Int} (O : Ord many many.toNat o) : ∀ i : Int, i ≤ many → 1 ≤ i → ∀ (h : List Int) (p : Int), h.length = many.toNat → 0 ≤ p → p + 2 * (many - i) ≤ 900000 →
  ∃ (h' : List Int) (q : Int), Ev (fun k => spec_l20Tree.l0 k odd many o h near i b p) (h', q) ∧ h'.length ≤ 9 ∧ p ≤ q ∧ q ≤ p + 2 * (many - i) + 4 := by
 refine Hd.down ?_
 intro i hi ih h1 h p hl h0 hp
 have ol := O.1
 by_cases hlt : i < many
 rotate_left
 ·obtain ⟨t, q, et, q0, q1⟩ := spec_l20Rd_odd_ev B h0 (by omega) odd
  cases t with
  | false => exact ⟨h, q, spec_l20Tree.l0.ev (Ev.neg hlt (Ev.bind et (Ev.neg (by simp) (Ev.now _)))), by omega, by omega, by omega⟩
  | true =>
   obtain ⟨c, ec, _, _⟩ := spec_l20Rd_pick_ev B (p := q) (by omega) (by omega) 4
   by_cases c0 : c = 0
   ·exact ⟨_, _, spec_l20Tree.l0.ev (Ev.neg hlt (Ev.bind et (Ev.pos rfl (Ev.bind ec (Ev.pos c0 (Ev.now _)))))), by simp, by omega, by omega⟩
   by_cases c1 : c = 1
   ·exact ⟨_, _, spec_l20Tree.l0.ev (Ev.neg hlt (Ev.bind et (Ev.pos rfl (Ev.bind ec (Ev.neg c0 (Ev.pos c1 (Ev.now _))))))), by simp, by omega, by omega⟩
   by_cases c2 : c = 2
   ·obtain ⟨d, ed, d0, d1⟩ := spec_l20Rd_pick_ev B (p := q + 1) (by omega) (by omega) many
    have d1 := d1 hm1
    exact ⟨_, _, spec_l20Tree.l0.ev (Ev.neg hlt (Ev.bind et (Ev.pos rfl (Ev.bind ec (Ev.neg c0 (Ev.neg c1 (Ev.pos c2 (Ev.bind ed (Ev.pos d0 (Ev.pos (by omega) (Ev.bindv rfl (Ev.pos (by simp; omega) (Ev.now _))))))))))))), by simp; omega, by omega, by omega⟩
   obtain ⟨d, ed, d0, d1⟩ := spec_l20Rd_pick_ev B (p := q + 1) (by omega) (by omega) 3
   have d1 := d1 (by omega)
   exact ⟨_, _, spec_l20Tree.l0.ev (Ev.neg hlt (Ev.bind et (Ev.pos rfl (Ev.bind ec (Ev.neg c0 (Ev.neg c1 (Ev.neg c2 (Ev.bindv rfl (Ev.bind ed (Ev.pos d0 (Ev.pos (by simp; omega) (Ev.pos (by omega) (Ev.now _))))))))))))), by simp; omega, by omega, by omega⟩
 obtain ⟨a, e, a0, a1⟩ := spec_l20Rd_pick_ev B h0 (by omega) i
 have a1 := a1 h1
 have r1 := ord_rd O (i := i) (by omega) (by omega)
 obtain ⟨s, es, _, _⟩ := spec_l20Rd_pick_ev B (p := p + 1) (by omega) (by omega) 2
 by_cases hn : near = 1
 rotate_left
 ·obtain ⟨h', q, e2, l2, q0, q1⟩ := ih hlt (by omega) (h.set (rd o i - 1).toNat (rd o a)) (p + 1) (by simpa using hl) (by omega) (by omega)
  refine ⟨h', q, spec_l20Tree.l0.ev (Ev.pos hlt (Ev.bind e (Ev.neg hn ?_))), l2, by omega, by omega⟩
  rw [wid (x := i + 1) (by omega) (by omega), wid (x := rd o i - 1) (by omega) (by omega)]
  exact Ev.pos (by omega) (Ev.pos (by omega) (Ev.pos (by omega) (Ev.pos (by omega) (Ev.pos (by omega) (Ev.pos (by omega) e2)))))
 by_cases hs : s = 0
 rotate_left
 ·obtain ⟨h', q, e2, l2, q0, q1⟩ := ih hlt (by omega) (h.set (rd o i - 1).toNat (rd o a)) (p + 1 + 1) (by simpa using hl) (by omega) (by omega)
  refine ⟨h', q, spec_l20Tree.l0.ev (Ev.pos hlt (Ev.bind e (Ev.pos hn (Ev.bind es (Ev.neg hs ?_))))), l2, by omega, by omega⟩
  rw [wid (x := i + 1) (by omega) (by omega), wid (x := rd o i - 1) (by omega) (by omega)]
  exact Ev.pos (by omega) (Ev.pos (by omega) (Ev.pos (by omega) (Ev.pos (by omega) (Ev.pos (by omega) (Ev.pos (by omega) e2)))))
 obtain ⟨h', q, e2, l2, q0, q1⟩ := ih hlt (by omega) (h.set (rd o i - 1).toNat (rd o (i - 1))) (p + 1 + 1) (by simpa using hl) (by omega) (by omega)
 refine ⟨h', q, spec_l20Tree.l0.ev (Ev.pos hlt (Ev.bind e (Ev.pos hn (Ev.bind es (Ev.pos hs ?_))))), l2, by omega, by omega⟩
 rw [wid (x := i + 1) (by omega) (by omega), wid (x := i - 1) (by omega) (by omega), wid (x := rd o i - 1) (by omega) (by omega)]
 exact Ev.pos (by omega) (Ev.pos (by omega) (Ev.pos (by omega) (Ev.pos (by omega) (Ev.pos (by omega) (Ev.pos (by omega) e2)))))
theorem spec_l20Tree_ev {b : List Int} (B : Bts b) {p : Int} (h0 : 0 ≤ p) (h1 : p ≤ 700000) (odd : Int) :
  ∃ (h : List Int) (q : Int), Ev (fun k => spec_l20Tree.f k b p odd) (h, q) ∧ h.length ≤ 9 ∧ p ≤ q ∧ q ≤ p + 400 := by
 obtain ⟨m, em, m0, m1⟩ := spec_l20Rd_pick_ev B h0 (by omega) 7
 have m1 := m1 (by omega)
 obtain ⟨o, q, eo, O, q0, q1⟩ := spec_l20Order_ev B (p := p + 1) (by omega) (by omega) (many := 1 + m) (by omega) (by omega)
 obtain ⟨s, es, _, _⟩ := spec_l20Rd_pick_ev B (p := q) (by omega) (by omega) 2
 obtain ⟨h, r, e, hl, r0, r1⟩ := spec_l20Tree_l0 B (odd := odd) (near := s) (many := 1 + m) (by omega) (by omega) O 1 (by omega) (by omega) (List.replicate (1 + m).toNat 0) (q + 1) (by simp) (by omega) (by omega)
 refine ⟨h, r, ?_, hl, by omega, by omega⟩
 unfold spec_l20Tree.f
 refine Ev.bind em ?_
 rw [wid (x := 1 + m) (by omega) (by omega)]
 exact Ev.bind eo (Ev.pos (by omega) (Ev.pos (by omega) (Ev.bind es e)))

/-! spec_l20Fill -/
theorem spec_l20Fill.l0.ev {x1 : List Int} {x3 : Int} {x10 : Int} {x11 : Int} {x1000 : List Int} {x1001 : Int} {r : Int × List Int} (h : Ev (fun k => if x11 < x10 then ((spec_l20Rd_pick.f k x1000 x1001 (wrap64 (x10 - x11))).bind fun bt340 => ((spec_l20Fill.f k x1000 bt340.2 x1 x11 (wrap64 (x11 + bt340.1)) x10).bind fun bt342 => (spec_l20Fill.l0 k bt342.2 x3 x10 (wrap64 ((wrap64 (x11 + bt340.1)) + 1)) x1000 bt342.1))) else (spec_l20Fill.l1 k x1 x3 x10 (wrap64 (x10 + 1)) x1000 x1001)) r) : Ev (fun k => spec_l20Fill.l0 k x1 x3 x10 x11 x1000 x1001) r := Ev.step (fun _ => rfl) h
theorem spec_l20Fill.l1.ev {x1 : List Int} {x3 : Int} {x10 : Int} {x11 : Int} {x1000 : List Int} {x1001 : Int} {r : Int × List Int} (h : Ev (fun k => if x11 ≤ x3 then ((spec_l20Rd_pick.f k x1000 x1001 (wrap64 ((wrap64 (x3 - x11)) + 1))).bind fun bt344 => ((spec_l20Fill.f k x1000 bt344.2 x1 x11 (wrap64 (x11 + bt344.1)) x10).bind fun bt346 => (spec_l20Fill.l1 k bt346.2 x3 x10 (wrap64 ((wrap64 (x11 + bt344.1)) + 1)) x1000 bt346.1))) else (some (x1001, x1))) r) : Ev (fun k => spec_l20Fill.l1 k x1 x3 x10 x11 x1000 x1001) r := Ev.step (fun _ => rfl) h
theorem spec_l20Fill.f.ev {s0_0 : List Int} {s0_1 : Int} {l1 : List Int} {a2 : Int} {a3 : Int} {a4 : Int} {r : Int × List Int} (h : Ev (fun k => if a2 > a3 then (some (s0_1, l1)) else ((spec_l20Rd_pick.f k s0_0 s0_1 (wrap64 ((wrap64 (a3 - a2)) + 1))).bind fun bt337 => (if 0 ≤ (wrap64 ((wrap64 (a2 + bt337.1)) - 1)) then (if (wrap64 ((wrap64 (a2 + bt337.1)) - 1)) < (l1.length : Int) then (spec_l20Fill.l0 k (l1.set ((wrap64 ((wrap64 (a2 + bt337.1)) - 1)) : Int).toNat a4) a3 (wrap64 (a2 + bt337.1)) a2 s0_0 bt337.2) else (none)) else (none)))) r) : Ev (fun k => spec_l20Fill.f k s0_0 s0_1 l1 a2 a3 a4) r := Ev.step (fun _ => rfl) h
/-- What one call on s words is good for. -/
def FillOk (b : List Int) (d : Int) : Prop := ∀ (s low head : Int) (h : List Int) (p : Int), 1 ≤ s → s ≤ d → 1 ≤ low → low + s - 1 ≤ h.length → h.length ≤ 100 → 0 ≤ p → p + 2 * s ≤ 600000 →
 ∃ (q : Int) (h' : List Int), Ev (fun k => spec_l20Fill.f k b p h low (low + s - 1) head) (q, h') ∧ h'.length = h.length ∧ p ≤ q ∧ q ≤ p + 2 * s - 1
theorem spec_l20Fill_l1 {b : List Int} (B : Bts b) {d : Int} (F : FillOk b d) {high root : Int} (hr : 1 ≤ root) (hd : high - root ≤ d) : ∀ i : Int, i ≤ high + 1 → root < i → ∀ (h : List Int) (p : Int), high ≤ h.length → h.length ≤ 100 → 0 ≤ p → p + 2 * (high - i + 1) ≤ 599999 →
  ∃ (q : Int) (h' : List Int), Ev (fun k => spec_l20Fill.l1 k h high root i b p) (q, h') ∧ h'.length = h.length ∧ p ≤ q ∧ q ≤ p + 2 * (high - i + 1) := by
 have key : ∀ (m : Nat) (i : Int), i ≤ high + 1 → root < i → high - i + 1 ≤ m → ∀ (h : List Int) (p : Int), high ≤ h.length → h.length ≤ 100 → 0 ≤ p → p + 2 * (high - i + 1) ≤ 599999 →
  ∃ (q : Int) (h' : List Int), Ev (fun k => spec_l20Fill.l1 k h high root i b p) (q, h') ∧ h'.length = h.length ∧ p ≤ q ∧ q ≤ p + 2 * (high - i + 1) := by
  intro m
  induction m with
  | zero =>
   intro i h1 h2 h3 h p _ _ h0 _
   exact ⟨p, h, spec_l20Fill.l1.ev (Ev.neg (by omega) (Ev.now _)), rfl, by omega, by omega⟩
  | succ m ih =>
   intro i h1 h2 h3 h p hh hh2 h0 hp
   by_cases hle : i ≤ high
   rotate_left
   ·exact ⟨p, h, spec_l20Fill.l1.ev (Ev.neg hle (Ev.now _)), rfl, by omega, by omega⟩
   obtain ⟨r, er, r0, r1⟩ := spec_l20Rd_pick_ev B h0 (by omega) (high - i + 1)
   have r1 := r1 (by omega)
   obtain ⟨q1, hh1, e1, l1, a1, b1⟩ := F (r + 1) i root h (p + 1) (by omega) (by omega) (by omega) (by omega) hh2 (by omega) (by omega)
   obtain ⟨q2, hh3, e2, l2, a2, b2⟩ := ih (i + r + 1) (by omega) (by omega) (by omega) hh1 q1 (by omega) (by omega) (by omega) (by omega)
   refine ⟨q2, hh3, spec_l20Fill.l1.ev (Ev.pos hle ?_), by omega, by omega, by omega⟩
   rw [wid (x := high - i) (by omega) (by omega), wid (x := high - i + 1) (by omega) (by omega)]
   refine Ev.bind er ?_
   rw [wid (x := i + r) (by omega) (by omega), wid (x := i + r + 1) (by omega) (by omega)]
   rw [show i + (r + 1) - 1 = i + r from by omega] at e1
   exact Ev.bind e1 e2
 intro i h1 h2 h p
 exact key (high - i + 1).toNat i h1 h2 (by omega) h p
theorem spec_l20Fill_l0 {b : List Int} (B : Bts b) {d : Int} (F : FillOk b d) {high root : Int} (hh0 : root ≤ high) (hd : high - root ≤ d) : ∀ i : Int, i ≤ root → 1 ≤ i → root - i ≤ d → ∀ (h : List Int) (p : Int), high ≤ h.length → h.length ≤ 100 → 0 ≤ p → p + 2 * (high - i) ≤ 599999 →
  ∃ (q : Int) (h' : List Int), Ev (fun k => spec_l20Fill.l0 k h high root i b p) (q, h') ∧ h'.length = h.length ∧ p ≤ q ∧ q ≤ p + 2 * (high - i) := by
 have key : ∀ (m : Nat) (i : Int), i ≤ root → 1 ≤ i → root - i ≤ d → root - i ≤ m → ∀ (h : List Int) (p : Int), high ≤ h.length → h.length ≤ 100 → 0 ≤ p → p + 2 * (high - i) ≤ 599999 →
  ∃ (q : Int) (h' : List Int), Ev (fun k => spec_l20Fill.l0 k h high root i b p) (q, h') ∧ h'.length = h.length ∧ p ≤ q ∧ q ≤ p + 2 * (high - i) := by
  intro m
  have last : ∀ (i : Int), root ≤ i → 1 ≤ i → i ≤ root → ∀ (h : List Int) (p : Int), high ≤ h.length → h.length ≤ 100 → 0 ≤ p → p + 2 * (high - i) ≤ 599999 →
   ∃ (q : Int) (h' : List Int), Ev (fun k => spec_l20Fill.l0 k h high root i b p) (q, h') ∧ h'.length = h.length ∧ p ≤ q ∧ q ≤ p + 2 * (high - i) := by
   intro i h1 h2 h4 h p hh hh2 h0 hp
   obtain ⟨q, h', e, l, a, b'⟩ := spec_l20Fill_l1 B F (high := high) (root := root) (by omega) hd (root + 1) (by omega) (by omega) h p hh hh2 h0 (by omega)
   refine ⟨q, h', spec_l20Fill.l0.ev (Ev.neg (by omega) ?_), l, a, by omega⟩
   rw [wid (x := root + 1) (by omega) (by omega)]
   exact e
  induction m with
  | zero => intro i h1 h2 _ h3; exact last i (by omega) h2 h1
  | succ m ih =>
   intro i h1 h2 hdi h3 h p hh hh2 h0 hp
   by_cases hlt : i < root
   rotate_left
   ·exact last i (by omega) h2 h1 h p hh hh2 h0 hp
   obtain ⟨r, er, r0, r1⟩ := spec_l20Rd_pick_ev B h0 (by omega) (root - i)
   have r1 := r1 (by omega)
   obtain ⟨q1, hh1, e1, l1, a1, b1⟩ := F (r + 1) i root h (p + 1) (by omega) (by omega) (by omega) (by omega) hh2 (by omega) (by omega)
   obtain ⟨q2, hh3, e2, l2, a2, b2⟩ := ih (i + r + 1) (by omega) (by omega) (by omega) (by omega) hh1 q1 (by omega) (by omega) (by omega) (by omega)
   refine ⟨q2, hh3, spec_l20Fill.l0.ev (Ev.pos hlt ?_), by omega, by omega, by omega⟩
   rw [wid (x := root - i) (by omega) (by omega)]
   refine Ev.bind er ?_
   rw [wid (x := i + r) (by omega) (by omega), wid (x := i + r + 1) (by omega) (by omega)]
   rw [show i + (r + 1) - 1 = i + r from by omega] at e1
   exact Ev.bind e1 e2
 intro i h1 h2 h3 h p
 exact key (root - i).toNat i h1 h2 h3 (by omega) h p
theorem spec_l20Fill_ok {b : List Int} (B : Bts b) : ∀ d : Nat, FillOk b d
 | 0 => fun s low head h p h1 h2 => by omega
 | d + 1 => fun s low head h p h1 h2 h3 h4 h5 h6 h7 => by
  obtain ⟨r, er, r0, r1⟩ := spec_l20Rd_pick_ev B h6 (by omega) s
  have r1 := r1 (by omega)
  obtain ⟨q, h', e, l, a, c⟩ := spec_l20Fill_l0 B (spec_l20Fill_ok B d) (high := low + s - 1) (root := low + r) (by omega) (by omega) low (by omega) h3 (by omega) (h.set (low + r - 1).toNat head) (p + 1) (by rw [List.length_set]; omega) (by rw [List.length_set]; omega) (by omega) (by omega)
  refine ⟨q, h', spec_l20Fill.f.ev (Ev.neg (by omega) ?_), by rw [l, List.length_set], by omega, by omega⟩
  rw [wid (x := low + s - 1 - low) (by omega) (by omega), wid (x := low + s - 1 - low + 1) (by omega) (by omega), show low + s - 1 - low + 1 = s from by omega]
  refine Ev.bind er ?_
  rw [wid (x := low + r) (by omega) (by omega), wid (x := low + r - 1) (by omega) (by omega)]
  exact Ev.pos (by omega) (Ev.pos (by omega) e)

/-! spec_l20Flat -/

theorem spec_l20Flat_ev {b : List Int} (B : Bts b) {p : Int} (h0 : 0 ≤ p) (h1 : p ≤ 500000) (odd : Int) :
  ∃ (h : List Int) (q : Int), Ev (fun k => spec_l20Flat.f k b p odd) (h, q) ∧ h.length ≤ 9 ∧ p ≤ q ∧ q ≤ p + 500 := by
 unfold spec_l20Flat.f
 obtain ⟨c, ec, _, _⟩ := spec_l20Rd_pick_ev B h0 (by omega) 3
 by_cases hc : c = 0
 ·obtain ⟨h, q, e, hl, q0, q1⟩ := spec_l20Tree_ev B (p := p + 1) (by omega) (by omega) odd
  exact ⟨h, q, Ev.bind ec (Ev.pos hc (Ev.bind e (Ev.now _))), hl, by omega, by omega⟩
 obtain ⟨m, em, m0, m1⟩ := spec_l20Rd_pick_ev B (p := p + 1) (by omega) (by omega) 7
 have m1 := m1 (by omega)
 obtain ⟨q, h, e, hl, q0, q1⟩ := spec_l20Fill_ok B 7 (1 + m) 1 0 (List.replicate (1 + m).toNat 0) (p + 1 + 1) (by omega) (by omega) (by omega) (by simp; omega) (by simp; omega) (by omega) (by omega)
 refine ⟨h, q, Ev.bind ec (Ev.neg hc (Ev.bind em ?_)), by rw [hl]; simp; omega, by omega, by omega⟩
 rw [show 1 + (1 + m) - 1 = 1 + m from by omega] at e
 rw [wid (x := 1 + m) (by omega) (by omega)]
 exact Ev.pos (by omega) (Ev.pos (by omega) (Ev.bind e (Ev.now _)))

/-! spec_DrawEagerFor -/

theorem spec_DrawEagerFor_ev {l : List Int} (h : ∀ x ∈ l, (Lit.int .u8 x).wf = true) : ∃ r, Ev (fun k => spec_DrawEagerFor.f k l) r ∧ r.length ≤ 9 := by
 obtain ⟨b, eb, B⟩ := spec_l20Open_eq h
 obtain ⟨r, q, e, hl, _⟩ := spec_l20Flat_ev B (p := 0) (by omega) (by omega) 9
 unfold spec_DrawEagerFor.f
 exact ⟨r, Ev.bindv eb (Ev.bind e (Ev.now _)), hl⟩

theorem laws_FnEagerFor.j0.ev {x3 : List Int} {x4 : ByteArray} {x5 : Bool} {x35 : Bool} {r : Bool} (h : Ev (fun k => if x35 = true then (some false) else (if x5 = true then (laws_FnEagerFor.l0 k x3 x4 0 0 0) else (if x4.toList = ([] : List UInt8) then ((impl_FlatOk.f k x3).bind fun t375 => (if t375 = true then (some false) else ((laws_alive.f k).bind fun t376 => (some t376)))) else (some false)))) r) : Ev (fun k => laws_FnEagerFor.j0 k x3 x4 x5 x35) r := Ev.step (fun _ => rfl) h
theorem laws_FnEagerFor.l0.ev {x3 : List Int} {x4 : ByteArray} {x8 : Int} {x9 : Int} {x10 : Int} {r : Bool} (h : Ev (fun k => if x10 < (x4.size : Int) then (if 0 ≤ x10 then (if (bt x4 x10) = 76 then (laws_FnEagerFor.j2 k x3 x4 x8 x9 x10 true) else (laws_FnEagerFor.j2 k x3 x4 x8 x9 x10 ((bt x4 x10) == 82))) else (none)) else ((impl_RunEager.f (x3.length : Int) x4).bind fun bt377 => (if bt377.2 = true then ((laws_sameInts.f k bt377.1 x3).bind fun t381 => (if t381 = true then (if x8 = (wrap64 ((x3.length : Int) - 1)) then (if x9 = (x3.length : Int) then (some (decide ((x4.size : Int) ≤ (wrap64 ((wrap64 (2 * (x3.length : Int))) - 1))))) else (some false)) else (some false)) else (some false))) else (some false)))) r) : Ev (fun k => laws_FnEagerFor.l0 k x3 x4 x8 x9 x10) r := Ev.step (fun _ => rfl) h
theorem laws_FnEagerFor.j2.ev {x3 : List Int} {x4 : ByteArray} {x8 : Int} {x9 : Int} {x10 : Int} {x63 : Bool} {r : Bool} (h : Ev (fun k => if x63 = true then (if 0 ≤ x10 then (if x10 < (x4.size : Int) then (if (bt x4 x10) = 83 then (laws_FnEagerFor.l0 k x3 x4 (wrap64 (x8 + 1)) (wrap64 (x9 + 1)) (wrap64 (x10 + 1))) else (if (bt x4 x10) = 82 then (laws_FnEagerFor.l0 k x3 x4 (wrap64 (x8 + 1)) (wrap64 (x9 + 1)) (wrap64 (x10 + 1))) else (laws_FnEagerFor.l0 k x3 x4 (wrap64 (x8 + 1)) x9 (wrap64 (x10 + 1))))) else (none)) else (none)) else (if 0 ≤ x10 then (if x10 < (x4.size : Int) then (if (bt x4 x10) = 83 then (laws_FnEagerFor.l0 k x3 x4 x8 (wrap64 (x9 + 1)) (wrap64 (x10 + 1))) else (if (bt x4 x10) = 82 then (laws_FnEagerFor.l0 k x3 x4 x8 (wrap64 (x9 + 1)) (wrap64 (x10 + 1))) else (laws_FnEagerFor.l0 k x3 x4 x8 x9 (wrap64 (x10 + 1))))) else (none)) else (none))) r) : Ev (fun k => laws_FnEagerFor.j2 k x3 x4 x8 x9 x10 x63) r := Ev.step (fun _ => rfl) h
end Go.Proofs.Ytdckgafgidfplaa.QFnEagerFor
