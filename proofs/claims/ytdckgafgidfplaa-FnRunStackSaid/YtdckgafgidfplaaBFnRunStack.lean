/- Contracts of the functions that the statement FnRunStack reaches: what each printed function comes to. -/
import Derived.Test.YtdckgafgidfplaaQFnRunStackx6
import Derived.Test.YtdckgafgidfplaaWSized
import Derived.Test.YtdckgafgidfplaaHdA
import Derived.Test.YtdckgafgidfplaaHdE
namespace Go.Proofs.Ytdckgafgidfplaa.PrintWords
/-- The name by which the printed row calls the word. -/
abbrev sized_ints := @Go.Proofs.YtdckgafgidfplaaW.PrintWords.sized_ints
end Go.Proofs.Ytdckgafgidfplaa.PrintWords
namespace Go.Proofs.Ytdckgafgidfplaa.QFnRunStack
open Go.RowKit Go.Proofs.YtdckgafgidfplaaW.PrintWords Go.Proofs.YtdckgafgidfplaaW.PrintLast Go.Proofs.YtdckgafgidfplaaW.PrintMore
set_option linter.unusedVariables false
set_option linter.unusedSimpArgs false
theorem wid {x : Int} (h : -9223372036854775808 ≤ x) (h' : x ≤ 9223372036854775807) : wrap64 x = x := by unfold wrap64; omega
theorem Ev.pos {α : Type} {c : Prop} [Decidable c] {A B : Nat → Option α} {r : α} (h : c) (e : Ev A r) : Ev (fun k => if c then A k else B k) r := by simpa only [if_pos h] using e
theorem Ev.neg {α : Type} {c : Prop} [Decidable c] {A B : Nat → Option α} {r : α} (h : ¬ c) (e : Ev B r) : Ev (fun k => if c then A k else B k) r := by simpa only [if_neg h] using e
theorem Ev.bindv {α β : Type} {o : Option α} {f : Nat → α → Option β} {a : α} {r : β} (h : o = some a) (k : Ev (fun n => f n a) r) : Ev (fun n => o.bind (f n)) r := by subst h; exact k
theorem Ev.ret {α : Type} {a r : α} (h : a = r) : Ev (fun _ => some a) r := h ▸ Ev.now a
theorem rd_hd {l : List Int} {a : Int} (h : 1 ≤ a) : rd l (a - 1) = Hd.hd l a := Hd.hd_get h
theorem rd_hd1 {l : List Int} {a : Int} (h : 0 ≤ a) : rd l a = Hd.hd l (a + 1) := by rw [← rd_hd (by omega)]; congr 1; omega
theorem mn_mx (a b : Int) : (mn a b = a ∧ mx a b = b ∧ a ≤ b) ∨ (mn a b = b ∧ mx a b = a ∧ b ≤ a) := by
 unfold mn mx
 split <;> split <;> omega
theorem h_or_i64 {a b : Nat} (ha : a < 256) (hb : b < 256) : Go.bits .or .i64 (a : Int) (b : Int) = ((a ||| b : Nat) : Int) :=
 (Go.bits_nat .i64 8 (by decide) (fun n h0 h1 => by rw [Go.IntKind.wrap_i64]; omega) a b (by omega) (by omega)).2
theorem h_shl_one {x : Nat} (h : x ≤ 7) : shl .i64 1 (x : Int) = ((2 ^ x : Nat) : Int) := by
 have : ∀ x : Nat, x < 8 → shl .i64 1 (x : Int) = ((2 ^ x : Nat) : Int) := by decide
 exact this x (by omega)
theorem h_shr_bit {v x : Nat} (h : x ≤ 64) : (Int.tmod (shr .i64 (v : Int) (x : Int)) 2 = 1) ↔ v.testBit x = true := by
 unfold shr
 rw [Int.toNat_natCast, Nat.min_eq_left (by simpa [Go.IntKind.bits] using h), Nat.testBit_eq_decide_div_mod_eq]
 have : ((v : Int) / 2 ^ x) = ((v / 2 ^ x : Nat) : Int) := by simp
 rw [this, Int.tmod_eq_emod_of_nonneg (Int.natCast_nonneg _), decide_eq_true_eq]
 omega
theorem h_shr_nat {v x : Nat} (h : x ≤ 64) : shr .i64 (v : Int) (x : Int) = ((v / 2 ^ x : Nat) : Int) := by
 unfold shr
 rw [Int.toNat_natCast, Nat.min_eq_left (by simpa [Go.IntKind.bits] using h)]
 simp
theorem h_and_i64 {a b : Nat} (ha : a < 512) (hb : b < 512) : Go.bits .and .i64 (a : Int) (b : Int) = ((a &&& b : Nat) : Int) :=
 (Go.bits_nat .i64 9 (by decide) (fun n h0 h1 => by rw [Go.IntKind.wrap_i64]; omega) a b (by omega) (by omega)).1
theorem h_rd_set {P : List Int} {i j : Int} {v : Int} (h0 : 0 ≤ i) (h1 : i < P.length) (hj : 0 ≤ j) : rd (P.set i.toNat v) j = if j = i then v else rd P j := by
 unfold rd
 rw [List.getD_eq_getElem?_getD, List.getElem?_set]
 by_cases e : j = i
 ·subst e
  rw [if_pos rfl, if_pos (by omega), if_pos rfl]; rfl
 ·rw [if_neg (by omega), if_neg e, List.getD_eq_getElem?_getD]
/-- Bytes of a code, as far as they are read. -/
def Bts (b : List Int) : Prop := b.length ≤ 2000 ∧ ∀ i : Int, 0 ≤ rd b i ∧ rd b i ≤ 255
theorem bts_rd {l : List Int} (h : ∀ x, x ∈ l → 0 ≤ x ∧ x ≤ 255) (i : Int) : 0 ≤ rd l i ∧ rd l i ≤ 255 := by
 unfold rd
 rw [List.getD_eq_getElem?_getD]
 by_cases hi : i.toNat < l.length
 ·rw [List.getElem?_eq_getElem hi]; exact h _ (List.getElem_mem hi)
 ·rw [List.getElem?_eq_none (by omega)]; simp
theorem Ev.lit {α : Type} {g : Nat → Option α} {r : α} (K : Nat) (h : ∀ m, g (m + K) = some r) : Ev g r := ⟨K, fun k hk => by obtain ⟨m, rfl⟩ := Nat.exists_eq_add_of_le' hk; exact h m⟩
theorem rd_at {l : List Int} {j : Nat} (h : j < l.length) : rd l (j : Int) = l[j] := by
 simp [rd, List.getD_eq_getElem?_getD, List.getElem?_eq_getElem h]

/-! impl_steps -/
theorem impl_steps.l0.ev {x0 : List Int} {x1 : Int} {x7 : Int} {x8 : Int} {r : Int} (h : Ev (fun k => if x8 < x7 then (if 0 ≤ (wrap64 (x1 - 1)) then (if (wrap64 (x1 - 1)) < (x0.length : Int) then (if (rd x0 (wrap64 (x1 - 1))) = 0 then (some x8) else (impl_steps.l0 k x0 (rd x0 (wrap64 (x1 - 1))) x7 (wrap64 (x8 + 1)))) else (none)) else (none)) else (some (-1))) r) : Ev (fun k => impl_steps.l0 k x0 x1 x7 x8) r := Ev.step (fun _ => rfl) h
theorem impl_steps_l0 {l : List Int} (v : Hd.Vals l) (h8 : l.length ≤ 8) : ∀ (d : Nat) (m w : Int), 0 ≤ m → m + d = l.length → 1 ≤ w → w ≤ l.length →
  Ev (fun k => impl_steps.l0 k l w l.length m) (if Hd.it (Hd.hd l) d w = 0 then m + Hd.depF (Hd.hd l) d w else -1)
 | 0, m, w, h0, hd, h1, h2 => by
  refine impl_steps.l0.ev ?_
  rw [if_neg (show ¬ Hd.it (Hd.hd l) 0 w = 0 from fun e => by have : w = 0 := e; omega)]
  exact Ev.neg (by omega) (Ev.now _)
 | d + 1, m, w, h0, hd, h1, h2 => by
  refine impl_steps.l0.ev ?_
  rw [wid (x := w - 1) (by omega) (by omega), wid (x := m + 1) (by omega) (by omega), rd_hd h1]
  refine Ev.pos (by omega) (Ev.pos (by omega) (Ev.pos (by omega) ?_))
  by_cases hz : Hd.hd l w = 0
  ·refine Ev.pos hz (Ev.ret ?_)
   have : Hd.it (Hd.hd l) (d + 1) w = 0 := by show Hd.it (Hd.hd l) d (Hd.hd l w) = 0; rw [hz]; exact Hd.it_zero (Hd.hd_zero l) d
   rw [if_pos this, Hd.depF, if_pos hz]; simp
  ·refine Ev.neg hz ?_
   have := v w h1 h2
   have ih := impl_steps_l0 v h8 d (m + 1) (Hd.hd l w) (by omega) (by omega) (by omega) (by omega)
   have e : Hd.it (Hd.hd l) (d + 1) w = Hd.it (Hd.hd l) d (Hd.hd l w) := rfl
   rw [e, Hd.depF, if_neg hz]
   have e2 : m + ((Hd.depF (Hd.hd l) d (Hd.hd l w) + 1 : Nat) : Int) = m + 1 + (Hd.depF (Hd.hd l) d (Hd.hd l w) : Nat) := by omega
   rw [e2]; exact ih
theorem impl_steps_ev {l : List Int} (v : Hd.Vals l) (h8 : l.length ≤ 8) {w : Int} (h1 : 1 ≤ w) (h2 : w ≤ l.length) :
  Ev (fun k => impl_steps.f k l w) (if Hd.it (Hd.hd l) l.length w = 0 then (Hd.depF (Hd.hd l) l.length w : Int) else -1) := by
 have := impl_steps_l0 v h8 l.length 0 w (by omega) (by omega) h1 h2
 simp only [Int.zero_add] at this
 exact this

/-! impl_TreeOk -/
theorem impl_TreeOk.j0.ev {x0 : List Int} {x14 : Bool} {r : Bool} (h : Ev (fun k => if x14 = true then (some false) else (impl_TreeOk.l0 k x0 0 x0 (x0.length : Int) 0)) r) : Ev (fun k => impl_TreeOk.j0 k x0 x14) r := Ev.step (fun _ => rfl) h
theorem impl_TreeOk.l0.ev {x0 : List Int} {x3 : Int} {x15 : List Int} {x16 : Int} {x17 : Int} {r : Bool} (h : Ev (fun k => if x17 < x16 then (if 0 ≤ x17 then (if x17 < (x15.length : Int) then (if (rd x15 x17) < 0 then (impl_TreeOk.j2 k x0 x3 (rd x15 x17) x15 x16 x17 true) else (impl_TreeOk.j2 k x0 x3 (rd x15 x17) x15 x16 x17 (decide ((rd x15 x17) > (x0.length : Int))))) else (none)) else (none)) else (impl_TreeOk.l1 k x0 x3 (x0.length : Int) 0)) r) : Ev (fun k => impl_TreeOk.l0 k x0 x3 x15 x16 x17) r := Ev.step (fun _ => rfl) h
theorem impl_TreeOk.j2.ev {x0 : List Int} {x3 : Int} {x5 : Int} {x15 : List Int} {x16 : Int} {x17 : Int} {x28 : Bool} {r : Bool} (h : Ev (fun k => if x28 = true then (some false) else (if x5 = 0 then (impl_TreeOk.l0 k x0 (wrap64 (x3 + 1)) x15 x16 (wrap64 (x17 + 1))) else (impl_TreeOk.l0 k x0 x3 x15 x16 (wrap64 (x17 + 1))))) r) : Ev (fun k => impl_TreeOk.j2 k x0 x3 x5 x15 x16 x17 x28) r := Ev.step (fun _ => rfl) h
theorem impl_TreeOk.l1.ev {x0 : List Int} {x3 : Int} {x35 : Int} {x36 : Int} {r : Bool} (h : Ev (fun k => if x36 < x35 then ((impl_steps.f k x0 (wrap64 (x36 + 1))).bind fun t103 => (if t103 < 0 then (some false) else (impl_TreeOk.l1 k x0 x3 x35 (wrap64 (x36 + 1))))) else (some (x3 == 1))) r) : Ev (fun k => impl_TreeOk.l1 k x0 x3 x35 x36) r := Ev.step (fun _ => rfl) h
theorem impl_TreeOk_l1 {l : List Int} (v : Hd.Vals l) (h8 : l.length ≤ 8) {c : Int} (hc : c = Hd.zeros l l.length) : ∀ i : Int, i ≤ l.length → 0 ≤ i → (∀ a : Int, 1 ≤ a → a ≤ i → Hd.it (Hd.hd l) l.length a = 0) →
  Ev (fun k => impl_TreeOk.l1 k l c l.length i) (Hd.treeB l) := by
 refine Hd.down ?_
 intro i hi ih h0 hb
 refine impl_TreeOk.l1.ev ?_
 by_cases hlt : i < l.length
 ·rw [wid (x := i + 1) (by omega) (by omega)]
  refine Ev.pos hlt (Ev.bind (impl_steps_ev v h8 (by omega) (by omega)) ?_)
  by_cases hz : Hd.it (Hd.hd l) l.length (i + 1) = 0
  ·rw [if_pos hz]
   refine Ev.neg (by omega) (ih hlt (by omega) fun a h1 h2 => ?_)
   by_cases e : a = i + 1
   ·rw [e]; exact hz
   ·exact hb a h1 (by omega)
  ·rw [if_neg hz, Hd.treeB_no (fun t => hz (t.2.back _ (by omega) (by omega)))]
   exact Ev.pos (by omega) (Ev.now _)
 ·refine Ev.neg hlt (Ev.ret ?_)
  have t := Hd.T_iff h8 v (fun a h1 h2 => hb a h1 (by omega))
  by_cases e : Hd.zeros l l.length = 1
  ·rw [Hd.treeB_yes (t.2 e), hc, e]; rfl
  ·rw [Hd.treeB_no (fun x => e (t.1 x)), hc]; simp; omega
theorem impl_TreeOk_l0 {l : List Int} (h8 : l.length ≤ 8) : ∀ i : Int, i ≤ l.length → 0 ≤ i → (∀ a : Int, 1 ≤ a → a ≤ i → 0 ≤ Hd.hd l a ∧ Hd.hd l a ≤ l.length) →
  Ev (fun k => impl_TreeOk.l0 k l (Hd.zeros l i.toNat) l l.length i) (Hd.treeB l) := by
 refine Hd.down ?_
 intro i hi ih h0 hb
 refine impl_TreeOk.l0.ev ?_
 by_cases hlt : i < l.length
 ·have hz := Hd.cnt_le (fun a => decide (Hd.hd l a = 0)) i.toNat
  have hzz : Hd.zeros l (i + 1).toNat = Hd.zeros l i.toNat + if Hd.hd l (i + 1) = 0 then 1 else 0 := by
   rw [show (i + 1).toNat = i.toNat + 1 from by omega]
   show Hd.cnt _ (i.toNat + 1) = _
   rw [Hd.cnt, show ((i.toNat : Int) + 1) = i + 1 from by omega]
   simp [Hd.zeros]
  have hz' : Hd.zeros l i.toNat ≤ i.toNat := hz
  rw [rd_hd1 h0]
  refine Ev.pos hlt (Ev.pos h0 (Ev.pos hlt ?_))
  have no : ¬ (0 ≤ Hd.hd l (i + 1) ∧ Hd.hd l (i + 1) ≤ l.length) → Hd.treeB l = false := fun hn => Hd.treeB_no fun t => hn (t.vals _ (by omega) (by omega))
  by_cases hneg : Hd.hd l (i + 1) < 0
  ·refine Ev.pos hneg (impl_TreeOk.j2.ev (Ev.pos rfl (Ev.ret ?_)))
   rw [no (by omega)]
  ·refine Ev.neg hneg (impl_TreeOk.j2.ev ?_)
   by_cases hbig : Hd.hd l (i + 1) > l.length
   ·refine Ev.pos (by simpa using hbig) (Ev.ret ?_)
    rw [no (by omega)]
   ·refine Ev.neg (by simpa using hbig) ?_
    rw [wid (x := (Hd.zeros l i.toNat : Int) + 1) (by omega) (by omega), wid (x := i + 1) (by omega) (by omega)]
    have next := ih hlt (by omega) (fun a h1 h2 => by
     by_cases e : a = i + 1
     ·rw [e]; omega
     ·exact hb a h1 (by omega))
    rw [hzz] at next
    by_cases h00 : Hd.hd l (i + 1) = 0
    ·rw [if_pos h00] at next
     exact Ev.pos h00 next
    ·rw [if_neg h00] at next
     exact Ev.neg h00 next
 ·refine Ev.neg hlt ?_
  have e : i.toNat = l.length := by omega
  rw [e]
  exact impl_TreeOk_l1 (fun a h1 h2 => hb a h1 (by omega)) h8 rfl 0 (by omega) (by omega) (fun a h1 h2 => by omega)
theorem impl_TreeOk_ev (l : List Int) : Ev (fun k => impl_TreeOk.f k l) (Hd.treeB l) := by
 unfold impl_TreeOk.f
 by_cases h1 : (l.length : Int) < 1
 ·refine Ev.pos h1 (impl_TreeOk.j0.ev (Ev.pos rfl (Ev.ret ?_)))
  exact (Hd.treeB_no fun t => by have := t.2.pos; omega).symm
 ·refine Ev.neg h1 (impl_TreeOk.j0.ev ?_)
  by_cases h8 : (l.length : Int) > 8
  ·refine Ev.pos (by simpa using h8) (Ev.ret ?_)
   exact (Hd.treeB_no fun t => by have := t.1; omega).symm
  ·refine Ev.neg (by simpa using h8) ?_
   exact impl_TreeOk_l0 (by omega) 0 (by omega) (by omega) (fun a h1 h2 => by omega)

/-! laws_alive -/

theorem alive_one : Hd.treeB [0] = true := by
 have one : ∀ a : Int, 1 ≤ a → a ≤ ([0] : List Int).length → a = 1 := fun a h1 h2 => by simp at h2; omega
 exact Hd.treeB_yes ((Hd.T_iff (l := [0]) (by decide) (fun a h1 h2 => by rw [one a h1 h2]; decide) (fun a h1 h2 => by rw [one a h1 h2]; decide)).2 (by decide))
theorem alive_two : Hd.treeB [1] = false := Hd.treeB_no fun t => by
 have := t.2.not_own (a := 1) (by simp)
 exact this (by decide)
theorem laws_alive_ev : Ev (fun k => laws_alive.f k) true := by
 unfold laws_alive.f
 refine Ev.bind (impl_TreeOk_ev [0]) (Ev.pos alive_one (Ev.bind (impl_TreeOk_ev [1]) (Ev.ret ?_)))
 rw [alive_two]; rfl

/-! spec_l1In -/

theorem spec_l1In_eq (a b c : Int) : spec_l1In.f a b c = some (decide (b ≤ a ∧ a ≤ c)) := by
 unfold spec_l1In.f
 by_cases h : a ≥ b
 ·rw [if_pos h]; simp [h]
 ·rw [if_neg h]; simp; intro; omega

/-! spec_l6Run -/
theorem spec_l6Run.l0.ev {x0 : Int} {x1 : ByteArray} {x6 : List Int} {x7 : List Int} {x8 : Int} {x9 : Int} {r : List Int × Bool} (h : Ev (fun k => if x9 < (x1.size : Int) then (if 0 ≤ x9 then (if (bt x1 x9) = 83 then (spec_l6Run.j1 k x0 x1 x6 x7 x8 x9 (wrap64 ((x7.length : Int) - 1)) (decide (x8 ≤ x0))) else (spec_l6Run.j1 k x0 x1 x6 x7 x8 x9 (wrap64 ((x7.length : Int) - 1)) false)) else (none)) else (if (x7.length : Int) = 1 then (some (x6, decide (x8 > x0))) else (some (x6, false)))) r) : Ev (fun k => spec_l6Run.l0 k x0 x1 x6 x7 x8 x9) r := Ev.step (fun _ => rfl) h
theorem spec_l6Run.j1.ev {x0 : Int} {x1 : ByteArray} {x6 : List Int} {x7 : List Int} {x8 : Int} {x9 : Int} {x10 : Int} {x24 : Bool} {r : List Int × Bool} (h : Ev (fun k => if x24 = true then ((some (([x8] : List Int) : List Int)).bind fun y118 => (if x7.length + y118.length < 17592186044416 then (spec_l6Run.l0 k x0 x1 x6 (x7 ++ y118) (wrap64 (x8 + 1)) (wrap64 (x9 + 1))) else (none))) else (if 0 ≤ x9 then (if x9 < (x1.size : Int) then (if (bt x1 x9) = 76 then (spec_l6Run.j2 k x0 x1 x6 x7 x8 x9 x10 (decide (x10 ≥ 1))) else (spec_l6Run.j2 k x0 x1 x6 x7 x8 x9 x10 false)) else (none)) else (none))) r) : Ev (fun k => spec_l6Run.j1 k x0 x1 x6 x7 x8 x9 x10 x24) r := Ev.step (fun _ => rfl) h
theorem spec_l6Run.j2.ev {x0 : Int} {x1 : ByteArray} {x6 : List Int} {x7 : List Int} {x8 : Int} {x9 : Int} {x10 : Int} {x40 : Bool} {r : List Int × Bool} (h : Ev (fun k => if x40 = true then (if 0 ≤ (wrap64 (x10 - 1)) then (if (wrap64 (x10 - 1)) < (x7.length : Int) then (if 0 ≤ x10 then (if x10 < (x7.length : Int) then (if 0 ≤ (wrap64 ((rd x7 (wrap64 (x10 - 1))) - 1)) then (if (wrap64 ((rd x7 (wrap64 (x10 - 1))) - 1)) < (x6.length : Int) then ((some (([] : List Int) : List Int)).bind fun y127 => (if (wrap64 (x10 - 1)) ≤ (x7.length : Int) then ((some (x7.take ((wrap64 (x10 - 1)) : Int).toNat : List Int)).bind fun y130 => (if y127.length + y130.length < 17592186044416 then ((some (y127 ++ y130 : List Int)).bind fun y134 => ((some (([rd x7 x10] : List Int) : List Int)).bind fun y138 => (if y134.length + y138.length < 17592186044416 then (spec_l6Run.l0 k x0 x1 (x6.set ((wrap64 ((rd x7 (wrap64 (x10 - 1))) - 1)) : Int).toNat (rd x7 x10)) (y134 ++ y138) x8 (wrap64 (x9 + 1))) else (none)))) else (none))) else (none))) else (none)) else (none)) else (none)) else (none)) else (none)) else (none)) else (if 0 ≤ x9 then (if x9 < (x1.size : Int) then (if (bt x1 x9) = 82 then (if x10 ≥ 1 then (if 0 ≤ x10 then (if x10 < (x7.length : Int) then (if 0 ≤ (wrap64 (x10 - 1)) then (if (wrap64 (x10 - 1)) < (x7.length : Int) then (if 0 ≤ (wrap64 ((rd x7 x10) - 1)) then (if (wrap64 ((rd x7 x10) - 1)) < (x6.length : Int) then ((some (([] : List Int) : List Int)).bind fun y147 => (if x10 ≤ (x7.length : Int) then ((some (x7.take (x10 : Int).toNat : List Int)).bind fun y150 => (if y147.length + y150.length < 17592186044416 then (spec_l6Run.l0 k x0 x1 (x6.set ((wrap64 ((rd x7 x10) - 1)) : Int).toNat (rd x7 (wrap64 (x10 - 1)))) (y147 ++ y150) x8 (wrap64 (x9 + 1))) else (none))) else (none))) else (none)) else (none)) else (none)) else (none)) else (none)) else (none)) else (some ((([] : List Int)), false))) else (some ((([] : List Int)), false))) else (none)) else (none))) r) : Ev (fun k => spec_l6Run.j2 k x0 x1 x6 x7 x8 x9 x10 x40) r := Ev.step (fun _ => rfl) h
theorem bts_drop (a1 : ByteArray) (i : Int) (h0 : 0 ≤ i) (h : i < (a1.size : Int)) : (bytesOf a1).drop i.toNat = bt a1 i :: (bytesOf a1).drop (i + 1).toNat := by
 have hl : i.toNat < (bytesOf a1).length := by rw [bytesOf_length]; omega
 rw [List.drop_eq_getElem_cons hl, show (i + 1).toNat = i.toNat + 1 by omega]
 have e : (bytesOf a1)[i.toNat] = rd (bytesOf a1) i := by rw [rd, List.getD_eq_getElem?_getD, List.getElem?_eq_getElem hl]; rfl
 rw [e, rd_bytesOf]
def l6end (n : Nat) : Option Hd.St → List Int × Bool
 | none => ([], false)
 | some s => (s.hs, decide ((s.ws.length : Int) = 1) && decide (s.nx + 1 > (n : Int)))
theorem low_rd {s : Hd.St} (h : 2 ≤ s.ws.length) : rd s.ws ((s.ws.length : Int) - 1 - 1) = Hd.lowW s := by rw [rd, Hd.lowW, show ((s.ws.length : Int) - 1 - 1).toNat = s.ws.length - 2 by omega]
theorem top_rd {s : Hd.St} (h : 2 ≤ s.ws.length) : rd s.ws ((s.ws.length : Int) - 1) = Hd.topW s := by rw [rd, Hd.topW, show ((s.ws.length : Int) - 1).toNat = s.ws.length - 1 by omega]
theorem move_83 (s : Hd.St) : Hd.moveS 83 s = Hd.pushS s := if_pos rfl
theorem move_short {s : Hd.St} {m : Int} (c : m ≠ 83) (h : s.ws.length < 2) : Hd.moveS m s = none := by rw [Hd.moveS, if_neg c, if_pos h]
theorem move_76 {s : Hd.St} (h : 2 ≤ s.ws.length) : Hd.moveS 76 s = some (Hd.leftS s) := by rw [Hd.moveS, if_neg (by omega), if_neg (by omega), if_pos rfl]
theorem move_82 {s : Hd.St} (h : 2 ≤ s.ws.length) : Hd.moveS 82 s = some (Hd.rightS s) := by rw [Hd.moveS, if_neg (by omega), if_neg (by omega), if_neg (by omega), if_pos rfl]
theorem move_none {s : Hd.St} {m : Int} (c : m ≠ 83) (c1 : m ≠ 76) (c2 : m ≠ 82) : Hd.moveS m s = none := by
 simp [Hd.moveS, c, c1, c2]
theorem take_last {l : List Int} (h : 2 ≤ l.length) : l.take (l.length - 1) = l.take (l.length - 2) ++ [l.getD (l.length - 2) 0] := by
 rw [show l.length - 1 = (l.length - 2) + 1 by omega, List.take_succ_eq_append_getElem (by omega), List.getD_eq_getElem?_getD, List.getElem?_eq_getElem (by omega)]; rfl
theorem spec_l6Run_l0 {n : Nat} {a1 : ByteArray} (hs : a1.size ≤ 140737488351232) : ∀ i : Int, i ≤ (a1.size : Int) → 0 ≤ i → ∀ s : Hd.St, s.OK n → Ev (fun k => spec_l6Run.l0 k n a1 s.hs s.ws (s.nx + 1) i) (l6end n (Hd.runM ((bytesOf a1).drop i.toNat) s)) := by
 refine Hd.down ?_
 intro i hi ih h0 s o
 have hl := o.len; have h8 := o.n8; have hn0 := o.nx0; have hn1 := o.nx1; have hw := o.wl
 refine spec_l6Run.l0.ev ?_
 by_cases hlt : i < (a1.size : Int)
 ·refine Ev.pos hlt (Ev.pos h0 ?_)
  rw [bts_drop a1 i h0 hlt]
  simp only [Hd.runM]
  rw [wid (x := (s.ws.length : Int) - 1) (by omega) (by omega)]
  by_cases c : bt a1 i = 83
  ·rw [c, move_83]
   refine Ev.pos rfl (spec_l6Run.j1.ev ?_)
   by_cases hn : s.nx + 1 ≤ n
   ·have e : Hd.pushS s = some ⟨s.ws ++ [s.nx + 1], s.nx + 1, s.hs, if s.dp ≤ (s.ws.length : Int) + 1 then (s.ws.length : Int) + 1 else s.dp⟩ := if_neg (by omega)
    refine Ev.pos (by simp [hn]) (Ev.bindv rfl (Ev.pos (by simp; omega) ?_))
    rw [wid (x := s.nx + 1 + 1) (by omega) (by omega), wid (x := i + 1) (by omega) (by omega), e]
    exact ih hlt (by omega) _ (o.push e)
   ·have e : Hd.pushS s = none := if_pos (by omega)
    rw [e]
    refine Ev.neg (by simp [hn]) (Ev.pos h0 (Ev.pos hlt (Ev.neg (by omega) ?_)))
    exact spec_l6Run.j2.ev (Ev.neg (by simp) (Ev.pos h0 (Ev.pos hlt (Ev.neg (by omega) (Ev.now _)))))
  ·refine Ev.neg c (spec_l6Run.j1.ev (Ev.neg (by simp) (Ev.pos h0 (Ev.pos hlt ?_))))
   by_cases h2 : 2 ≤ s.ws.length
   ·have ol := o.low h2
    have ot := o.top (by omega)
    by_cases c1 : bt a1 i = 76
    ·rw [c1, move_76 h2]
     refine Ev.pos rfl (spec_l6Run.j2.ev (Ev.pos (by simp; omega) ?_))
     rw [wid (x := (s.ws.length : Int) - 1 - 1) (by omega) (by omega), low_rd h2, top_rd h2, wid (x := Hd.lowW s - 1) (by omega) (by omega), wid (x := i + 1) (by omega) (by omega)]
     refine Ev.pos (by omega) (Ev.pos (by omega) (Ev.pos (by omega) (Ev.pos (by omega) (Ev.pos (by omega) (Ev.pos (by omega) (Ev.bindv rfl (Ev.pos (by omega) (Ev.bindv rfl (Ev.pos (by simp; omega) (Ev.bindv rfl (Ev.bindv rfl (Ev.pos (by simp; omega) ?_))))))))))))
     rw [List.nil_append, show ((s.ws.length : Int) - 1 - 1).toNat = s.ws.length - 2 by omega]
     exact ih hlt (by omega) _ (o.left h2)
    ·refine Ev.neg c1 (spec_l6Run.j2.ev (Ev.neg (by simp) (Ev.pos h0 (Ev.pos hlt ?_))))
     by_cases c2 : bt a1 i = 82
     ·rw [c2, move_82 h2]
      refine Ev.pos rfl (Ev.pos (by omega) ?_)
      rw [wid (x := (s.ws.length : Int) - 1 - 1) (by omega) (by omega), low_rd h2, top_rd h2, wid (x := Hd.topW s - 1) (by omega) (by omega), wid (x := i + 1) (by omega) (by omega)]
      refine Ev.pos (by omega) (Ev.pos (by omega) (Ev.pos (by omega) (Ev.pos (by omega) (Ev.pos (by omega) (Ev.pos (by omega) (Ev.bindv rfl (Ev.pos (by omega) (Ev.bindv rfl (Ev.pos (by simp; omega) ?_)))))))))
      rw [List.nil_append, show ((s.ws.length : Int) - 1).toNat = s.ws.length - 1 by omega, take_last h2]
      exact ih hlt (by omega) _ (o.right h2)
     ·rw [move_none c c1 c2]
      exact Ev.neg c2 (Ev.now _)
   ·rw [move_short c (by omega)]
    by_cases c1 : bt a1 i = 76
    ·refine Ev.pos c1 (spec_l6Run.j2.ev (Ev.neg (by simp; omega) (Ev.pos h0 (Ev.pos hlt (Ev.neg (by omega) (Ev.now _))))))
    ·refine Ev.neg c1 (spec_l6Run.j2.ev (Ev.neg (by simp) (Ev.pos h0 (Ev.pos hlt ?_))))
     by_cases c2 : bt a1 i = 82
     ·exact Ev.pos c2 (Ev.neg (by omega) (Ev.now _))
     ·exact Ev.neg c2 (Ev.now _)
 ·have e : (bytesOf a1).drop i.toNat = [] := List.drop_eq_nil_of_le (by rw [bytesOf_length]; omega)
  rw [e]
  refine Ev.neg hlt ?_
  simp only [Hd.runM, l6end]
  by_cases c : (s.ws.length : Int) = 1
  ·refine Ev.pos c (Ev.ret ?_); simp [c]
  ·refine Ev.neg c (Ev.ret ?_); simp [c]
theorem spec_l6Run_ev {n : Nat} (h8 : n ≤ 8) {a1 : ByteArray} (hs : a1.size ≤ 140737488351232) : Ev (fun k => spec_l6Run.f k n a1) (l6end n (Hd.runM (bytesOf a1) (Hd.St.start n))) := by
 unfold spec_l6Run.f
 refine Ev.pos (by omega) (Ev.pos (by omega) ?_)
 exact spec_l6Run_l0 hs 0 (by omega) (by omega) (Hd.St.start n) (Hd.St.OK.start h8)

/-! spec_RunStack -/

theorem spec_RunStack_ev (a0 : Int) {a1 : ByteArray} (hs : a1.size ≤ 140737488351232) : Ev (fun k => spec_RunStack.f k a0 a1) (Mach.runF a0 a1) := by
 unfold spec_RunStack.f Mach.runF Hd.ranS
 by_cases h : a0 < 1 ∨ 8 < a0
 ·rw [if_pos h]
  refine Ev.bindv (spec_l1In_eq _ _ _) (Ev.neg (by simp; omega) (Ev.now _))
 ·rw [if_neg h]
  obtain ⟨n, rfl⟩ : ∃ n : Nat, a0 = n := ⟨a0.toNat, by omega⟩
  refine Ev.bindv (spec_l1In_eq _ _ _) (Ev.pos (by simp; omega) (Ev.bind (spec_l6Run_ev (by omega) hs) ?_))
  rw [Int.toNat_natCast]
  cases Hd.runM (bytesOf a1) (Hd.St.start n) with
  | none => exact Ev.neg (by simp [l6end]) (Ev.now _)
  | some s =>
   simp only [l6end, Option.bind_some]
   by_cases c : s.nx < n ∨ s.ws.length ≠ 1
   ·rw [if_pos c]; exact Ev.neg (by simp; omega) (Ev.now _)
   ·rw [if_neg c]; exact Ev.pos (by simp; omega) (Ev.now _)

/-! impl_RunStack -/

theorem runF_len (a0 : Int) (a1 : ByteArray) : (Mach.runF a0 a1).1.length ≤ 8 := by
 unfold Mach.runF Hd.ranS
 by_cases h : a0 < 1 ∨ 8 < a0
 ·rw [if_pos h]; simp
 ·rw [if_neg h]
  cases e : Hd.runM (bytesOf a1) (Hd.St.start a0.toNat) with
  | none => simp
  | some s =>
   have o := (Hd.St.OK.start (n := a0.toNat) (by omega)).run e
   have := o.len; have := o.n8
   simp only [Option.bind_some]
   by_cases c : s.nx < a0 ∨ s.ws.length ≠ 1
   ·rw [if_pos c]; simp
   ·rw [if_neg c]; simp only; omega
theorem impl_RunStack_eq (a0 : Int) {a1 : ByteArray} (hs : a1.size ≤ 140737488351232) : impl_RunStack.f a0 a1 = some (Mach.runF a0 a1) := if_pos hs

/-! spec_l20Open -/

theorem spec_l20Open_eq {l : List Int} (h : ∀ x ∈ l, (Lit.int .u8 x).wf = true) : ∃ b, spec_l20Open.f l = some (b, 0) ∧ Bts b := by
 have hb : ∀ x, x ∈ l → 0 ≤ x ∧ x ≤ 255 := fun x hx => by
  have := h x hx
  simpa [Lit.wf, IntKind.min, IntKind.max, IntKind.signed, IntKind.bits] using this
 unfold spec_l20Open.f
 by_cases hl : (l.length : Int) > 2000
 ·rw [if_pos hl, if_pos (by omega)]
  exact ⟨_, rfl, by simp; omega, bts_rd fun x hx => hb x (List.mem_of_mem_take hx)⟩
 ·rw [if_neg hl]
  exact ⟨_, rfl, by omega, bts_rd hb⟩

/-! spec_l20Rd_pick -/
theorem spec_l20Rd_pick.j0.ev {x1 : Int} {x24 : Bool} {x1000 : List Int} {x1001 : Int} {r : Int × Int} (h : Ev (fun k => if x24 = true then (some (0, x1001)) else (if (wrap64 (x1001 - 1)) < (x1000.length : Int) then (if 0 ≤ (wrap64 (x1001 - 1)) then (if x1 = 0 then (none) else (some (Int.tmod (wrap64 (rd x1000 (wrap64 (x1001 - 1)))) x1, x1001))) else (none)) else (if (x1000.length : Int) = 0 then (none) else (if 0 ≤ (Int.tmod (wrap64 (x1001 - 1)) (x1000.length : Int)) then (if (Int.tmod (wrap64 (x1001 - 1)) (x1000.length : Int)) < (x1000.length : Int) then (if 0 ≤ (Int.tmod (wrap64 ((wrap64 ((wrap64 (x1001 - 1)) * 7)) + 3)) (x1000.length : Int)) then (if (Int.tmod (wrap64 ((wrap64 ((wrap64 (x1001 - 1)) * 7)) + 3)) (x1000.length : Int)) < (x1000.length : Int) then (if x1 = 0 then (none) else (some (Int.tmod (Go.bits .xor .i64 (wrap64 ((wrap64 ((wrap64 ((wrap64 ((wrap64 (rd x1000 (Int.tmod (wrap64 (x1001 - 1)) (x1000.length : Int)))) * 131)) + (wrap64 ((wrap64 (rd x1000 (Int.tmod (wrap64 ((wrap64 ((wrap64 (x1001 - 1)) * 7)) + 3)) (x1000.length : Int)))) * 1117)))) + (wrap64 ((wrap64 (x1001 - 1)) * 29)))) + (wrap64 ((wrap64 (Int.tdiv (wrap64 (x1001 - 1)) (x1000.length : Int))) * 53)))) (wrap64 (Int.tdiv (wrap64 ((wrap64 ((wrap64 ((wrap64 ((wrap64 (rd x1000 (Int.tmod (wrap64 (x1001 - 1)) (x1000.length : Int)))) * 131)) + (wrap64 ((wrap64 (rd x1000 (Int.tmod (wrap64 ((wrap64 ((wrap64 (x1001 - 1)) * 7)) + 3)) (x1000.length : Int)))) * 1117)))) + (wrap64 ((wrap64 (x1001 - 1)) * 29)))) + (wrap64 ((wrap64 (Int.tdiv (wrap64 (x1001 - 1)) (x1000.length : Int))) * 53)))) 64))) x1, x1001))) else (none)) else (none)) else (none)) else (none))))) r) : Ev (fun k => spec_l20Rd_pick.j0 k x1 x24 x1000 x1001) r := Ev.step (fun _ => rfl) h
theorem bits_xor_nat (k : Go.IntKind) (j : Nat) (hj : j ≤ k.bits) (hk : ∀ n : Int, 0 ≤ n → n < 2 ^ j → k.wrap n = n) (a b : Nat) (ha : a < 2 ^ j) (hb : b < 2 ^ j) : Go.bits .xor k a b = ((a ^^^ b : Nat) : Int) := by
 have hp : 2 ^ j ≤ 2 ^ k.bits := Nat.pow_le_pow_right (by decide) hj
 have ha' : a % 2 ^ k.bits = a := Nat.mod_eq_of_lt (Nat.lt_of_lt_of_le ha hp)
 have hb' : b % 2 ^ k.bits = b := Nat.mod_eq_of_lt (Nat.lt_of_lt_of_le hb hp)
 simp only [Go.bits, BitVec.ofInt_natCast, BitVec.toNat_xor, BitVec.toNat_ofNat, ha', hb']
 refine hk _ (Int.natCast_nonneg _) ?_
 exact_mod_cast Nat.xor_lt_two_pow ha hb
theorem h_xor_i64 {a b : Nat} (ha : a < 2 ^ 40) (hb : b < 2 ^ 40) : Go.bits .xor .i64 (a : Int) (b : Int) = ((a ^^^ b : Nat) : Int) :=
 bits_xor_nat .i64 40 (by decide) (fun n h0 h1 => by rw [Go.IntKind.wrap_i64]; omega) a b ha hb
theorem xor_nonneg {x : Int} (h0 : 0 ≤ x) (h1 : x < 1000000000) : 0 ≤ Go.bits .xor .i64 x (Int.tdiv x 64) ∧ Go.bits .xor .i64 x (Int.tdiv x 64) < 2 ^ 40 := by
 obtain ⟨a, rfl⟩ := Int.eq_ofNat_of_zero_le h0
 have : Int.tdiv (a : Int) 64 = ((a / 64 : Nat) : Int) := by
  rw [Int.tdiv_eq_ediv_of_nonneg (by omega)]; simp
 rw [this, h_xor_i64 (by omega) (by omega)]
 have := Nat.xor_lt_two_pow (n := 40) (x := a) (y := a / 64) (by omega) (by omega)
 omega
theorem spec_l20Rd_pick_ev {b : List Int} (B : Bts b) {p : Int} (h0 : 0 ≤ p) (h1 : p ≤ 1000000) (n : Int) : ∃ r : Int, Ev (fun k => spec_l20Rd_pick.f k b p n) (r, p + 1) ∧ 0 ≤ r ∧ (1 ≤ n → r < n) := by
 unfold spec_l20Rd_pick.f
 rw [wid (x := p + 1) (by omega) (by omega)]
 by_cases hn : n < 1
 ·exact ⟨0, Ev.pos hn (spec_l20Rd_pick.j0.ev (Ev.pos rfl (Ev.now _))), by omega, by omega⟩
 by_cases hb : b.length = 0
 ·refine ⟨0, Ev.neg hn ?_, by omega, by omega⟩
  rw [show ((b.length : Int) == 0) = true from by simp [hb]]
  exact spec_l20Rd_pick.j0.ev (Ev.pos rfl (Ev.now _))
 have hlen := B.1
 have key : ∃ r : Int, Ev (fun k => spec_l20Rd_pick.j0 k n false b (p + 1)) (r, p + 1) ∧ 0 ≤ r ∧ (1 ≤ n → r < n) := by
  by_cases hlt : p < b.length
  ·refine ⟨Int.tmod (rd b p) n, spec_l20Rd_pick.j0.ev (Ev.neg (by simp) ?_), Int.tmod_nonneg _ (B.2 p).1, fun h => Int.tmod_lt_of_pos _ (by omega)⟩
   have := B.2 p
   rw [wid (x := p + 1 - 1) (by omega) (by omega), show p + 1 - 1 = p from by omega, wid (x := rd b p) (by omega) (by omega)]
   exact Ev.pos hlt (Ev.pos h0 (Ev.neg (by omega) (Ev.now _)))
  ·have t0 : 0 ≤ Int.tmod p b.length := Int.tmod_nonneg _ h0
   have t1 : Int.tmod p b.length < b.length := Int.tmod_lt_of_pos _ (by omega)
   have u0 : 0 ≤ Int.tmod (p * 7 + 3) b.length := Int.tmod_nonneg _ (by omega)
   have u1 : Int.tmod (p * 7 + 3) b.length < b.length := Int.tmod_lt_of_pos _ (by omega)
   have v0 : 0 ≤ Int.tdiv p b.length := Int.tdiv_nonneg h0 (by omega)
   have v1 : Int.tdiv p b.length ≤ p := by
    rw [Int.tdiv_eq_ediv_of_nonneg h0]
    exact Int.ediv_le_self _ h0
   have b1 := B.2 (Int.tmod p b.length)
   have b2 := B.2 (Int.tmod (p * 7 + 3) b.length)
   generalize e1 : rd b (Int.tmod p b.length) = y1 at *
   generalize e2 : rd b (Int.tmod (p * 7 + 3) b.length) = y2 at *
   have hx0 : 0 ≤ y1 * 131 + y2 * 1117 + p * 29 + Int.tdiv p b.length * 53 := by omega
   have hx1 : y1 * 131 + y2 * 1117 + p * 29 + Int.tdiv p b.length * 53 < 1000000000 := by omega
   have hx := xor_nonneg hx0 hx1
   refine ⟨Int.tmod (Go.bits .xor .i64 (y1 * 131 + y2 * 1117 + p * 29 + Int.tdiv p b.length * 53) (Int.tdiv (y1 * 131 + y2 * 1117 + p * 29 + Int.tdiv p b.length * 53) 64)) n, spec_l20Rd_pick.j0.ev (Ev.neg (by simp) ?_), Int.tmod_nonneg _ hx.1, fun h => Int.tmod_lt_of_pos _ (by omega)⟩
   have d0 : 0 ≤ Int.tdiv (y1 * 131 + y2 * 1117 + p * 29 + Int.tdiv p b.length * 53) 64 := Int.tdiv_nonneg hx0 (by omega)
   have d1 : Int.tdiv (y1 * 131 + y2 * 1117 + p * 29 + Int.tdiv p b.length * 53) 64 ≤ y1 * 131 + y2 * 1117 + p * 29 + Int.tdiv p b.length * 53 := by
    rw [Int.tdiv_eq_ediv_of_nonneg hx0]
    exact Int.ediv_le_self _ hx0
   rw [wid (x := p + 1 - 1) (by omega) (by omega), show p + 1 - 1 = p from by omega, wid (x := p * 7) (by omega) (by omega), wid (x := p * 7 + 3) (by omega) (by omega), e1, e2]
   rw [wid (x := y1) (by omega) (by omega), wid (x := y2) (by omega) (by omega), wid (x := y1 * 131) (by omega) (by omega), wid (x := y2 * 1117) (by omega) (by omega), wid (x := y1 * 131 + y2 * 1117) (by omega) (by omega), wid (x := p * 29) (by omega) (by omega), wid (x := y1 * 131 + y2 * 1117 + p * 29) (by omega) (by omega)]
   rw [wid (x := Int.tdiv p b.length) (by omega) (by omega), wid (x := Int.tdiv p b.length * 53) (by omega) (by omega), wid (x := y1 * 131 + y2 * 1117 + p * 29 + Int.tdiv p b.length * 53) (by omega) (by omega)]
   rw [wid (x := Int.tdiv (y1 * 131 + y2 * 1117 + p * 29 + Int.tdiv p b.length * 53) 64) (by omega) (by omega)]
   exact Ev.neg hlt (Ev.neg (by omega) (Ev.pos t0 (Ev.pos t1 (Ev.pos u0 (Ev.pos u1 (Ev.neg (by omega) (Ev.now _)))))))
 obtain ⟨r, e, h2, h3⟩ := key
 refine ⟨r, Ev.neg hn ?_, h2, h3⟩
 rw [show ((b.length : Int) == 0) = false from by simpa using hb]
 exact e

/-! spec_l20Rd_odd -/

theorem spec_l20Rd_odd_ev {b : List Int} (B : Bts b) {p : Int} (h0 : 0 ≤ p) (h1 : p ≤ 1000000) (n : Int) : ∃ (r : Bool) (q : Int), Ev (fun k => spec_l20Rd_odd.f k b p n) (r, q) ∧ p ≤ q ∧ q ≤ p + 1 := by
 unfold spec_l20Rd_odd.f
 by_cases hn : n > 0
 ·obtain ⟨r, e, _, _⟩ := spec_l20Rd_pick_ev B h0 h1 n
  exact ⟨_, _, Ev.pos hn (Ev.bind e (Ev.now _)), by omega, by omega⟩
 ·exact ⟨_, _, Ev.neg hn (Ev.now _), by omega, by omega⟩

/-! spec_l20Moves -/
theorem spec_l20Moves.l0.ev {x5 : ByteArray} {x6 : Int} {x7 : Int} {x1000 : List Int} {x1001 : Int} {r : ByteArray × Int} (h : Ev (fun k => if x7 > 0 then (spec_l20Moves.j1 k x5 x6 x7 true x1000 x1001) else (spec_l20Moves.j1 k x5 x6 x7 (decide (x6 > 1)) x1000 x1001)) r) : Ev (fun k => spec_l20Moves.l0 k x5 x6 x7 x1000 x1001) r := Ev.step (fun _ => rfl) h
theorem spec_l20Moves.j1.ev {x5 : ByteArray} {x6 : Int} {x7 : Int} {x15 : Bool} {x1000 : List Int} {x1001 : Int} {r : ByteArray × Int} (h : Ev (fun k => if x15 = true then (if x7 > 0 then (if x6 < 2 then (if x5.size + 1 ≤ 9223372036854775807 then (spec_l20Moves.l0 k (x5 ++ (⟨#[83]⟩ : ByteArray)) (wrap64 (x6 + 1)) (wrap64 (x7 - 1)) x1000 x1001) else (none)) else ((spec_l20Rd_pick.f k x1000 x1001 2).bind fun bt185 => (if bt185.1 = 0 then (if x5.size + 1 ≤ 9223372036854775807 then (spec_l20Moves.l0 k (x5 ++ (⟨#[83]⟩ : ByteArray)) (wrap64 (x6 + 1)) (wrap64 (x7 - 1)) x1000 bt185.2) else (none)) else ((some (([(⟨#[76]⟩ : ByteArray), (⟨#[82]⟩ : ByteArray)] : List ByteArray) : List ByteArray)).bind fun y187 => ((spec_l20Rd_pick.f k x1000 bt185.2 2).bind fun bt190 => (if 0 ≤ bt190.1 then (if bt190.1 < (y187.length : Int) then (if x5.size + (rdOf ByteArray.empty y187 bt190.1).size ≤ 9223372036854775807 then (spec_l20Moves.l0 k (x5 ++ (rdOf ByteArray.empty y187 bt190.1)) (wrap64 (x6 - 1)) x7 x1000 bt190.2) else (none)) else (none)) else (none))))))) else ((some (([(⟨#[76]⟩ : ByteArray), (⟨#[82]⟩ : ByteArray)] : List ByteArray) : List ByteArray)).bind fun y193 => ((spec_l20Rd_pick.f k x1000 x1001 2).bind fun bt196 => (if 0 ≤ bt196.1 then (if bt196.1 < (y193.length : Int) then (if x5.size + (rdOf ByteArray.empty y193 bt196.1).size ≤ 9223372036854775807 then (spec_l20Moves.l0 k (x5 ++ (rdOf ByteArray.empty y193 bt196.1)) (wrap64 (x6 - 1)) x7 x1000 bt196.2) else (none)) else (none)) else (none))))) else ((spec_l20Rd_odd.f k x1000 x1001 8).bind fun bt199 => (if bt199.1 = true then (spec_l20Moves.j2 k x5 (decide ((x5.size : Int) > 0)) x1000 bt199.2) else (spec_l20Moves.j2 k x5 false x1000 bt199.2)))) r) : Ev (fun k => spec_l20Moves.j1 k x5 x6 x7 x15 x1000 x1001) r := Ev.step (fun _ => rfl) h
theorem spec_l20Moves.j2.ev {x5 : ByteArray} {x48 : Bool} {x1000 : List Int} {x1001 : Int} {r : ByteArray × Int} (h : Ev (fun k => if x48 = true then ((spec_l20Rd_pick.f k x1000 x1001 (x5.size : Int)).bind fun bt201 => (if 0 ≤ bt201.1 then (if bt201.1 ≤ (x5.size : Int) then ((some (([(⟨#[]⟩ : ByteArray), (⟨#[83]⟩ : ByteArray), (⟨#[76]⟩ : ByteArray), (⟨#[120]⟩ : ByteArray)] : List ByteArray) : List ByteArray)).bind fun y203 => ((spec_l20Rd_pick.f k x1000 bt201.2 4).bind fun bt206 => (if 0 ≤ bt206.1 then (if bt206.1 < (y203.length : Int) then (if (x5.extract 0 (bt201.1 : Int).toNat).size + (rdOf ByteArray.empty y203 bt206.1).size ≤ 9223372036854775807 then (if 0 ≤ (wrap64 (bt201.1 + 1)) then (if (wrap64 (bt201.1 + 1)) ≤ (x5.size : Int) then (if ((x5.extract 0 (bt201.1 : Int).toNat) ++ (rdOf ByteArray.empty y203 bt206.1)).size + (x5.extract ((wrap64 (bt201.1 + 1)) : Int).toNat x5.size).size ≤ 9223372036854775807 then (some (((x5.extract 0 (bt201.1 : Int).toNat) ++ (rdOf ByteArray.empty y203 bt206.1)) ++ (x5.extract ((wrap64 (bt201.1 + 1)) : Int).toNat x5.size), bt206.2)) else (none)) else (none)) else (none)) else (none)) else (none)) else (none)))) else (none)) else (none))) else (some (x5, x1001))) r) : Ev (fun k => spec_l20Moves.j2 k x5 x48 x1000 x1001) r := Ev.step (fun _ => rfl) h
theorem rdOf_two {a b : ByteArray} {i : Int} (h0 : 0 ≤ i) (h1 : i < 2) (ha : a.size ≤ 1) (hb : b.size ≤ 1) : (rdOf ByteArray.empty [a, b] i).size ≤ 1 := by
 have : i = 0 ∨ i = 1 := by omega
 rcases this with rfl | rfl
 ·exact ha
 ·exact hb
theorem rdOf_four {a b c d : ByteArray} {i : Int} (h0 : 0 ≤ i) (h1 : i < 4) (ha : a.size ≤ 1) (hb : b.size ≤ 1) (hc : c.size ≤ 1) (hd : d.size ≤ 1) : (rdOf ByteArray.empty [a, b, c, d] i).size ≤ 1 := by
 have : i = 0 ∨ i = 1 ∨ i = 2 ∨ i = 3 := by omega
 rcases this with rfl | rfl | rfl | rfl
 ·exact ha
 ·exact hb
 ·exact hc
 ·exact hd
theorem spec_l20Moves_tail {b : List Int} (B : Bts b) {o : Bool} {x5 : ByteArray} {deep left p : Int} {m : Nat} (eo : Ev (fun k => spec_l20Rd_odd.f k b p 8) (o, p + 1)) (hl : ¬ left > 0) (hd : ¬ deep > 1) (h0 : 0 ≤ p) (hp : p + 2 * m ≤ 900000) (hx : x5.size + m ≤ 1000) (_ : True ∨ True) :
  ∃ (out : ByteArray) (q : Int), Ev (fun k => spec_l20Moves.l0 k x5 deep left b p) (out, q) ∧ 0 ≤ q ∧ q ≤ p + 2 * m + 5 ∧ out.size ≤ 1001 := by
 have hj : ∀ {r : ByteArray × Int}, Ev (fun k => spec_l20Moves.j2 k x5 (o && decide ((x5.size : Int) > 0)) b (p + 1)) r → Ev (fun k => spec_l20Moves.l0 k x5 deep left b p) r := by
  intro r h
  refine spec_l20Moves.l0.ev (Ev.neg hl ?_)
  rw [show decide (deep > 1) = false from decide_eq_false hd]
  refine spec_l20Moves.j1.ev (Ev.neg (by simp) (Ev.bind eo ?_))
  cases o with
  | true => exact Ev.pos rfl (by simpa using h)
  | false => exact Ev.neg (by simp) (by simpa using h)
 by_cases c : (o && decide ((x5.size : Int) > 0)) = true
 ·have hs : (1 : Int) ≤ x5.size := by have := (Bool.and_eq_true_iff.1 c).2; have := of_decide_eq_true this; omega
  obtain ⟨i, ei, i0, i1⟩ := spec_l20Rd_pick_ev B (p := p + 1) (by omega) (by omega) (x5.size : Int)
  have i1 := i1 hs
  obtain ⟨j, ej, j0, j1⟩ := spec_l20Rd_pick_ev B (p := p + 1 + 1) (by omega) (by omega) 4
  have j1 := j1 (by omega)
  have hy := rdOf_four (a := ⟨#[]⟩) (b := ⟨#[83]⟩) (c := ⟨#[76]⟩) (d := ⟨#[120]⟩) j0 j1 (Nat.zero_le _) (Nat.le_refl _) (Nat.le_refl _) (Nat.le_refl _)
  have wi := wid (x := i + 1) (by omega) (by omega)
  refine ⟨((x5.extract 0 i.toNat) ++ (rdOf ByteArray.empty [(⟨#[]⟩ : ByteArray), (⟨#[83]⟩ : ByteArray), (⟨#[76]⟩ : ByteArray), (⟨#[120]⟩ : ByteArray)] j)) ++ (x5.extract (i + 1).toNat x5.size), p + 1 + 1 + 1, hj (spec_l20Moves.j2.ev (Ev.pos c (Ev.bind ei (Ev.pos i0 (Ev.pos (by omega) (Ev.bindv rfl (Ev.bind ej (Ev.pos j0 (Ev.pos (by simpa using j1) (Ev.pos (by dsimp only; rw [ByteArray.size_extract]; omega) ?_)))))))))), by omega, by omega, ?_⟩
  ·rw [wi]
   refine Ev.pos (by omega) (Ev.pos (by omega) (Ev.pos ?_ (Ev.now _)))
   dsimp only; rw [ByteArray.size_append, ByteArray.size_extract, ByteArray.size_extract]; omega
  ·rw [ByteArray.size_append, ByteArray.size_append, ByteArray.size_extract, ByteArray.size_extract]; omega
 ·exact ⟨x5, p + 1, hj (spec_l20Moves.j2.ev (Ev.neg c (Ev.now _))), by omega, by omega, by omega⟩
theorem spec_l20Moves_l0 {b : List Int} (B : Bts b) : ∀ (m : Nat) (x5 : ByteArray) (deep left p : Int), 0 ≤ deep → 0 ≤ left → 2 * left + deep ≤ m → m ≤ 100 → 0 ≤ p → p + 2 * m ≤ 900000 → x5.size + m ≤ 1000 →
  ∃ (out : ByteArray) (q : Int), Ev (fun k => spec_l20Moves.l0 k x5 deep left b p) (out, q) ∧ 0 ≤ q ∧ q ≤ p + 2 * m + 5 ∧ out.size ≤ 1001 := by
 intro m
 induction m with
 | zero =>
  intro x5 deep left p hd hl hm _ hp hp2 hx
  obtain ⟨o, eo⟩ : ∃ o : Bool, Ev (fun k => spec_l20Rd_odd.f k b p 8) (o, p + 1) := by
   obtain ⟨r, er, _, _⟩ := spec_l20Rd_pick_ev B hp (by omega) 8
   exact ⟨_, by unfold spec_l20Rd_odd.f; exact Ev.pos (by omega) (Ev.bind er (Ev.now _))⟩
  exact spec_l20Moves_tail B eo (by omega) (by omega) (by omega) (by omega) (by omega) (.inl trivial)
 | succ m ih =>
  intro x5 deep left p hd hl hm hm2 hp hp2 hx
  by_cases hgo : left > 0 ∨ deep > 1
  ·obtain ⟨c, ec, c0, c1⟩ := spec_l20Rd_pick_ev B hp (by omega) 2
   obtain ⟨c', ec', c0', c1'⟩ := spec_l20Rd_pick_ev B (p := p + 1) (by omega) (by omega) 2
   have c1 := c1 (by omega)
   have c1' := c1' (by omega)
   have h1 : ((⟨#[83]⟩ : ByteArray)).size = 1 := rfl
   have hj : ∀ {r : ByteArray × Int}, Ev (fun k => spec_l20Moves.j1 k x5 deep left true b p) r → Ev (fun k => spec_l20Moves.l0 k x5 deep left b p) r := by
    intro r h
    refine spec_l20Moves.l0.ev ?_
    by_cases c : left > 0
    ·exact Ev.pos c h
    ·refine Ev.neg c ?_
     rw [show decide (deep > 1) = true from decide_eq_true (by omega)]; exact h
   have S : left > 0 → ∀ p', p ≤ p' → p' ≤ p + 2 → ∃ (out : ByteArray) (q : Int), Ev (fun k => spec_l20Moves.l0 k (x5 ++ (⟨#[83]⟩ : ByteArray)) (deep + 1) (left - 1) b p') (out, q) ∧ 0 ≤ q ∧ q ≤ p + 2 * (m + 1 : Nat) + 5 ∧ out.size ≤ 1001 := by
    intro hl0 p' h0 h2
    obtain ⟨out, q, e, q0, q1, hs⟩ := ih (x5 ++ (⟨#[83]⟩ : ByteArray)) (deep + 1) (left - 1) p' (by omega) (by omega) (by omega) (by omega) (by omega) (by omega) (by rw [ByteArray.size_append, h1]; omega)
    exact ⟨out, q, e, q0, by omega, hs⟩
   have D : 1 < deep → ∀ p' y, p ≤ p' → p' ≤ p + 2 → y.size ≤ 1 → ∃ (out : ByteArray) (q : Int), Ev (fun k => spec_l20Moves.l0 k (x5 ++ y) (deep - 1) left b p') (out, q) ∧ 0 ≤ q ∧ q ≤ p + 2 * (m + 1 : Nat) + 5 ∧ out.size ≤ 1001 := by
    intro hd0 p' y h0 h2 hy
    obtain ⟨out, q, e, q0, q1, hs⟩ := ih (x5 ++ y) (deep - 1) left p' (by omega) (by omega) (by omega) (by omega) (by omega) (by omega) (by rw [ByteArray.size_append]; omega)
    exact ⟨out, q, e, q0, by omega, hs⟩
   have ws1 := wid (x := deep + 1) (by omega) (by omega)
   have ws2 := wid (x := left - 1) (by omega) (by omega)
   have ws3 := wid (x := deep - 1) (by omega) (by omega)
   by_cases hl0 : left > 0
   ·by_cases hd2 : deep < 2
    ·obtain ⟨out, q, e, r⟩ := S hl0 p (by omega) (by omega)
     refine ⟨out, q, hj (spec_l20Moves.j1.ev (Ev.pos rfl (Ev.pos hl0 (Ev.pos hd2 (Ev.pos (by omega) ?_))))), r⟩
     rw [ws1, ws2]; exact e
    ·by_cases hc : c = 0
     ·obtain ⟨out, q, e, r⟩ := S hl0 (p + 1) (by omega) (by omega)
      refine ⟨out, q, hj (spec_l20Moves.j1.ev (Ev.pos rfl (Ev.pos hl0 (Ev.neg hd2 (Ev.bind ec (Ev.pos hc (Ev.pos (by omega) ?_))))))), r⟩
      rw [ws1, ws2]; exact e
     ·have hy := rdOf_two (a := ⟨#[76]⟩) (b := ⟨#[82]⟩) c0' c1' (Nat.le_refl _) (Nat.le_refl _)
      obtain ⟨out, q, e, r⟩ := D (by omega) (p + 1 + 1) _ (by omega) (by omega) hy
      refine ⟨out, q, hj (spec_l20Moves.j1.ev (Ev.pos rfl (Ev.pos hl0 (Ev.neg hd2 (Ev.bind ec (Ev.neg hc (Ev.bindv rfl (Ev.bind ec' (Ev.pos c0' (Ev.pos (by simpa using c1') (Ev.pos (by dsimp only; omega) ?_))))))))))), r⟩
      rw [ws3]; exact e
   ·have hy := rdOf_two (a := ⟨#[76]⟩) (b := ⟨#[82]⟩) c0 c1 (Nat.le_refl _) (Nat.le_refl _)
    obtain ⟨out, q, e, r⟩ := D (by omega) (p + 1) _ (by omega) (by omega) hy
    refine ⟨out, q, hj (spec_l20Moves.j1.ev (Ev.pos rfl (Ev.neg hl0 (Ev.bindv rfl (Ev.bind ec (Ev.pos c0 (Ev.pos (by simpa using c1) (Ev.pos (by dsimp only; omega) ?_)))))))), r⟩
    rw [ws3]; exact e
  ·obtain ⟨o, eo⟩ : ∃ o : Bool, Ev (fun k => spec_l20Rd_odd.f k b p 8) (o, p + 1) := by
    obtain ⟨r, er, _, _⟩ := spec_l20Rd_pick_ev B hp (by omega) 8
    exact ⟨_, by unfold spec_l20Rd_odd.f; exact Ev.pos (by omega) (Ev.bind er (Ev.now _))⟩
   exact spec_l20Moves_tail B eo (by omega) (by omega) (by omega) (by omega) (by omega) (.inl trivial)
theorem spec_l20Moves_ev {b : List Int} (B : Bts b) {p n : Int} (h0 : 0 ≤ p) (h1 : p ≤ 800000) (hn : 0 ≤ n) (hn2 : n ≤ 40) : ∃ (out : ByteArray) (q : Int), Ev (fun k => spec_l20Moves.f k b p n) (out, q) ∧ out.size ≤ 1001 := by
 unfold spec_l20Moves.f
 obtain ⟨out, q, e, _, _, h⟩ := spec_l20Moves_l0 B 100 (⟨#[]⟩ : ByteArray) 0 n p (by omega) hn (by omega) (by omega) h0 (by omega) (by show 0 + 100 ≤ 1000; omega)
 exact ⟨out, q, e, h⟩

/-! spec_DrawRunStack -/

theorem spec_DrawRunStack_ev {l : List Int} (h : ∀ x ∈ l, (Lit.int .u8 x).wf = true) : ∃ (n : Int) (m : ByteArray), Ev (fun k => spec_DrawRunStack.f k l) (n, m) ∧ m.size ≤ 1001 := by
 obtain ⟨b, eb, B⟩ := spec_l20Open_eq h
 obtain ⟨r, e, r0, r1⟩ := spec_l20Rd_pick_ev B (p := 0) (by omega) (by omega) 8
 have r1 := r1 (by omega)
 obtain ⟨s, es, _, _⟩ := spec_l20Rd_pick_ev B (p := 0 + 1) (by omega) (by omega) 20
 obtain ⟨t, et, _, _⟩ := spec_l20Rd_pick_ev B (p := 0 + 1 + 1) (by omega) (by omega) 30
 have w := wid (x := 1 + r) (by omega) (by omega)
 obtain ⟨m, q, em, hm⟩ := spec_l20Moves_ev B (p := 0 + 1 + 1 + 1) (n := 1 + r) (by omega) (by omega) (by omega) (by omega)
 unfold spec_DrawRunStack.f
 exact ⟨_, m, Ev.bindv eb (Ev.bind e (Ev.bind es (Ev.bind et (Ev.bind (by rw [w]; exact em) (Ev.now _))))), hm⟩

/-! laws_sameInts -/
theorem laws_sameInts.l0.ev {x0 : List Int} {x1 : List Int} {x5 : Int} {r : Bool} (h : Ev (fun k => if x5 < (x0.length : Int) then (if 0 ≤ x5 then (if x5 < (x1.length : Int) then (if (rd x0 x5) = (rd x1 x5) then (laws_sameInts.l0 k x0 x1 (wrap64 (x5 + 1))) else (some false)) else (none)) else (none)) else (some true)) r) : Ev (fun k => laws_sameInts.l0 k x0 x1 x5) r := Ev.step (fun _ => rfl) h
theorem laws_sameInts_l0 {a b : List Int} (hl : a.length ≤ 4611686018427387904) (he : a.length = b.length) : ∀ i : Int, i ≤ a.length → 0 ≤ i → a.take i.toNat = b.take i.toNat → Ev (fun k => laws_sameInts.l0 k a b i) (decide (a = b)) := by
 refine Hd.down ?_
 intro i hi ih h0 ht
 refine laws_sameInts.l0.ev ?_
 by_cases hlt : i < a.length
 ·rw [wid (x := i + 1) (by omega) (by omega)]
  refine Ev.pos hlt (Ev.pos h0 (Ev.pos (by omega) ?_))
  obtain ⟨j, rfl⟩ := Int.eq_ofNat_of_zero_le h0
  have hj : j < a.length := by omega
  have hj2 : j < b.length := by omega
  simp only [Int.toNat_natCast] at *
  have ga : rd a j = a[j] := by simp [rd, List.getD_eq_getElem?_getD, List.getElem?_eq_getElem hj]
  have gb : rd b j = b[j] := by simp [rd, List.getD_eq_getElem?_getD, List.getElem?_eq_getElem hj2]
  by_cases e : rd a j = rd b j
  ·refine Ev.pos e (ih hlt (by omega) ?_)
   rw [show ((j : Int) + 1).toNat = j + 1 from by omega, List.take_succ_eq_append_getElem hj, List.take_succ_eq_append_getElem hj2, ht, ← ga, ← gb, e]
  ·refine Ev.neg e (Ev.ret ?_)
   have : a ≠ b := fun h => e (by rw [h])
   simp [this]
 ·refine Ev.neg hlt (Ev.ret ?_)
  rw [show i.toNat = a.length from by omega] at ht
  rw [List.take_length, he, List.take_length] at ht
  simp [ht]
theorem laws_sameInts_ev {a b : List Int} (hl : a.length ≤ 1048576) : Ev (fun k => laws_sameInts.f k a b) (decide (a = b)) := by
 unfold laws_sameInts.f
 by_cases e : a.length = b.length
 ·refine Ev.pos (by omega) ?_
  exact laws_sameInts_l0 (by omega) e 0 (by omega) (by omega) (by simp)
 ·refine Ev.neg (by omega) (Ev.ret ?_)
  have : a ≠ b := fun h => e (by rw [h])
  simp [this]

/-! impl_under -/
theorem impl_under.l0.ev {x0 : List Int} {x1 : Int} {x2 : Int} {r : Bool} (h : Ev (fun k => if x1 = 0 then (some (x1 == x2)) else (if x1 = x2 then (some (x1 == x2)) else (if 0 ≤ (wrap64 (x1 - 1)) then (if (wrap64 (x1 - 1)) < (x0.length : Int) then (impl_under.l0 k x0 (rd x0 (wrap64 (x1 - 1))) x2) else (none)) else (none)))) r) : Ev (fun k => impl_under.l0 k x0 x1 x2) r := Ev.step (fun _ => rfl) h
theorem impl_under_l0 {l : List Int} (t : Hd.T l) (b : Int) : ∀ (k : Nat) (a : Int), 0 ≤ a → a ≤ l.length → Hd.it (Hd.hd l) k a = 0 → Ev (fun j => impl_under.l0 j l a b) (Hd.undB l a b)
 | k, a, h1, h2, e => by
  refine impl_under.l0.ev ?_
  by_cases hz : a = 0
  ·subst hz
   refine Ev.pos rfl (Ev.ret (bool_eq ?_))
   rw [Hd.undB_true]; simp
   constructor
   ·rintro rfl; exact Hd.Und.refl _ _
   ·intro u; exact (t.2.und_zero u).symm
  ·refine Ev.neg hz ?_
   by_cases hab : a = b
   ·refine Ev.pos hab (Ev.ret (bool_eq ?_))
    rw [Hd.undB_true]; simp [hab]
    exact Hd.Und.refl _ _
   ·refine Ev.neg hab ?_
    rw [wid (x := a - 1) (by omega) (by have := t.1; omega), rd_hd (by omega)]
    refine Ev.pos (by omega) (Ev.pos (by omega) ?_)
    match k, e with
    | 0, e => exact absurd e hz
    | k + 1, e =>
     have ih := impl_under_l0 t b k (Hd.hd l a) (t.2.lo a) (t.2.hi a) e
     have : Hd.undB l a b = Hd.undB l (Hd.hd l a) b := bool_eq (by
      rw [Hd.undB_true, Hd.undB_true]
      exact ⟨fun u => u.cases.elim (fun e => absurd e hab) id, fun u => u.up⟩)
     rw [this]; exact ih
theorem impl_under_ev {l : List Int} (t : Hd.T l) {a : Int} (h1 : 1 ≤ a) (h2 : a ≤ l.length) (b : Int) : Ev (fun k => impl_under.f k l a b) (Hd.undB l a b) :=
 impl_under_l0 t b l.length a (by omega) h2 (t.2.back a h1 h2)

/-! impl_flat -/
theorem impl_flat.l0.ev {x0 : List Int} {x9 : Int} {x10 : Int} {r : Bool} (h : Ev (fun k => if x10 < x9 then (impl_flat.l1 k x0 x10 0 (x0.length : Int) (-1) x9 x10 (x0.length : Int) 0) else (some true)) r) : Ev (fun k => impl_flat.l0 k x0 x9 x10) r := Ev.step (fun _ => rfl) h
theorem impl_flat.l1.ev {x0 : List Int} {x3 : Int} {x4 : Int} {x5 : Int} {x6 : Int} {x9 : Int} {x10 : Int} {x16 : Int} {x17 : Int} {r : Bool} (h : Ev (fun k => if x17 < x16 then ((impl_under.f k x0 (wrap64 (x17 + 1)) (wrap64 (x3 + 1))).bind fun t223 => (if t223 = true then (impl_flat.l1 k x0 x3 (wrap64 (x4 + 1)) (mn x5 x17) (mx x6 x17) x9 x10 x16 (wrap64 (x17 + 1))) else (impl_flat.l1 k x0 x3 x4 x5 x6 x9 x10 x16 (wrap64 (x17 + 1))))) else (if (wrap64 ((wrap64 (x6 - x5)) + 1)) = x4 then (impl_flat.l0 k x0 x9 (wrap64 (x10 + 1))) else (some false))) r) : Ev (fun k => impl_flat.l1 k x0 x3 x4 x5 x6 x9 x10 x16 x17) r := Ev.step (fun _ => rfl) h
theorem impl_flat_l1 {l : List Int} (t : Hd.T l) {w : Int} (h1 : 1 ≤ w) (h2 : w ≤ l.length)
  (next : Hd.rowM (Hd.ybits l w) = true → Ev (fun k => impl_flat.l0 k l l.length w) (Hd.flatB l)) : ∀ i : Int, i ≤ l.length → 0 ≤ i →
  Ev (fun k => impl_flat.l1 k l (w - 1) (Hd.mmN (Hd.ybits l w).testBit l.length i.toNat).1 (Hd.mmN (Hd.ybits l w).testBit l.length i.toNat).2.1 (Hd.mmN (Hd.ybits l w).testBit l.length i.toNat).2.2 l.length (w - 1) l.length i) (Hd.flatB l) := by
 have h8 := t.1
 refine Hd.down ?_
 intro i hi ih h0
 refine impl_flat.l1.ev ?_
 have bd := Hd.mmN_bd (Hd.ybits l w).testBit l.length i.toNat
 by_cases hlt : i < l.length
 ·have nx := ih hlt (by omega)
  rw [show (i + 1).toNat = i.toNat + 1 from by omega] at nx
  rw [wid (x := i + 1) (by omega) (by omega), wid (x := w - 1 + 1) (by omega) (by omega), show w - 1 + 1 = w from by omega]
  refine Ev.pos hlt (Ev.bind (impl_under_ev t (by omega) (by omega) w) ?_)
  have bit : (Hd.ybits l w).testBit i.toNat = Hd.undB l (i + 1) w := by
   unfold Hd.ybits
   rw [Hd.ysum_bit, decide_eq_true (show i.toNat < l.length by omega), Bool.true_and]
   congr 1; omega
  rw [Hd.mmN, bit, show ((i.toNat : Nat) : Int) = i from by omega] at nx
  rw [wid (x := (Hd.mmN (Hd.ybits l w).testBit l.length i.toNat).1 + 1) (by omega) (by omega)]
  by_cases hu : Hd.undB l (i + 1) w = true
  ·rw [if_pos hu] at nx
   exact Ev.pos hu nx
  ·rw [if_neg hu] at nx
   exact Ev.neg hu nx
 ·have e : i.toNat = l.length := by omega
  rw [e] at bd ⊢
  have hp := t.2.pos
  have row := Hd.mmN_row l.length (by omega) (Hd.ybits l w) (Hd.ysum_lt _ _) (Hd.ybits_pos h1 h2)
  generalize Hd.mmN (Hd.ybits l w).testBit l.length l.length = mm at *
  rw [wid (x := mm.2.2 - mm.2.1) (by omega) (by omega), wid (x := mm.2.2 - mm.2.1 + 1) (by omega) (by omega), wid (x := w - 1 + 1) (by omega) (by omega), show w - 1 + 1 = w from by omega]
  refine Ev.neg hlt ?_
  by_cases hr : Hd.rowM (Hd.ybits l w) = true
  ·rw [hr] at row
   exact Ev.pos (by simpa using row) (next hr)
  ·rw [Bool.not_eq_true] at hr
   rw [hr] at row
   refine Ev.neg (by simpa using row) (Ev.ret ?_)
   cases hc : Hd.flatB l with
   | false => rfl
   | true =>
    have := (Hd.row_masks t).1 (Hd.flatB_true.1 hc).2 w h1 h2
    rw [hr] at this; cases this
theorem impl_flat_l0 {l : List Int} (t : Hd.T l) : ∀ i : Int, i ≤ l.length → 0 ≤ i → (∀ w : Int, 1 ≤ w → w ≤ i → Hd.rowM (Hd.ybits l w) = true) → Ev (fun k => impl_flat.l0 k l l.length i) (Hd.flatB l) := by
 have h8 := t.1
 refine Hd.down ?_
 intro i hi ih h0 hall
 refine impl_flat.l0.ev ?_
 by_cases hlt : i < l.length
 ·refine Ev.pos hlt ?_
  have := impl_flat_l1 t (w := i + 1) (by omega) (by omega) (fun hr => ih hlt (by omega) (fun w k1 k2 => by
   by_cases e : w = i + 1
   ·rw [e]; exact hr
   ·exact hall w k1 (by omega))) 0 (by omega) (by omega)
  rw [show i + 1 - 1 = i from by omega] at this
  exact this
 ·refine Ev.neg hlt (Ev.ret ?_)
  exact (Hd.flatB_true.2 ⟨t, (Hd.row_masks t).2 fun w k1 k2 => hall w k1 (by omega)⟩).symm
theorem impl_flat_ev {l : List Int} (t : Hd.T l) : Ev (fun k => impl_flat.f k l) (Hd.flatB l) := impl_flat_l0 t 0 (by omega) (by omega) (fun w k1 k2 => by omega)

/-! impl_FlatOk -/

theorem impl_FlatOk_ev (l : List Int) : Ev (fun k => impl_FlatOk.f k l) (Hd.flatB l) := by
 unfold impl_FlatOk.f
 refine Ev.bind (impl_TreeOk_ev l) ?_
 by_cases t : Hd.T l
 ·exact Ev.pos (Hd.treeB_yes t) (Ev.bind (impl_flat_ev t) (Ev.now _))
 ·refine Ev.neg (by rw [Hd.treeB_no t]; simp) (Ev.ret ?_)
  cases hc : Hd.flatB l with
  | false => rfl
  | true => exact absurd (Hd.flatB_true.1 hc).1 t

theorem impl_stack_left.l0.ev {x2 : Int} {x7 : Int} {x10 : List Int} {x11 : Int} {x12 : Int} {x1000 : List Int} {x1001 : Int} {x1002 : List Int} {x1003 : Int} {r : Int × Int × Int} (h : Ev (fun k => if x12 < x11 then (if 0 ≤ x12 then (if x12 < (x10.length : Int) then (if (rd x10 x12) = x2 then (if x12 < (x1002.length : Int) then (if (rd x1002 x12) = 0 then (impl_stack_left.l0 k x2 (wrap64 (x7 + 1)) x10 x11 (wrap64 (x12 + 1)) x1000 x1001 x1002 x1003) else (impl_stack_left.l0 k x2 x7 x10 x11 (wrap64 (x12 + 1)) x1000 x1001 x1002 x1003)) else (none)) else (impl_stack_left.l0 k x2 x7 x10 x11 (wrap64 (x12 + 1)) x1000 x1001 x1002 x1003)) else (none)) else (none)) else (some (x7, x1001, x1003))) r) : Ev (fun k => impl_stack_left.l0 k x2 x7 x10 x11 x12 x1000 x1001 x1002 x1003) r := Ev.step (fun _ => rfl) h
/-! impl_MovesFor -/

theorem impl_MovesFor_ev (l : List Int) : Ev (fun k => impl_MovesFor.f k l) (if Hd.flatB l = true then (Mach.movesF l, true) else (⟨#[]⟩, false)) := by
 unfold impl_MovesFor.f
 refine Ev.bind (impl_FlatOk_ev l) ?_
 by_cases f : Hd.flatB l = true
 ·have t := (Hd.flatB_true.1 f).1
  simp only [if_pos f]
  exact Ev.pos ⟨t.2.pos, t.1⟩ (Ev.now _)
 ·simp only [if_neg f]; exact Ev.now _

theorem laws_FnRunStack.j0.ev {x3 : Int} {x4 : ByteArray} {x5 : List Int} {x6 : Bool} {x41 : Bool} {r : Bool} (h : Ev (fun k => if x41 = true then (some false) else (if x6 = true then ((impl_MovesFor.f k x5).bind fun bt244 => ((impl_RunStack.f x3 bt244.1).bind fun bt246 => ((impl_FlatOk.f k x5).bind fun t250 => (if t250 = true then (if (x4.size : Int) = (wrap64 ((wrap64 (2 * x3)) - 1)) then (if bt244.2 = true then (if bt246.2 = true then ((laws_sameInts.f k bt246.1 x5).bind fun t251 => (some t251)) else (some false)) else (some false)) else (some false)) else (some false))))) else (if (x5.length : Int) = 0 then ((laws_alive.f k).bind fun t243 => (some t243)) else (some false)))) r) : Ev (fun k => laws_FnRunStack.j0 k x3 x4 x5 x6 x41) r := Ev.step (fun _ => rfl) h
end Go.Proofs.Ytdckgafgidfplaa.QFnRunStack
