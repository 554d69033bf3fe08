/- Contracts of the functions that the statement FnExactDeepestStack reaches: what each printed function comes to. -/
import Derived.Test.YtdckgafgidfplaaQFnExactDeepestStackx3
import Derived.Test.YtdckgafgidfplaaWSized
import Derived.Test.YtdckgafgidfplaaHdA
import Derived.Test.YtdckgafgidfplaaHdC
namespace Go.Proofs.Ytdckgafgidfplaa.PrintWords
/-- The name by which the printed row calls the word. -/
abbrev sized_ints := @Go.Proofs.YtdckgafgidfplaaW.PrintWords.sized_ints
end Go.Proofs.Ytdckgafgidfplaa.PrintWords
namespace Go.Proofs.Ytdckgafgidfplaa.QFnExactDeepestStack
open Go.RowKit Go.Proofs.YtdckgafgidfplaaW.PrintWords Go.Proofs.YtdckgafgidfplaaW.PrintLast Go.Proofs.YtdckgafgidfplaaW.PrintMore
set_option linter.unusedVariables false
set_option linter.unusedSimpArgs false
theorem wid {x : Int} (h : -9223372036854775808 ≤ x) (h' : x ≤ 9223372036854775807) : wrap64 x = x := by unfold wrap64; omega
theorem Ev.pos {α : Type} {c : Prop} [Decidable c] {A B : Nat → Option α} {r : α} (h : c) (e : Ev A r) : Ev (fun k => if c then A k else B k) r := by simpa only [if_pos h] using e
theorem Ev.neg {α : Type} {c : Prop} [Decidable c] {A B : Nat → Option α} {r : α} (h : ¬ c) (e : Ev B r) : Ev (fun k => if c then A k else B k) r := by simpa only [if_neg h] using e
theorem Ev.bindv {α β : Type} {o : Option α} {f : Nat → α → Option β} {a : α} {r : β} (h : o = some a) (k : Ev (fun n => f n a) r) : Ev (fun n => o.bind (f n)) r := by subst h; exact k
theorem Ev.ret {α : Type} {a r : α} (h : a = r) : Ev (fun _ => some a) r := h ▸ Ev.now a
theorem rd_hd {l : List Int} {a : Int} (h : 1 ≤ a) : rd l (a - 1) = Hd.hd l a := Hd.hd_get h
theorem rd_hd1 {l : List Int} {a : Int} (h : 0 ≤ a) : rd l a = Hd.hd l (a + 1) := by rw [← rd_hd (by omega)]; congr 1; omega
theorem mn_mx (a b : Int) : (mn a b = a ∧ mx a b = b ∧ a ≤ b) ∨ (mn a b = b ∧ mx a b = a ∧ b ≤ a) := by
 unfold mn mx
 split <;> split <;> omega
theorem h_or_i64 {a b : Nat} (ha : a < 256) (hb : b < 256) : Go.bits .or .i64 (a : Int) (b : Int) = ((a ||| b : Nat) : Int) :=
 (Go.bits_nat .i64 8 (by decide) (fun n h0 h1 => by rw [Go.IntKind.wrap_i64]; omega) a b (by omega) (by omega)).2
theorem h_shl_one {x : Nat} (h : x ≤ 7) : shl .i64 1 (x : Int) = ((2 ^ x : Nat) : Int) := by
 have : ∀ x : Nat, x < 8 → shl .i64 1 (x : Int) = ((2 ^ x : Nat) : Int) := by decide
 exact this x (by omega)
theorem h_shr_bit {v x : Nat} (h : x ≤ 64) : (Int.tmod (shr .i64 (v : Int) (x : Int)) 2 = 1) ↔ v.testBit x = true := by
 unfold shr
 rw [Int.toNat_natCast, Nat.min_eq_left (by simpa [Go.IntKind.bits] using h), Nat.testBit_eq_decide_div_mod_eq]
 have : ((v : Int) / 2 ^ x) = ((v / 2 ^ x : Nat) : Int) := by simp
 rw [this, Int.tmod_eq_emod_of_nonneg (Int.natCast_nonneg _), decide_eq_true_eq]
 omega
theorem h_shr_nat {v x : Nat} (h : x ≤ 64) : shr .i64 (v : Int) (x : Int) = ((v / 2 ^ x : Nat) : Int) := by
 unfold shr
 rw [Int.toNat_natCast, Nat.min_eq_left (by simpa [Go.IntKind.bits] using h)]
 simp
theorem h_and_i64 {a b : Nat} (ha : a < 512) (hb : b < 512) : Go.bits .and .i64 (a : Int) (b : Int) = ((a &&& b : Nat) : Int) :=
 (Go.bits_nat .i64 9 (by decide) (fun n h0 h1 => by rw [Go.IntKind.wrap_i64]; omega) a b (by omega) (by omega)).1
theorem h_rd_set {P : List Int} {i j : Int} {v : Int} (h0 : 0 ≤ i) (h1 : i < P.length) (hj : 0 ≤ j) : rd (P.set i.toNat v) j = if j = i then v else rd P j := by
 unfold rd
 rw [List.getD_eq_getElem?_getD, List.getElem?_set]
 by_cases e : j = i
 ·subst e
  rw [if_pos rfl, if_pos (by omega), if_pos rfl]; rfl
 ·rw [if_neg (by omega), if_neg e, List.getD_eq_getElem?_getD]
/-- Bytes of a code, as far as they are read. -/
def Bts (b : List Int) : Prop := b.length ≤ 2000 ∧ ∀ i : Int, 0 ≤ rd b i ∧ rd b i ≤ 255
theorem bts_rd {l : List Int} (h : ∀ x, x ∈ l → 0 ≤ x ∧ x ≤ 255) (i : Int) : 0 ≤ rd l i ∧ rd l i ≤ 255 := by
 unfold rd
 rw [List.getD_eq_getElem?_getD]
 by_cases hi : i.toNat < l.length
 ·rw [List.getElem?_eq_getElem hi]; exact h _ (List.getElem_mem hi)
 ·rw [List.getElem?_eq_none (by omega)]; simp
theorem Ev.lit {α : Type} {g : Nat → Option α} {r : α} (K : Nat) (h : ∀ m, g (m + K) = some r) : Ev g r := ⟨K, fun k hk => by obtain ⟨m, rfl⟩ := Nat.exists_eq_add_of_le' hk; exact h m⟩

/-! spec_l1In -/

theorem spec_l1In_eq (a b c : Int) : spec_l1In.f a b c = some (decide (b ≤ a ∧ a ≤ c)) := by
 unfold spec_l1In.f
 by_cases h : a ≥ b
 ·rw [if_pos h]; simp [h]
 ·rw [if_neg h]; simp; intro; omega

/-! spec_l6Run -/
theorem spec_l6Run.l0.ev {x0 : Int} {x1 : ByteArray} {x6 : List Int} {x7 : List Int} {x8 : Int} {x9 : Int} {r : List Int × Bool} (h : Ev (fun k => if x9 < (x1.size : Int) then (if 0 ≤ x9 then (if (bt x1 x9) = 83 then (spec_l6Run.j1 k x0 x1 x6 x7 x8 x9 (wrap64 ((x7.length : Int) - 1)) (decide (x8 ≤ x0))) else (spec_l6Run.j1 k x0 x1 x6 x7 x8 x9 (wrap64 ((x7.length : Int) - 1)) false)) else (none)) else (if (x7.length : Int) = 1 then (some (x6, decide (x8 > x0))) else (some (x6, false)))) r) : Ev (fun k => spec_l6Run.l0 k x0 x1 x6 x7 x8 x9) r := Ev.step (fun _ => rfl) h
theorem spec_l6Run.j1.ev {x0 : Int} {x1 : ByteArray} {x6 : List Int} {x7 : List Int} {x8 : Int} {x9 : Int} {x10 : Int} {x24 : Bool} {r : List Int × Bool} (h : Ev (fun k => if x24 = true then ((some (([x8] : List Int) : List Int)).bind fun y107 => (if x7.length + y107.length < 17592186044416 then (spec_l6Run.l0 k x0 x1 x6 (x7 ++ y107) (wrap64 (x8 + 1)) (wrap64 (x9 + 1))) else (none))) else (if 0 ≤ x9 then (if x9 < (x1.size : Int) then (if (bt x1 x9) = 76 then (spec_l6Run.j2 k x0 x1 x6 x7 x8 x9 x10 (decide (x10 ≥ 1))) else (spec_l6Run.j2 k x0 x1 x6 x7 x8 x9 x10 false)) else (none)) else (none))) r) : Ev (fun k => spec_l6Run.j1 k x0 x1 x6 x7 x8 x9 x10 x24) r := Ev.step (fun _ => rfl) h
theorem spec_l6Run.j2.ev {x0 : Int} {x1 : ByteArray} {x6 : List Int} {x7 : List Int} {x8 : Int} {x9 : Int} {x10 : Int} {x40 : Bool} {r : List Int × Bool} (h : Ev (fun k => if x40 = true then (if 0 ≤ (wrap64 (x10 - 1)) then (if (wrap64 (x10 - 1)) < (x7.length : Int) then (if 0 ≤ x10 then (if x10 < (x7.length : Int) then (if 0 ≤ (wrap64 ((rd x7 (wrap64 (x10 - 1))) - 1)) then (if (wrap64 ((rd x7 (wrap64 (x10 - 1))) - 1)) < (x6.length : Int) then ((some (([] : List Int) : List Int)).bind fun y116 => (if (wrap64 (x10 - 1)) ≤ (x7.length : Int) then ((some (x7.take ((wrap64 (x10 - 1)) : Int).toNat : List Int)).bind fun y119 => (if y116.length + y119.length < 17592186044416 then ((some (y116 ++ y119 : List Int)).bind fun y123 => ((some (([rd x7 x10] : List Int) : List Int)).bind fun y127 => (if y123.length + y127.length < 17592186044416 then (spec_l6Run.l0 k x0 x1 (x6.set ((wrap64 ((rd x7 (wrap64 (x10 - 1))) - 1)) : Int).toNat (rd x7 x10)) (y123 ++ y127) x8 (wrap64 (x9 + 1))) else (none)))) else (none))) else (none))) else (none)) else (none)) else (none)) else (none)) else (none)) else (none)) else (if 0 ≤ x9 then (if x9 < (x1.size : Int) then (if (bt x1 x9) = 82 then (if x10 ≥ 1 then (if 0 ≤ x10 then (if x10 < (x7.length : Int) then (if 0 ≤ (wrap64 (x10 - 1)) then (if (wrap64 (x10 - 1)) < (x7.length : Int) then (if 0 ≤ (wrap64 ((rd x7 x10) - 1)) then (if (wrap64 ((rd x7 x10) - 1)) < (x6.length : Int) then ((some (([] : List Int) : List Int)).bind fun y136 => (if x10 ≤ (x7.length : Int) then ((some (x7.take (x10 : Int).toNat : List Int)).bind fun y139 => (if y136.length + y139.length < 17592186044416 then (spec_l6Run.l0 k x0 x1 (x6.set ((wrap64 ((rd x7 x10) - 1)) : Int).toNat (rd x7 (wrap64 (x10 - 1)))) (y136 ++ y139) x8 (wrap64 (x9 + 1))) else (none))) else (none))) else (none)) else (none)) else (none)) else (none)) else (none)) else (none)) else (some ((([] : List Int)), false))) else (some ((([] : List Int)), false))) else (none)) else (none))) r) : Ev (fun k => spec_l6Run.j2 k x0 x1 x6 x7 x8 x9 x10 x40) r := Ev.step (fun _ => rfl) h
theorem bts_drop (a1 : ByteArray) (i : Int) (h0 : 0 ≤ i) (h : i < (a1.size : Int)) : (bytesOf a1).drop i.toNat = bt a1 i :: (bytesOf a1).drop (i + 1).toNat := by
 have hl : i.toNat < (bytesOf a1).length := by rw [bytesOf_length]; omega
 rw [List.drop_eq_getElem_cons hl, show (i + 1).toNat = i.toNat + 1 by omega]
 have e : (bytesOf a1)[i.toNat] = rd (bytesOf a1) i := by rw [rd, List.getD_eq_getElem?_getD, List.getElem?_eq_getElem hl]; rfl
 rw [e, rd_bytesOf]
def l6end (n : Nat) : Option Hd.St → List Int × Bool
 | none => ([], false)
 | some s => (s.hs, decide ((s.ws.length : Int) = 1) && decide (s.nx + 1 > (n : Int)))
theorem low_rd {s : Hd.St} (h : 2 ≤ s.ws.length) : rd s.ws ((s.ws.length : Int) - 1 - 1) = Hd.lowW s := by rw [rd, Hd.lowW, show ((s.ws.length : Int) - 1 - 1).toNat = s.ws.length - 2 by omega]
theorem top_rd {s : Hd.St} (h : 2 ≤ s.ws.length) : rd s.ws ((s.ws.length : Int) - 1) = Hd.topW s := by rw [rd, Hd.topW, show ((s.ws.length : Int) - 1).toNat = s.ws.length - 1 by omega]
theorem move_83 (s : Hd.St) : Hd.moveS 83 s = Hd.pushS s := if_pos rfl
theorem move_short {s : Hd.St} {m : Int} (c : m ≠ 83) (h : s.ws.length < 2) : Hd.moveS m s = none := by rw [Hd.moveS, if_neg c, if_pos h]
theorem move_76 {s : Hd.St} (h : 2 ≤ s.ws.length) : Hd.moveS 76 s = some (Hd.leftS s) := by rw [Hd.moveS, if_neg (by omega), if_neg (by omega), if_pos rfl]
theorem move_82 {s : Hd.St} (h : 2 ≤ s.ws.length) : Hd.moveS 82 s = some (Hd.rightS s) := by rw [Hd.moveS, if_neg (by omega), if_neg (by omega), if_neg (by omega), if_pos rfl]
theorem move_none {s : Hd.St} {m : Int} (c : m ≠ 83) (c1 : m ≠ 76) (c2 : m ≠ 82) : Hd.moveS m s = none := by
 simp [Hd.moveS, c, c1, c2]
theorem take_last {l : List Int} (h : 2 ≤ l.length) : l.take (l.length - 1) = l.take (l.length - 2) ++ [l.getD (l.length - 2) 0] := by
 rw [show l.length - 1 = (l.length - 2) + 1 by omega, List.take_succ_eq_append_getElem (by omega), List.getD_eq_getElem?_getD, List.getElem?_eq_getElem (by omega)]; rfl
theorem spec_l6Run_l0 {n : Nat} {a1 : ByteArray} (hs : a1.size ≤ 140737488351232) : ∀ i : Int, i ≤ (a1.size : Int) → 0 ≤ i → ∀ s : Hd.St, s.OK n → Ev (fun k => spec_l6Run.l0 k n a1 s.hs s.ws (s.nx + 1) i) (l6end n (Hd.runM ((bytesOf a1).drop i.toNat) s)) := by
 refine Hd.down ?_
 intro i hi ih h0 s o
 have hl := o.len; have h8 := o.n8; have hn0 := o.nx0; have hn1 := o.nx1; have hw := o.wl
 refine spec_l6Run.l0.ev ?_
 by_cases hlt : i < (a1.size : Int)
 ·refine Ev.pos hlt (Ev.pos h0 ?_)
  rw [bts_drop a1 i h0 hlt]
  simp only [Hd.runM]
  rw [wid (x := (s.ws.length : Int) - 1) (by omega) (by omega)]
  by_cases c : bt a1 i = 83
  ·rw [c, move_83]
   refine Ev.pos rfl (spec_l6Run.j1.ev ?_)
   by_cases hn : s.nx + 1 ≤ n
   ·have e : Hd.pushS s = some ⟨s.ws ++ [s.nx + 1], s.nx + 1, s.hs, if s.dp ≤ (s.ws.length : Int) + 1 then (s.ws.length : Int) + 1 else s.dp⟩ := if_neg (by omega)
    refine Ev.pos (by simp [hn]) (Ev.bindv rfl (Ev.pos (by simp; omega) ?_))
    rw [wid (x := s.nx + 1 + 1) (by omega) (by omega), wid (x := i + 1) (by omega) (by omega), e]
    exact ih hlt (by omega) _ (o.push e)
   ·have e : Hd.pushS s = none := if_pos (by omega)
    rw [e]
    refine Ev.neg (by simp [hn]) (Ev.pos h0 (Ev.pos hlt (Ev.neg (by omega) ?_)))
    exact spec_l6Run.j2.ev (Ev.neg (by simp) (Ev.pos h0 (Ev.pos hlt (Ev.neg (by omega) (Ev.now _)))))
  ·refine Ev.neg c (spec_l6Run.j1.ev (Ev.neg (by simp) (Ev.pos h0 (Ev.pos hlt ?_))))
   by_cases h2 : 2 ≤ s.ws.length
   ·have ol := o.low h2
    have ot := o.top (by omega)
    by_cases c1 : bt a1 i = 76
    ·rw [c1, move_76 h2]
     refine Ev.pos rfl (spec_l6Run.j2.ev (Ev.pos (by simp; omega) ?_))
     rw [wid (x := (s.ws.length : Int) - 1 - 1) (by omega) (by omega), low_rd h2, top_rd h2, wid (x := Hd.lowW s - 1) (by omega) (by omega), wid (x := i + 1) (by omega) (by omega)]
     refine Ev.pos (by omega) (Ev.pos (by omega) (Ev.pos (by omega) (Ev.pos (by omega) (Ev.pos (by omega) (Ev.pos (by omega) (Ev.bindv rfl (Ev.pos (by omega) (Ev.bindv rfl (Ev.pos (by simp; omega) (Ev.bindv rfl (Ev.bindv rfl (Ev.pos (by simp; omega) ?_))))))))))))
     rw [List.nil_append, show ((s.ws.length : Int) - 1 - 1).toNat = s.ws.length - 2 by omega]
     exact ih hlt (by omega) _ (o.left h2)
    ·refine Ev.neg c1 (spec_l6Run.j2.ev (Ev.neg (by simp) (Ev.pos h0 (Ev.pos hlt ?_))))
     by_cases c2 : bt a1 i = 82
     ·rw [c2, move_82 h2]
      refine Ev.pos rfl (Ev.pos (by omega) ?_)
      rw [wid (x := (s.ws.length : Int) - 1 - 1) (by omega) (by omega), low_rd h2, top_rd h2, wid (x := Hd.topW s - 1) (by omega) (by omega), wid (x := i + 1) (by omega) (by omega)]
      refine Ev.pos (by omega) (Ev.pos (by omega) (Ev.pos (by omega) (Ev.pos (by omega) (Ev.pos (by omega) (Ev.pos (by omega) (Ev.bindv rfl (Ev.pos (by omega) (Ev.bindv rfl (Ev.pos (by simp; omega) ?_)))))))))
      rw [List.nil_append, show ((s.ws.length : Int) - 1).toNat = s.ws.length - 1 by omega, take_last h2]
      exact ih hlt (by omega) _ (o.right h2)
     ·rw [move_none c c1 c2]
      exact Ev.neg c2 (Ev.now _)
   ·rw [move_short c (by omega)]
    by_cases c1 : bt a1 i = 76
    ·refine Ev.pos c1 (spec_l6Run.j2.ev (Ev.neg (by simp; omega) (Ev.pos h0 (Ev.pos hlt (Ev.neg (by omega) (Ev.now _))))))
    ·refine Ev.neg c1 (spec_l6Run.j2.ev (Ev.neg (by simp) (Ev.pos h0 (Ev.pos hlt ?_))))
     by_cases c2 : bt a1 i = 82
     ·exact Ev.pos c2 (Ev.neg (by omega) (Ev.now _))
     ·exact Ev.neg c2 (Ev.now _)
 ·have e : (bytesOf a1).drop i.toNat = [] := List.drop_eq_nil_of_le (by rw [bytesOf_length]; omega)
  rw [e]
  refine Ev.neg hlt ?_
  simp only [Hd.runM, l6end]
  by_cases c : (s.ws.length : Int) = 1
  ·refine Ev.pos c (Ev.ret ?_); simp [c]
  ·refine Ev.neg c (Ev.ret ?_); simp [c]
theorem spec_l6Run_ev {n : Nat} (h8 : n ≤ 8) {a1 : ByteArray} (hs : a1.size ≤ 140737488351232) : Ev (fun k => spec_l6Run.f k n a1) (l6end n (Hd.runM (bytesOf a1) (Hd.St.start n))) := by
 unfold spec_l6Run.f
 refine Ev.pos (by omega) (Ev.pos (by omega) ?_)
 exact spec_l6Run_l0 hs 0 (by omega) (by omega) (Hd.St.start n) (Hd.St.OK.start h8)

/-! spec_RunStack -/

theorem spec_RunStack_ev (a0 : Int) {a1 : ByteArray} (hs : a1.size ≤ 140737488351232) : Ev (fun k => spec_RunStack.f k a0 a1) (Mach.runF a0 a1) := by
 unfold spec_RunStack.f Mach.runF Hd.ranS
 by_cases h : a0 < 1 ∨ 8 < a0
 ·rw [if_pos h]
  refine Ev.bindv (spec_l1In_eq _ _ _) (Ev.neg (by simp; omega) (Ev.now _))
 ·rw [if_neg h]
  obtain ⟨n, rfl⟩ : ∃ n : Nat, a0 = n := ⟨a0.toNat, by omega⟩
  refine Ev.bindv (spec_l1In_eq _ _ _) (Ev.pos (by simp; omega) (Ev.bind (spec_l6Run_ev (by omega) hs) ?_))
  rw [Int.toNat_natCast]
  cases Hd.runM (bytesOf a1) (Hd.St.start n) with
  | none => exact Ev.neg (by simp [l6end]) (Ev.now _)
  | some s =>
   simp only [l6end, Option.bind_some]
   by_cases c : s.nx < n ∨ s.ws.length ≠ 1
   ·rw [if_pos c]; exact Ev.neg (by simp; omega) (Ev.now _)
   ·rw [if_neg c]; exact Ev.pos (by simp; omega) (Ev.now _)

/-! spec_DeepestStack -/
theorem spec_DeepestStack.l0.ev {x1 : ByteArray} {x7 : Int} {x8 : Int} {x9 : Int} {r : Int} (h : Ev (fun k => if x9 < (x1.size : Int) then (if 0 ≤ x9 then (if (bt x1 x9) = 83 then (spec_DeepestStack.l0 k x1 (mx x7 (wrap64 (x8 + 1))) (wrap64 (x8 + 1)) (wrap64 (x9 + 1))) else (spec_DeepestStack.l0 k x1 (mx x7 (wrap64 (x8 - 1))) (wrap64 (x8 - 1)) (wrap64 (x9 + 1)))) else (none)) else (some x7)) r) : Ev (fun k => spec_DeepestStack.l0 k x1 x7 x8 x9) r := Ev.step (fun _ => rfl) h
theorem mx_eq (a b : Int) : mx a b = if a ≤ b then b else a := by unfold mx; split <;> split <;> omega
theorem spec_DeepestStack_l0 {n : Nat} {a1 : ByteArray} (hs : a1.size ≤ 140737488351232) : ∀ i : Int, i ≤ (a1.size : Int) → 0 ≤ i → ∀ s sf : Hd.St, s.OK n → (s.ws.length : Int) ≤ s.dp → Hd.runM ((bytesOf a1).drop i.toNat) s = some sf → Ev (fun k => spec_DeepestStack.l0 k a1 s.dp s.ws.length i) sf.dp := by
 refine Hd.down ?_
 intro i hi ih h0 s sf o hd hrun
 have h8 := o.n8; have hn0 := o.nx0; have hn1 := o.nx1; have hw := o.wl; have hd0 := o.dp0; have hd1 := o.dp1
 refine spec_DeepestStack.l0.ev ?_
 by_cases hlt : i < (a1.size : Int)
 ·refine Ev.pos hlt (Ev.pos h0 ?_)
  rw [bts_drop a1 i h0 hlt] at hrun
  simp only [Hd.runM] at hrun
  rw [wid (x := i + 1) (by omega) (by omega)]
  by_cases c : bt a1 i = 83
  ·refine Ev.pos c ?_
   rw [c, move_83] at hrun
   by_cases hn : s.nx = (s.hs.length : Int)
   ·rw [Hd.pushS, if_pos hn] at hrun; cases hrun
   ·have e : Hd.pushS s = some ⟨s.ws ++ [s.nx + 1], s.nx + 1, s.hs, if s.dp ≤ (s.ws.length : Int) + 1 then (s.ws.length : Int) + 1 else s.dp⟩ := if_neg hn
    rw [e] at hrun
    have next := ih hlt (by omega) _ sf (o.push e) (by simp only [List.length_append, List.length_singleton]; split <;> omega) hrun
    rw [wid (x := (s.ws.length : Int) + 1) (by omega) (by omega), mx_eq]
    simpa only [List.length_append, List.length_singleton, Int.natCast_add, Int.cast_ofNat_Int] using next
  ·refine Ev.neg c ?_
   rw [wid (x := (s.ws.length : Int) - 1) (by omega) (by omega), mx_eq, show (if s.dp ≤ (s.ws.length : Int) - 1 then (s.ws.length : Int) - 1 else s.dp) = s.dp from by split <;> omega]
   by_cases h2 : 2 ≤ s.ws.length
   ·have key : ∀ s' : Hd.St, s'.OK n → s'.dp = s.dp → s'.ws.length = s.ws.length - 1 → Hd.runM ((bytesOf a1).drop (i + 1).toNat) s' = some sf → Ev (fun k => spec_DeepestStack.l0 k a1 s.dp ((s.ws.length : Int) - 1) (i + 1)) sf.dp := by
     intro s' o' e1 e2 hr
     have next := ih hlt (by omega) s' sf o' (by omega) hr
     rw [e1, e2, show ((s.ws.length - 1 : Nat) : Int) = (s.ws.length : Int) - 1 by omega] at next
     exact next
    by_cases c1 : bt a1 i = 76
    ·rw [c1, move_76 h2] at hrun
     exact key _ (o.left h2) rfl (by simp [Hd.leftS]; omega) hrun
    ·by_cases c2 : bt a1 i = 82
     ·rw [c2, move_82 h2] at hrun
      exact key _ (o.right h2) rfl (by simp [Hd.rightS]; omega) hrun
     ·rw [move_none c c1 c2] at hrun; cases hrun
   ·rw [move_short c (by omega)] at hrun; cases hrun
 ·have e : (bytesOf a1).drop i.toNat = [] := List.drop_eq_nil_of_le (by rw [bytesOf_length]; omega)
  rw [e] at hrun
  obtain rfl := Option.some.inj hrun
  exact Ev.neg hlt (Ev.now _)
theorem spec_DeepestStack_ev (a0 : Int) {a1 : ByteArray} (hs : a1.size ≤ 140737488351232) : Ev (fun k => spec_DeepestStack.f k a0 a1) (Mach.deepF a0 a1) := by
 unfold spec_DeepestStack.f
 refine Ev.bind (spec_RunStack_ev a0 hs) ?_
 unfold Mach.runF Mach.deepF
 cases h : Hd.ranS a0 (bytesOf a1) with
 | none => exact Ev.neg (by simp) (Ev.now _)
 | some s =>
  refine Ev.pos rfl ?_
  unfold Hd.ranS at h
  by_cases c : a0 < 1 ∨ 8 < a0
  ·rw [if_pos c] at h; cases h
  rw [if_neg c] at h
  cases e : Hd.runM (bytesOf a1) (Hd.St.start a0.toNat) with
  | none => rw [e] at h; cases h
  | some t =>
   rw [e, Option.bind_some] at h
   split at h
   ·cases h
   ·obtain rfl := Option.some.inj h
    exact spec_DeepestStack_l0 hs 0 (by omega) (by omega) (Hd.St.start a0.toNat) t (Hd.St.OK.start (by omega)) (by simp [Hd.St.start]) e

/-! impl_DeepestStack -/

theorem impl_DeepestStack_eq (a0 : Int) {a1 : ByteArray} (hs : a1.size ≤ 140737488351232) : impl_DeepestStack.f a0 a1 = some (Mach.deepF a0 a1) := if_pos hs


end Go.Proofs.Ytdckgafgidfplaa.QFnExactDeepestStack
