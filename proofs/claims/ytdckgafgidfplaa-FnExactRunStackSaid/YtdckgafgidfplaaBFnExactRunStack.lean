/- Contracts of the functions that the statement FnExactRunStack reaches: what each printed function comes to. -/
import Derived.Test.YtdckgafgidfplaaQFnExactRunStackx3
import Derived.Test.YtdckgafgidfplaaWSized
import Derived.Test.YtdckgafgidfplaaHdA
import Derived.Test.YtdckgafgidfplaaHdC
namespace Go.Proofs.Ytdckgafgidfplaa.PrintWords
/-- The name by which the printed row calls the word. -/
abbrev sized_ints := @Go.Proofs.YtdckgafgidfplaaW.PrintWords.sized_ints
end Go.Proofs.Ytdckgafgidfplaa.PrintWords
namespace Go.Proofs.Ytdckgafgidfplaa.QFnExactRunStack
open Go.RowKit Go.Proofs.YtdckgafgidfplaaW.PrintWords Go.Proofs.YtdckgafgidfplaaW.PrintLast Go.Proofs.YtdckgafgidfplaaW.PrintMore
set_option linter.unusedVariables false
set_option linter.unusedSimpArgs false
theorem wid {x : Int} (h : -9223372036854775808 ≤ x) (h' : x ≤ 9223372036854775807) : wrap64 x = x := by unfold wrap64; omega
theorem Ev.pos {α : Type} {c : Prop} [Decidable c] {A B : Nat → Option α} {r : α} (h : c) (e : Ev A r) : Ev (fun k => if c then A k else B k) r := by simpa only [if_pos h] using e
theorem Ev.neg {α : Type} {c : Prop} [Decidable c] {A B : Nat → Option α} {r : α} (h : ¬ c) (e : Ev B r) : Ev (fun k => if c then A k else B k) r := by simpa only [if_neg h] using e
theorem Ev.bindv {α β : Type} {o : Option α} {f : Nat → α → Option β} {a : α} {r : β} (h : o = some a) (k : Ev (fun n => f n a) r) : Ev (fun n => o.bind (f n)) r := by subst h; exact k
theorem Ev.ret {α : Type} {a r : α} (h : a = r) : Ev (fun _ => some a) r := h ▸ Ev.now a
theorem rd_hd {l : List Int} {a : Int} (h : 1 ≤ a) : rd l (a - 1) = Hd.hd l a := Hd.hd_get h
theorem rd_hd1 {l : List Int} {a : Int} (h : 0 ≤ a) : rd l a = Hd.hd l (a + 1) := by rw [← rd_hd (by omega)]; congr 1; omega
theorem mn_mx (a b : Int) : (mn a b = a ∧ mx a b = b ∧ a ≤ b) ∨ (mn a b = b ∧ mx a b = a ∧ b ≤ a) := by
 unfold mn mx
 split <;> split <;> omega
theorem h_or_i64 {a b : Nat} (ha : a < 256) (hb : b < 256) : Go.bits .or .i64 (a : Int) (b : Int) = ((a ||| b : Nat) : Int) :=
 (Go.bits_nat .i64 8 (by decide) (fun n h0 h1 => by rw [Go.IntKind.wrap_i64]; omega) a b (by omega) (by omega)).2
theorem h_shl_one {x : Nat} (h : x ≤ 7) : shl .i64 1 (x : Int) = ((2 ^ x : Nat) : Int) := by
 have : ∀ x : Nat, x < 8 → shl .i64 1 (x : Int) = ((2 ^ x : Nat) : Int) := by decide
 exact this x (by omega)
theorem h_shr_bit {v x : Nat} (h : x ≤ 64) : (Int.tmod (shr .i64 (v : Int) (x : Int)) 2 = 1) ↔ v.testBit x = true := by
 unfold shr
 rw [Int.toNat_natCast, Nat.min_eq_left (by simpa [Go.IntKind.bits] using h), Nat.testBit_eq_decide_div_mod_eq]
 have : ((v : Int) / 2 ^ x) = ((v / 2 ^ x : Nat) : Int) := by simp
 rw [this, Int.tmod_eq_emod_of_nonneg (Int.natCast_nonneg _), decide_eq_true_eq]
 omega
theorem h_shr_nat {v x : Nat} (h : x ≤ 64) : shr .i64 (v : Int) (x : Int) = ((v / 2 ^ x : Nat) : Int) := by
 unfold shr
 rw [Int.toNat_natCast, Nat.min_eq_left (by simpa [Go.IntKind.bits] using h)]
 simp
theorem h_and_i64 {a b : Nat} (ha : a < 512) (hb : b < 512) : Go.bits .and .i64 (a : Int) (b : Int) = ((a &&& b : Nat) : Int) :=
 (Go.bits_nat .i64 9 (by decide) (fun n h0 h1 => by rw [Go.IntKind.wrap_i64]; omega) a b (by omega) (by omega)).1
theorem h_rd_set {P : List Int} {i j : Int} {v : Int} (h0 : 0 ≤ i) (h1 : i < P.length) (hj : 0 ≤ j) : rd (P.set i.toNat v) j = if j = i then v else rd P j := by
 unfold rd
 rw [List.getD_eq_getElem?_getD, List.getElem?_set]
 by_cases e : j = i
 ·subst e
  rw [if_pos rfl, if_pos (by omega), if_pos rfl]; rfl
 ·rw [if_neg (by omega), if_neg e, List.getD_eq_getElem?_getD]
/-- Bytes of a code, as far as they are read. -/
def Bts (b : List Int) : Prop := b.length ≤ 2000 ∧ ∀ i : Int, 0 ≤ rd b i ∧ rd b i ≤ 255
theorem bts_rd {l : List Int} (h : ∀ x, x ∈ l → 0 ≤ x ∧ x ≤ 255) (i : Int) : 0 ≤ rd l i ∧ rd l i ≤ 255 := by
 unfold rd
 rw [List.getD_eq_getElem?_getD]
 by_cases hi : i.toNat < l.length
 ·rw [List.getElem?_eq_getElem hi]; exact h _ (List.getElem_mem hi)
 ·rw [List.getElem?_eq_none (by omega)]; simp
theorem Ev.lit {α : Type} {g : Nat → Option α} {r : α} (K : Nat) (h : ∀ m, g (m + K) = some r) : Ev g r := ⟨K, fun k hk => by obtain ⟨m, rfl⟩ := Nat.exists_eq_add_of_le' hk; exact h m⟩

/-! spec_l1In -/

theorem spec_l1In_eq (a b c : Int) : spec_l1In.f a b c = some (decide (b ≤ a ∧ a ≤ c)) := by
 unfold spec_l1In.f
 by_cases h : a ≥ b
 ·rw [if_pos h]; simp [h]
 ·rw [if_neg h]; simp; intro; omega

/-! spec_l6Run -/
theorem spec_l6Run.l0.ev {x0 : Int} {x1 : ByteArray} {x6 : List Int} {x7 : List Int} {x8 : Int} {x9 : Int} {r : List Int × Bool} (h : Ev (fun k => if x9 < (x1.size : Int) then (if 0 ≤ x9 then (if (bt x1 x9) = 83 then (spec_l6Run.j1 k x0 x1 x6 x7 x8 x9 (wrap64 ((x7.length : Int) - 1)) (decide (x8 ≤ x0))) else (spec_l6Run.j1 k x0 x1 x6 x7 x8 x9 (wrap64 ((x7.length : Int) - 1)) false)) else (none)) else (if (x7.length : Int) = 1 then (some (x6, decide (x8 > x0))) else (some (x6, false)))) r) : Ev (fun k => spec_l6Run.l0 k x0 x1 x6 x7 x8 x9) r := Ev.step (fun _ => rfl) h
theorem spec_l6Run.j1.ev {x0 : Int} {x1 : ByteArray} {x6 : List Int} {x7 : List Int} {x8 : Int} {x9 : Int} {x10 : Int} {x24 : Bool} {r : List Int × Bool} (h : Ev (fun k => if x24 = true then ((some (([x8] : List Int) : List Int)).bind fun y107 => (if x7.length + y107.length < 17592186044416 then (spec_l6Run.l0 k x0 x1 x6 (x7 ++ y107) (wrap64 (x8 + 1)) (wrap64 (x9 + 1))) else (none))) else (if 0 ≤ x9 then (if x9 < (x1.size : Int) then (if (bt x1 x9) = 76 then (spec_l6Run.j2 k x0 x1 x6 x7 x8 x9 x10 (decide (x10 ≥ 1))) else (spec_l6Run.j2 k x0 x1 x6 x7 x8 x9 x10 false)) else (none)) else (none))) r) : Ev (fun k => spec_l6Run.j1 k x0 x1 x6 x7 x8 x9 x10 x24) r := Ev.step (fun _ => rfl) h
theorem spec_l6Run.j2.ev {x0 : Int} {x1 : ByteArray} {x6 : List Int} {x7 : List Int} {x8 : Int} {x9 : Int} {x10 : Int} {x40 : Bool} {r : List Int × Bool} (h : Ev (fun k => if x40 = true then (if 0 ≤ (wrap64 (x10 - 1)) then (if (wrap64 (x10 - 1)) < (x7.length : Int) then (if 0 ≤ x10 then (if x10 < (x7.length : Int) then (if 0 ≤ (wrap64 ((rd x7 (wrap64 (x10 - 1))) - 1)) then (if (wrap64 ((rd x7 (wrap64 (x10 - 1))) - 1)) < (x6.length : Int) then ((some (([] : List Int) : List Int)).bind fun y116 => (if (wrap64 (x10 - 1)) ≤ (x7.length : Int) then ((some (x7.take ((wrap64 (x10 - 1)) : Int).toNat : List Int)).bind fun y119 => (if y116.length + y119.length < 17592186044416 then ((some (y116 ++ y119 : List Int)).bind fun y123 => ((some (([rd x7 x10] : List Int) : List Int)).bind fun y127 => (if y123.length + y127.length < 17592186044416 then (spec_l6Run.l0 k x0 x1 (x6.set ((wrap64 ((rd x7 (wrap64 (x10 - 1))) - 1)) : Int).toNat (rd x7 x10)) (y123 ++ y127) x8 (wrap64 (x9 + 1))) else (none)))) else (none))) else (none))) else (none)) else (none)) else (none)) else (none)) else (none)) else (none)) else (if 0 ≤ x9 then (if x9 < (x1.size : Int) then (if (bt x1 x9) = 82 then (if x10 ≥ 1 then (if 0 ≤ x10 then (if x10 < (x7.length : Int) then (if 0 ≤ (wrap64 (x10 - 1)) then (if (wrap64 (x10 - 1)) < (x7.length : Int) then (if 0 ≤ (wrap64 ((rd x7 x10) - 1)) then (if (wrap64 ((rd x7 x10) - 1)) < (x6.length : Int) then ((some (([] : List Int) : List Int)).bind fun y136 => (if x10 ≤ (x7.length : Int) then ((some (x7.take (x10 : Int).toNat : List Int)).bind fun y139 => (if y136.length + y139.length < 17592186044416 then (spec_l6Run.l0 k x0 x1 (x6.set ((wrap64 ((rd x7 x10) - 1)) : Int).toNat (rd x7 (wrap64 (x10 - 1)))) (y136 ++ y139) x8 (wrap64 (x9 + 1))) else (none))) else (none))) else (none)) else (none)) else (none)) else (none)) else (none)) else (none)) else (some ((([] : List Int)), false))) else (some ((([] : List Int)), false))) else (none)) else (none))) r) : Ev (fun k => spec_l6Run.j2 k x0 x1 x6 x7 x8 x9 x10 x40) r := Ev.step (fun _ => rfl) h
theorem bts_drop (a1 : ByteArray) (i : Int) (h0 : 0 ≤ i) (h : i < (a1.size : Int)) : (bytesOf a1).drop i.toNat = bt a1 i :: (bytesOf a1).drop (i + 1).toNat := by
 have hl : i.toNat < (bytesOf a1).length := by rw [bytesOf_length]; omega
 rw [List.drop_eq_getElem_cons hl, show (i + 1).toNat = i.toNat + 1 by omega]
 have e : (bytesOf a1)[i.toNat] = rd (bytesOf a1) i := by rw [rd, List.getD_eq_getElem?_getD, List.getElem?_eq_getElem hl]; rfl
 rw [e, rd_bytesOf]
def l6end (n : Nat) : Option Hd.St → List Int × Bool
 | none => ([], false)
 | some s => (s.hs, decide ((s.ws.length : Int) = 1) && decide (s.nx + 1 > (n : Int)))
theorem low_rd {s : Hd.St} (h : 2 ≤ s.ws.length) : rd s.ws ((s.ws.length : Int) - 1 - 1) = Hd.lowW s := by rw [rd, Hd.lowW, show ((s.ws.length : Int) - 1 - 1).toNat = s.ws.length - 2 by omega]
theorem top_rd {s : Hd.St} (h : 2 ≤ s.ws.length) : rd s.ws ((s.ws.length : Int) - 1) = Hd.topW s := by rw [rd, Hd.topW, show ((s.ws.length : Int) - 1).toNat = s.ws.length - 1 by omega]
theorem move_83 (s : Hd.St) : Hd.moveS 83 s = Hd.pushS s := if_pos rfl
theorem move_short {s : Hd.St} {m : Int} (c : m ≠ 83) (h : s.ws.length < 2) : Hd.moveS m s = none := by rw [Hd.moveS, if_neg c, if_pos h]
theorem move_76 {s : Hd.St} (h : 2 ≤ s.ws.length) : Hd.moveS 76 s = some (Hd.leftS s) := by rw [Hd.moveS, if_neg (by omega), if_neg (by omega), if_pos rfl]
theorem move_82 {s : Hd.St} (h : 2 ≤ s.ws.length) : Hd.moveS 82 s = some (Hd.rightS s) := by rw [Hd.moveS, if_neg (by omega), if_neg (by omega), if_neg (by omega), if_pos rfl]
theorem move_none {s : Hd.St} {m : Int} (c : m ≠ 83) (c1 : m ≠ 76) (c2 : m ≠ 82) : Hd.moveS m s = none := by
 simp [Hd.moveS, c, c1, c2]
theorem take_last {l : List Int} (h : 2 ≤ l.length) : l.take (l.length - 1) = l.take (l.length - 2) ++ [l.getD (l.length - 2) 0] := by
 rw [show l.length - 1 = (l.length - 2) + 1 by omega, List.take_succ_eq_append_getElem (by omega), List.getD_eq_getElem?_getD, List.getElem?_eq_getElem (by omega)]; rfl
theorem spec_l6Run_l0 {n : Nat} {a1 : ByteArray} (hs : a1.size ≤ 140737488351232) : ∀ i : Int, i ≤ (a1.size : Int) → 0 ≤ i → ∀ s : Hd.St, s.OK n → Ev (fun k => spec_l6Run.l0 k n a1 s.hs s.ws (s.nx + 1) i) (l6end n (Hd.runM ((bytesOf a1).drop i.toNat) s)) := by
 refine Hd.down ?_
 intro i hi ih h0 s o
 have hl := o.len; have h8 := o.n8; have hn0 := o.nx0; have hn1 := o.nx1; have hw := o.wl
 refine spec_l6Run.l0.ev ?_
 by_cases hlt : i < (a1.size : Int)
 ·refine Ev.pos hlt (Ev.pos h0 ?_)
  rw [bts_drop a1 i h0 hlt]
  simp only [Hd.runM]
  rw [wid (x := (s.ws.length : Int) - 1) (by omega) (by omega)]
  by_cases c : bt a1 i = 83
  ·rw [c, move_83]
   refine Ev.pos rfl (spec_l6Run.j1.ev ?_)
   by_cases hn : s.nx + 1 ≤ n
   ·have e : Hd.pushS s = some ⟨s.ws ++ [s.nx + 1], s.nx + 1, s.hs, if s.dp ≤ (s.ws.length : Int) + 1 then (s.ws.length : Int) + 1 else s.dp⟩ := if_neg (by omega)
    refine Ev.pos (by simp [hn]) (Ev.bindv rfl (Ev.pos (by simp; omega) ?_))
    rw [wid (x := s.nx + 1 + 1) (by omega) (by omega), wid (x := i + 1) (by omega) (by omega), e]
    exact ih hlt (by omega) _ (o.push e)
   ·have e : Hd.pushS s = none := if_pos (by omega)
    rw [e]
    refine Ev.neg (by simp [hn]) (Ev.pos h0 (Ev.pos hlt (Ev.neg (by omega) ?_)))
    exact spec_l6Run.j2.ev (Ev.neg (by simp) (Ev.pos h0 (Ev.pos hlt (Ev.neg (by omega) (Ev.now _)))))
  ·refine Ev.neg c (spec_l6Run.j1.ev (Ev.neg (by simp) (Ev.pos h0 (Ev.pos hlt ?_))))
   by_cases h2 : 2 ≤ s.ws.length
   ·have ol := o.low h2
    have ot := o.top (by omega)
    by_cases c1 : bt a1 i = 76
    ·rw [c1, move_76 h2]
     refine Ev.pos rfl (spec_l6Run.j2.ev (Ev.pos (by simp; omega) ?_))
     rw [wid (x := (s.ws.length : Int) - 1 - 1) (by omega) (by omega), low_rd h2, top_rd h2, wid (x := Hd.lowW s - 1) (by omega) (by omega), wid (x := i + 1) (by omega) (by omega)]
     refine Ev.pos (by omega) (Ev.pos (by omega) (Ev.pos (by omega) (Ev.pos (by omega) (Ev.pos (by omega) (Ev.pos (by omega) (Ev.bindv rfl (Ev.pos (by omega) (Ev.bindv rfl (Ev.pos (by simp; omega) (Ev.bindv rfl (Ev.bindv rfl (Ev.pos (by simp; omega) ?_))))))))))))
     rw [List.nil_append, show ((s.ws.length : Int) - 1 - 1).toNat = s.ws.length - 2 by omega]
     exact ih hlt (by omega) _ (o.left h2)
    ·refine Ev.neg c1 (spec_l6Run.j2.ev (Ev.neg (by simp) (Ev.pos h0 (Ev.pos hlt ?_))))
     by_cases c2 : bt a1 i = 82
     ·rw [c2, move_82 h2]
      refine Ev.pos rfl (Ev.pos (by omega) ?_)
      rw [wid (x := (s.ws.length : Int) - 1 - 1) (by omega) (by omega), low_rd h2, top_rd h2, wid (x := Hd.topW s - 1) (by omega) (by omega), wid (x := i + 1) (by omega) (by omega)]
      refine Ev.pos (by omega) (Ev.pos (by omega) (Ev.pos (by omega) (Ev.pos (by omega) (Ev.pos (by omega) (Ev.pos (by omega) (Ev.bindv rfl (Ev.pos (by omega) (Ev.bindv rfl (Ev.pos (by simp; omega) ?_)))))))))
      rw [List.nil_append, show ((s.ws.length : Int) - 1).toNat = s.ws.length - 1 by omega, take_last h2]
      exact ih hlt (by omega) _ (o.right h2)
     ·rw [move_none c c1 c2]
      exact Ev.neg c2 (Ev.now _)
   ·rw [move_short c (by omega)]
    by_cases c1 : bt a1 i = 76
    ·refine Ev.pos c1 (spec_l6Run.j2.ev (Ev.neg (by simp; omega) (Ev.pos h0 (Ev.pos hlt (Ev.neg (by omega) (Ev.now _))))))
    ·refine Ev.neg c1 (spec_l6Run.j2.ev (Ev.neg (by simp) (Ev.pos h0 (Ev.pos hlt ?_))))
     by_cases c2 : bt a1 i = 82
     ·exact Ev.pos c2 (Ev.neg (by omega) (Ev.now _))
     ·exact Ev.neg c2 (Ev.now _)
 ·have e : (bytesOf a1).drop i.toNat = [] := List.drop_eq_nil_of_le (by rw [bytesOf_length]; omega)
  rw [e]
  refine Ev.neg hlt ?_
  simp only [Hd.runM, l6end]
  by_cases c : (s.ws.length : Int) = 1
  ·refine Ev.pos c (Ev.ret ?_); simp [c]
  ·refine Ev.neg c (Ev.ret ?_); simp [c]
theorem spec_l6Run_ev {n : Nat} (h8 : n ≤ 8) {a1 : ByteArray} (hs : a1.size ≤ 140737488351232) : Ev (fun k => spec_l6Run.f k n a1) (l6end n (Hd.runM (bytesOf a1) (Hd.St.start n))) := by
 unfold spec_l6Run.f
 refine Ev.pos (by omega) (Ev.pos (by omega) ?_)
 exact spec_l6Run_l0 hs 0 (by omega) (by omega) (Hd.St.start n) (Hd.St.OK.start h8)

/-! spec_RunStack -/

theorem spec_RunStack_ev (a0 : Int) {a1 : ByteArray} (hs : a1.size ≤ 140737488351232) : Ev (fun k => spec_RunStack.f k a0 a1) (Mach.runF a0 a1) := by
 unfold spec_RunStack.f Mach.runF Hd.ranS
 by_cases h : a0 < 1 ∨ 8 < a0
 ·rw [if_pos h]
  refine Ev.bindv (spec_l1In_eq _ _ _) (Ev.neg (by simp; omega) (Ev.now _))
 ·rw [if_neg h]
  obtain ⟨n, rfl⟩ : ∃ n : Nat, a0 = n := ⟨a0.toNat, by omega⟩
  refine Ev.bindv (spec_l1In_eq _ _ _) (Ev.pos (by simp; omega) (Ev.bind (spec_l6Run_ev (by omega) hs) ?_))
  rw [Int.toNat_natCast]
  cases Hd.runM (bytesOf a1) (Hd.St.start n) with
  | none => exact Ev.neg (by simp [l6end]) (Ev.now _)
  | some s =>
   simp only [l6end, Option.bind_some]
   by_cases c : s.nx < n ∨ s.ws.length ≠ 1
   ·rw [if_pos c]; exact Ev.neg (by simp; omega) (Ev.now _)
   ·rw [if_neg c]; exact Ev.pos (by simp; omega) (Ev.now _)

/-! impl_RunStack -/

theorem runF_len (a0 : Int) (a1 : ByteArray) : (Mach.runF a0 a1).1.length ≤ 8 := by
 unfold Mach.runF Hd.ranS
 by_cases h : a0 < 1 ∨ 8 < a0
 ·rw [if_pos h]; simp
 ·rw [if_neg h]
  cases e : Hd.runM (bytesOf a1) (Hd.St.start a0.toNat) with
  | none => simp
  | some s =>
   have o := (Hd.St.OK.start (n := a0.toNat) (by omega)).run e
   have := o.len; have := o.n8
   simp only [Option.bind_some]
   by_cases c : s.nx < a0 ∨ s.ws.length ≠ 1
   ·rw [if_pos c]; simp
   ·rw [if_neg c]; simp only; omega
theorem impl_RunStack_eq (a0 : Int) {a1 : ByteArray} (hs : a1.size ≤ 140737488351232) : impl_RunStack.f a0 a1 = some (Mach.runF a0 a1) := if_pos hs

/-! laws_eqIntS -/
theorem laws_eqIntS.l0.ev {x0 : List Int} {x1 : List Int} {x5 : Int} {r : Bool} (h : Ev (fun k => if x5 < (x0.length : Int) then (if 0 ≤ x5 then (if x5 < (x1.length : Int) then (if (rd x0 x5) = (rd x1 x5) then (laws_eqIntS.l0 k x0 x1 (wrap64 (x5 + 1))) else (some false)) else (none)) else (none)) else (some true)) r) : Ev (fun k => laws_eqIntS.l0 k x0 x1 x5) r := Ev.step (fun _ => rfl) h
theorem laws_eqIntS_l0 {a b : List Int} (hl : a.length ≤ 4611686018427387904) (he : a.length = b.length) : ∀ i : Int, i ≤ a.length → 0 ≤ i → a.take i.toNat = b.take i.toNat → Ev (fun k => laws_eqIntS.l0 k a b i) (decide (a = b)) := by
 refine Hd.down ?_
 intro i hi ih h0 ht
 refine laws_eqIntS.l0.ev ?_
 by_cases hlt : i < a.length
 ·rw [wid (x := i + 1) (by omega) (by omega)]
  refine Ev.pos hlt (Ev.pos h0 (Ev.pos (by omega) ?_))
  obtain ⟨j, rfl⟩ := Int.eq_ofNat_of_zero_le h0
  have hj : j < a.length := by omega
  have hj2 : j < b.length := by omega
  simp only [Int.toNat_natCast] at *
  have ga : rd a j = a[j] := by simp [rd, List.getD_eq_getElem?_getD, List.getElem?_eq_getElem hj]
  have gb : rd b j = b[j] := by simp [rd, List.getD_eq_getElem?_getD, List.getElem?_eq_getElem hj2]
  by_cases e : rd a j = rd b j
  ·refine Ev.pos e (ih hlt (by omega) ?_)
   rw [show ((j : Int) + 1).toNat = j + 1 from by omega, List.take_succ_eq_append_getElem hj, List.take_succ_eq_append_getElem hj2, ht, ← ga, ← gb, e]
  ·refine Ev.neg e (Ev.ret ?_)
   have : a ≠ b := fun h => e (by rw [h])
   simp [this]
 ·refine Ev.neg hlt (Ev.ret ?_)
  rw [show i.toNat = a.length from by omega] at ht
  rw [List.take_length, he, List.take_length] at ht
  simp [ht]
theorem laws_eqIntS_ev {a b : List Int} (hl : a.length ≤ 1048576) : Ev (fun k => laws_eqIntS.f k a b) (decide (a = b)) := by
 unfold laws_eqIntS.f
 by_cases e : a.length = b.length
 ·refine Ev.pos (by omega) ?_
  exact laws_eqIntS_l0 (by omega) e 0 (by omega) (by omega) (by simp)
 ·refine Ev.neg (by omega) (Ev.ret ?_)
  have : a ≠ b := fun h => e (by rw [h])
  simp [this]

/-! laws_markIntS -/
theorem laws_markIntS.l0.ev {x0 : List Int} {x1 : Int} {x5 : Int} {r : Int × List Int} (h : Ev (fun k => if x5 < (x0.length : Int) then (if 0 ≤ x5 then (laws_markIntS.l0 k (x0.set (x5 : Int).toNat x1) (wrap64 (x1 + 1)) (wrap64 (x5 + 1))) else (none)) else (some (x1, x0))) r) : Ev (fun k => laws_markIntS.l0 k x0 x1 x5) r := Ev.step (fun _ => rfl) h
theorem laws_markIntS_l0 {l : List Int} (hl : l.length ≤ 1048600) {c : Int} (hc : 0 ≤ c) (hc2 : c ≤ 1000000000000) : ∀ i : Int, i ≤ l.length → 0 ≤ i → Ev (fun k => laws_markIntS.l0 k (Hd.tab (fun a => c + a - 1) i.toNat ++ l.drop i.toNat) (c + i) i) (c + l.length, Hd.tab (fun a => c + a - 1) l.length) := by
 refine Hd.down ?_
 intro i hi ih h0
 refine laws_markIntS.l0.ev ?_
 have hlen : (Hd.tab (fun a => c + a - 1) i.toNat ++ l.drop i.toNat).length = l.length := by rw [List.length_append, Hd.tab_length, List.length_drop]; omega
 rw [hlen]
 by_cases hlt : i < l.length
 ·rw [wid (x := c + i + 1) (by omega) (by omega), wid (x := i + 1) (by omega) (by omega)]
  refine Ev.pos hlt (Ev.pos h0 ?_)
  have next := ih hlt (by omega)
  obtain ⟨j, rfl⟩ := Int.eq_ofNat_of_zero_le h0
  rw [show ((j : Int) + 1).toNat = j + 1 from by omega, show c + ((j : Int) + 1) = c + j + 1 from by omega] at next
  simp only [Int.toNat_natCast] at *
  have e : (Hd.tab (fun a => c + a - 1) j ++ l.drop j).set j (c + (j : Int)) = Hd.tab (fun a => c + a - 1) (j + 1) ++ l.drop (j + 1) := by
   rw [List.set_append, if_neg (by rw [Hd.tab_length]; omega), Hd.tab_length, Nat.sub_self, List.drop_eq_getElem_cons (show j < l.length by omega), List.set_cons_zero]
   simp only [Hd.tab, List.append_assoc, List.singleton_append]
   congr 2; omega
  rw [e]; exact next
 ·refine Ev.neg hlt (Ev.ret ?_)
  rw [show i.toNat = l.length from by omega, List.drop_length, List.append_nil, show i = (l.length : Int) from by omega]
theorem laws_markIntS_ev {l : List Int} (hl : l.length ≤ 1048600) {c : Int} (hc : 0 ≤ c) (hc2 : c ≤ 1000000000000) : Ev (fun k => laws_markIntS.f k l c) (c + l.length, Hd.tab (fun a => c + a - 1) l.length) := by
 have := laws_markIntS_l0 hl hc hc2 0 (by omega) (by omega)
 simp only [Int.toNat_zero, Hd.tab, List.drop_zero, List.nil_append, Int.add_zero] at this
 exact this

/-! laws_heldIntS -/
theorem laws_heldIntS.l0.ev {x0 : List Int} {x1 : Int} {x5 : Int} {r : Int} (h : Ev (fun k => if x5 < (x0.length : Int) then (if 0 ≤ x5 then (if (rd x0 x5) = x1 then (laws_heldIntS.l0 k x0 (wrap64 (x1 + 1)) (wrap64 (x5 + 1))) else (some (-1))) else (none)) else (some x1)) r) : Ev (fun k => laws_heldIntS.l0 k x0 x1 x5) r := Ev.step (fun _ => rfl) h
theorem laws_heldIntS_l0 {n : Nat} (hn : n ≤ 1048600) {c : Int} (hc : 0 ≤ c) (hc2 : c ≤ 1000000000000) : ∀ i : Int, i ≤ n → 0 ≤ i → Ev (fun k => laws_heldIntS.l0 k (Hd.tab (fun a => c + a - 1) n) (c + i) i) (c + n) := by
 refine Hd.down ?_
 intro i hi ih h0
 refine laws_heldIntS.l0.ev ?_
 rw [Hd.tab_length]
 by_cases hlt : i < n
 ·rw [wid (x := c + i + 1) (by omega) (by omega), wid (x := i + 1) (by omega) (by omega)]
  have next := ih hlt (by omega)
  rw [show c + (i + 1) = c + i + 1 from by omega] at next
  refine Ev.pos hlt (Ev.pos h0 (Ev.pos ?_ next))
  unfold rd
  rw [Hd.tab_get _ _ (show i.toNat < n by omega)]; omega
 ·refine Ev.neg hlt (Ev.ret ?_)
  omega
theorem laws_heldIntS_ev {n : Nat} (hn : n ≤ 1048600) {c : Int} (hc : 0 ≤ c) (hc2 : c ≤ 1000000000000) : Ev (fun k => laws_heldIntS.f k (Hd.tab (fun a => c + a - 1) n) c) (c + n) := by
 have := laws_heldIntS_l0 hn hc hc2 0 (by omega) (by omega)
 simp only [Int.add_zero] at this
 exact this

theorem laws_FnExactRunStack.j0.ev {x0 : Int} {x1 : ByteArray} {x5 : List Int} {x6 : Bool} {x7 : List Int} {x36 : Bool} {r : Bool} (h : Ev (fun k => if x36 = true then (some false) else ((laws_markIntS.f k x7 1).bind fun bt179 => ((laws_heldIntS.f k bt179.2 1).bind fun t181 => (if t181 < 0 then (some false) else (if t181 = bt179.1 then ((impl_RunStack.f x0 x1).bind fun bt182 => ((laws_eqIntS.f k bt182.1 x5).bind fun t186 => (if t186 = true then (laws_FnExactRunStack.j1 k bt179.2 bt179.1 (bt182.2 != x6)) else (laws_FnExactRunStack.j1 k bt179.2 bt179.1 true)))) else (some false)))))) r) : Ev (fun k => laws_FnExactRunStack.j0 k x0 x1 x5 x6 x7 x36) r := Ev.step (fun _ => rfl) h
theorem laws_FnExactRunStack.j1.ev {x7 : List Int} {x9 : Int} {x62 : Bool} {r : Bool} (h : Ev (fun k => if x62 = true then (some false) else ((laws_heldIntS.f k x7 1).bind fun t187 => (if t187 < 0 then (some false) else (if t187 = x9 then (some true) else (some false))))) r) : Ev (fun k => laws_FnExactRunStack.j1 k x7 x9 x62) r := Ev.step (fun _ => rfl) h
end Go.Proofs.Ytdckgafgidfplaa.QFnExactRunStack
