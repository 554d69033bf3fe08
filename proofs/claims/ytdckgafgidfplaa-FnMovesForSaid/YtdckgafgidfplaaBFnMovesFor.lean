/- Contracts of the functions that the statement FnMovesFor reaches: what each printed function comes to. -/
import Derived.Test.YtdckgafgidfplaaQFnMovesForx9
import Derived.Test.YtdckgafgidfplaaWSized
import Derived.Test.YtdckgafgidfplaaHd8
import Derived.Test.YtdckgafgidfplaaHdE
namespace Go.Proofs.Ytdckgafgidfplaa.PrintWords
/-- The name by which the printed row calls the word. -/
abbrev sized_ints := @Go.Proofs.YtdckgafgidfplaaW.PrintWords.sized_ints
end Go.Proofs.Ytdckgafgidfplaa.PrintWords
namespace Go.Proofs.Ytdckgafgidfplaa.QFnMovesFor
open Go.RowKit Go.Proofs.YtdckgafgidfplaaW.PrintWords Go.Proofs.YtdckgafgidfplaaW.PrintLast Go.Proofs.YtdckgafgidfplaaW.PrintMore
set_option linter.unusedVariables false
set_option linter.unusedSimpArgs false
theorem wid {x : Int} (h : -9223372036854775808 ≤ x) (h' : x ≤ 9223372036854775807) : wrap64 x = x := by unfold wrap64; omega
theorem Ev.pos {α : Type} {c : Prop} [Decidable c] {A B : Nat → Option α} {r : α} (h : c) (e : Ev A r) : Ev (fun k => if c then A k else B k) r := by simpa only [if_pos h] using e
theorem Ev.neg {α : Type} {c : Prop} [Decidable c] {A B : Nat → Option α} {r : α} (h : ¬ c) (e : Ev B r) : Ev (fun k => if c then A k else B k) r := by simpa only [if_neg h] using e
theorem Ev.bindv {α β : Type} {o : Option α} {f : Nat → α → Option β} {a : α} {r : β} (h : o = some a) (k : Ev (fun n => f n a) r) : Ev (fun n => o.bind (f n)) r := by subst h; exact k
theorem Ev.ret {α : Type} {a r : α} (h : a = r) : Ev (fun _ => some a) r := h ▸ Ev.now a
theorem rd_hd {l : List Int} {a : Int} (h : 1 ≤ a) : rd l (a - 1) = Hd.hd l a := Hd.hd_get h
theorem rd_hd1 {l : List Int} {a : Int} (h : 0 ≤ a) : rd l a = Hd.hd l (a + 1) := by rw [← rd_hd (by omega)]; congr 1; omega
theorem mn_mx (a b : Int) : (mn a b = a ∧ mx a b = b ∧ a ≤ b) ∨ (mn a b = b ∧ mx a b = a ∧ b ≤ a) := by
 unfold mn mx
 split <;> split <;> omega
theorem h_or_i64 {a b : Nat} (ha : a < 256) (hb : b < 256) : Go.bits .or .i64 (a : Int) (b : Int) = ((a ||| b : Nat) : Int) :=
 (Go.bits_nat .i64 8 (by decide) (fun n h0 h1 => by rw [Go.IntKind.wrap_i64]; omega) a b (by omega) (by omega)).2
theorem h_shl_one {x : Nat} (h : x ≤ 7) : shl .i64 1 (x : Int) = ((2 ^ x : Nat) : Int) := by
 have : ∀ x : Nat, x < 8 → shl .i64 1 (x : Int) = ((2 ^ x : Nat) : Int) := by decide
 exact this x (by omega)
theorem h_shr_bit {v x : Nat} (h : x ≤ 64) : (Int.tmod (shr .i64 (v : Int) (x : Int)) 2 = 1) ↔ v.testBit x = true := by
 unfold shr
 rw [Int.toNat_natCast, Nat.min_eq_left (by simpa [Go.IntKind.bits] using h), Nat.testBit_eq_decide_div_mod_eq]
 have : ((v : Int) / 2 ^ x) = ((v / 2 ^ x : Nat) : Int) := by simp
 rw [this, Int.tmod_eq_emod_of_nonneg (Int.natCast_nonneg _), decide_eq_true_eq]
 omega
theorem h_shr_nat {v x : Nat} (h : x ≤ 64) : shr .i64 (v : Int) (x : Int) = ((v / 2 ^ x : Nat) : Int) := by
 unfold shr
 rw [Int.toNat_natCast, Nat.min_eq_left (by simpa [Go.IntKind.bits] using h)]
 simp
theorem h_and_i64 {a b : Nat} (ha : a < 512) (hb : b < 512) : Go.bits .and .i64 (a : Int) (b : Int) = ((a &&& b : Nat) : Int) :=
 (Go.bits_nat .i64 9 (by decide) (fun n h0 h1 => by rw [Go.IntKind.wrap_i64]; omega) a b (by omega) (by omega)).1
theorem h_rd_set {P : List Int} {i j : Int} {v : Int} (h0 : 0 ≤ i) (h1 : i < P.length) (hj : 0 ≤ j) : rd (P.set i.toNat v) j = if j = i then v else rd P j := by
 unfold rd
 rw [List.getD_eq_getElem?_getD, List.getElem?_set]
 by_cases e : j = i
 rotate_left
 ·rw [if_neg (by omega), if_neg e, List.getD_eq_getElem?_getD]
 subst e
 rw [if_pos rfl, if_pos (by omega), if_pos rfl]; rfl
/-- Bytes of a code, as far as they are read. -/
def Bts (b : List Int) : Prop := b.length ≤ 2000 ∧ ∀ i : Int, 0 ≤ rd b i ∧ rd b i ≤ 255
theorem bts_rd {l : List Int} (h : ∀ x, x ∈ l → 0 ≤ x ∧ x ≤ 255) (i : Int) : 0 ≤ rd l i ∧ rd l i ≤ 255 := by
 unfold rd
 rw [List.getD_eq_getElem?_getD]
 by_cases hi : i.toNat < l.length
 rotate_left
 ·rw [List.getElem?_eq_none (by omega)]; simp
 rw [List.getElem?_eq_getElem hi]; exact h _ (List.getElem_mem hi)
theorem Ev.lit {α : Type} {g : Nat → Option α} {r : α} (K : Nat) (h : ∀ m, g (m + K) = some r) : Ev g r := ⟨K, fun k hk => by obtain ⟨m, rfl⟩ := Nat.exists_eq_add_of_le' hk; exact h m⟩
theorem rd_at {l : List Int} {j : Nat} (h : j < l.length) : rd l (j : Int) = l[j] := by
 simp [rd, List.getD_eq_getElem?_getD, List.getElem?_eq_getElem h]

/-! impl_steps -/
theorem impl_steps.l0.ev {x0 : List Int} {x1 : Int} {x7 : Int} {x8 : Int} {r : Int} (h : Ev (fun k => if x8 < x7 then (if 0 ≤ (wrap64 (x1 - 1)) then (if (wrap64 (x1 - 1)) < (x0.length : Int) then (if (rd x0 (wrap64 (x1 - 1))) = 0 then (some x8) else (impl_steps.l0 k x0 (rd x0 (wrap64 (x1 - 1))) x7 (wrap64 (x8 + 1)))) else (none)) else (none)) else (some (-1))) r) : Ev (fun k => impl_steps.l0 k x0 x1 x7 x8) r := Ev.step (fun _ => rfl) h
theorem impl_steps_l0 {l : List Int} (v : Hd.Vals l) (h8 : l.length ≤ 8) : ∀ (d : Nat) (m w : Int), 0 ≤ m → m + d = l.length → 1 ≤ w → w ≤ l.length →
  Ev (fun k => impl_steps.l0 k l w l.length m) (if Hd.it (Hd.hd l) d w = 0 then m + Hd.depF (Hd.hd l) d w else -1)
 | 0, m, w, h0, hd, h1, h2 => by
  refine impl_steps.l0.ev ?_
  rw [if_neg (show ¬ Hd.it (Hd.hd l) 0 w = 0 from fun e => by have : w = 0 := e; omega)]
  exact Ev.neg (by omega) (Ev.now _)
 | d + 1, m, w, h0, hd, h1, h2 => by
  refine impl_steps.l0.ev ?_
  rw [wid (x := w - 1) (by omega) (by omega), wid (x := m + 1) (by omega) (by omega), rd_hd h1]
  refine Ev.pos (by omega) (Ev.pos (by omega) (Ev.pos (by omega) ?_))
  by_cases hz : Hd.hd l w = 0
  ·refine Ev.pos hz (Ev.ret ?_)
   have : Hd.it (Hd.hd l) (d + 1) w = 0 := by show Hd.it (Hd.hd l) d (Hd.hd l w) = 0; rw [hz]; exact Hd.it_zero (Hd.hd_zero l) d
   rw [if_pos this, Hd.depF, if_pos hz]; simp
  refine Ev.neg hz ?_
  have := v w h1 h2
  have ih := impl_steps_l0 v h8 d (m + 1) (Hd.hd l w) (by omega) (by omega) (by omega) (by omega)
  have e : Hd.it (Hd.hd l) (d + 1) w = Hd.it (Hd.hd l) d (Hd.hd l w) := rfl
  rw [e, Hd.depF, if_neg hz]
  have e2 : m + ((Hd.depF (Hd.hd l) d (Hd.hd l w) + 1 : Nat) : Int) = m + 1 + (Hd.depF (Hd.hd l) d (Hd.hd l w) : Nat) := by omega
  rw [e2]; exact ih
theorem impl_steps_ev {l : List Int} (v : Hd.Vals l) (h8 : l.length ≤ 8) {w : Int} (h1 : 1 ≤ w) (h2 : w ≤ l.length) :
  Ev (fun k => impl_steps.f k l w) (if Hd.it (Hd.hd l) l.length w = 0 then (Hd.depF (Hd.hd l) l.length w : Int) else -1) := by
 have := impl_steps_l0 v h8 l.length 0 w (by omega) (by omega) h1 h2
 simp only [Int.zero_add] at this
 exact this

/-! impl_TreeOk -/
theorem impl_TreeOk.j0.ev {x0 : List Int} {x14 : Bool} {r : Bool} (h : Ev (fun k => if x14 = true then (some false) else (impl_TreeOk.l0 k x0 0 x0 (x0.length : Int) 0)) r) : Ev (fun k => impl_TreeOk.j0 k x0 x14) r := Ev.step (fun _ => rfl) h
theorem impl_TreeOk.l0.ev {x0 : List Int} {x3 : Int} {x15 : List Int} {x16 : Int} {x17 : Int} {r : Bool} (h : Ev (fun k => if x17 < x16 then (if 0 ≤ x17 then (if x17 < (x15.length : Int) then (if (rd x15 x17) < 0 then (impl_TreeOk.j2 k x0 x3 (rd x15 x17) x15 x16 x17 true) else (impl_TreeOk.j2 k x0 x3 (rd x15 x17) x15 x16 x17 (decide ((rd x15 x17) > (x0.length : Int))))) else (none)) else (none)) else (impl_TreeOk.l1 k x0 x3 (x0.length : Int) 0)) r) : Ev (fun k => impl_TreeOk.l0 k x0 x3 x15 x16 x17) r := Ev.step (fun _ => rfl) h
theorem impl_TreeOk.j2.ev {x0 : List Int} {x3 : Int} {x5 : Int} {x15 : List Int} {x16 : Int} {x17 : Int} {x28 : Bool} {r : Bool} (h : Ev (fun k => if x28 = true then (some false) else (if x5 = 0 then (impl_TreeOk.l0 k x0 (wrap64 (x3 + 1)) x15 x16 (wrap64 (x17 + 1))) else (impl_TreeOk.l0 k x0 x3 x15 x16 (wrap64 (x17 + 1))))) r) : Ev (fun k => impl_TreeOk.j2 k x0 x3 x5 x15 x16 x17 x28) r := Ev.step (fun _ => rfl) h
theorem impl_TreeOk.l1.ev {x0 : List Int} {x3 : Int} {x35 : Int} {x36 : Int} {r : Bool} (h : Ev (fun k => if x36 < x35 then ((impl_steps.f k x0 (wrap64 (x36 + 1))).bind fun t103 => (if t103 < 0 then (some false) else (impl_TreeOk.l1 k x0 x3 x35 (wrap64 (x36 + 1))))) else (some (x3 == 1))) r) : Ev (fun k => impl_TreeOk.l1 k x0 x3 x35 x36) r := Ev.step (fun _ => rfl) h
theorem impl_TreeOk_l1 {l : List Int} (v : Hd.Vals l) (h8 : l.length ≤ 8) {c : Int} (hc : c = Hd.zeros l l.length) : ∀ i : Int, i ≤ l.length → 0 ≤ i → (∀ a : Int, 1 ≤ a → a ≤ i → Hd.it (Hd.hd l) l.length a = 0) →
  Ev (fun k => impl_TreeOk.l1 k l c l.length i) (Hd.treeB l) := by
 refine Hd.down ?_
 intro i hi ih h0 hb
 refine impl_TreeOk.l1.ev ?_
 by_cases hlt : i < l.length
 rotate_left
 ·refine Ev.neg hlt (Ev.ret ?_)
  have t := Hd.T_iff h8 v (fun a h1 h2 => hb a h1 (by omega))
  by_cases e : Hd.zeros l l.length = 1
  ·rw [Hd.treeB_yes (t.2 e), hc, e]; rfl
  rw [Hd.treeB_no (fun x => e (t.1 x)), hc]; simp; omega
 rw [wid (x := i + 1) (by omega) (by omega)]
 refine Ev.pos hlt (Ev.bind (impl_steps_ev v h8 (by omega) (by omega)) ?_)
 by_cases hz : Hd.it (Hd.hd l) l.length (i + 1) = 0
 rotate_left
 ·rw [if_neg hz, Hd.treeB_no (fun t => hz (t.2.back _ (by omega) (by omega)))]
  exact Ev.pos (by omega) (Ev.now _)
 rw [if_pos hz]
 refine Ev.neg (by omega) (ih hlt (by omega) fun a h1 h2 => ?_)
 by_cases e : a = i + 1
 ·rw [e]; exact hz
 exact hb a h1 (by omega)
theorem impl_TreeOk_l0 {l : List Int} (h8 : l.length ≤ 8) : ∀ i : Int, i ≤ l.length → 0 ≤ i → (∀ a : Int, 1 ≤ a → a ≤ i → 0 ≤ Hd.hd l a ∧ Hd.hd l a ≤ l.length) →
  Ev (fun k => impl_TreeOk.l0 k l (Hd.zeros l i.toNat) l l.length i) (Hd.treeB l) := by
 refine Hd.down ?_
 intro i hi ih h0 hb
 refine impl_TreeOk.l0.ev ?_
 by_cases hlt : i < l.length
 rotate_left
 ·refine Ev.neg hlt ?_
  have e : i.toNat = l.length := by omega
  rw [e]
  exact impl_TreeOk_l1 (fun a h1 h2 => hb a h1 (by omega)) h8 rfl 0 (by omega) (by omega) (fun a h1 h2 => by omega)
 have hz := Hd.cnt_le (fun a => decide (Hd.hd l a = 0)) i.toNat
 have hzz : Hd.zeros l (i + 1).toNat = Hd.zeros l i.toNat + if Hd.hd l (i + 1) = 0 then 1 else 0 := by
  rw [show (i + 1).toNat = i.toNat + 1 from by omega]
  show Hd.cnt _ (i.toNat + 1) = _
  rw [Hd.cnt, show ((i.toNat : Int) + 1) = i + 1 from by omega]
  simp [Hd.zeros]
 have hz' : Hd.zeros l i.toNat ≤ i.toNat := hz
 rw [rd_hd1 h0]
 refine Ev.pos hlt (Ev.pos h0 (Ev.pos hlt ?_))
 have no : ¬ (0 ≤ Hd.hd l (i + 1) ∧ Hd.hd l (i + 1) ≤ l.length) → Hd.treeB l = false := fun hn => Hd.treeB_no fun t => hn (t.vals _ (by omega) (by omega))
 by_cases hneg : Hd.hd l (i + 1) < 0
 ·refine Ev.pos hneg (impl_TreeOk.j2.ev (Ev.pos rfl (Ev.ret ?_)))
  rw [no (by omega)]
 refine Ev.neg hneg (impl_TreeOk.j2.ev ?_)
 by_cases hbig : Hd.hd l (i + 1) > l.length
 ·refine Ev.pos (by simpa using hbig) (Ev.ret ?_)
  rw [no (by omega)]
 refine Ev.neg (by simpa using hbig) ?_
 rw [wid (x := (Hd.zeros l i.toNat : Int) + 1) (by omega) (by omega), wid (x := i + 1) (by omega) (by omega)]
 have next := ih hlt (by omega) (fun a h1 h2 => by
  by_cases e : a = i + 1
  ·rw [e]; omega
  exact hb a h1 (by omega))
 rw [hzz] at next
 by_cases h00 : Hd.hd l (i + 1) = 0
 rotate_left
 ·rw [if_neg h00] at next
  exact Ev.neg h00 next
 rw [if_pos h00] at next
 exact Ev.pos h00 next
theorem impl_TreeOk_ev (l : List Int) : Ev (fun k => impl_TreeOk.f k l) (Hd.treeB l) := by
 unfold impl_TreeOk.f
 by_cases h1 : (l.length : Int) < 1
 ·refine Ev.pos h1 (impl_TreeOk.j0.ev (Ev.pos rfl (Ev.ret ?_)))
  exact (Hd.treeB_no fun t => by have := t.2.pos; omega).symm
 refine Ev.neg h1 (impl_TreeOk.j0.ev ?_)
 by_cases h8 : (l.length : Int) > 8
 ·refine Ev.pos (by simpa using h8) (Ev.ret ?_)
  exact (Hd.treeB_no fun t => by have := t.1; omega).symm
 refine Ev.neg (by simpa using h8) ?_
 exact impl_TreeOk_l0 (by omega) 0 (by omega) (by omega) (fun a h1 h2 => by omega)

/-! laws_alive -/

theorem alive_one : Hd.treeB [0] = true := by
 have one : ∀ a : Int, 1 ≤ a → a ≤ ([0] : List Int).length → a = 1 := fun a h1 h2 => by simp at h2; omega
 exact Hd.treeB_yes ((Hd.T_iff (l := [0]) (by decide) (fun a h1 h2 => by rw [one a h1 h2]; decide) (fun a h1 h2 => by rw [one a h1 h2]; decide)).2 (by decide))
theorem alive_two : Hd.treeB [1] = false := Hd.treeB_no fun t => by
 have := t.2.not_own (a := 1) (by simp)
 exact this (by decide)
theorem laws_alive_ev : Ev (fun k => laws_alive.f k) true := by
 unfold laws_alive.f
 refine Ev.bind (impl_TreeOk_ev [0]) (Ev.pos alive_one (Ev.bind (impl_TreeOk_ev [1]) (Ev.ret ?_)))
 rw [alive_two]; rfl

/-! impl_RunStack -/

theorem runF_len (a0 : Int) (a1 : ByteArray) : (Mach.runF a0 a1).1.length ≤ 8 := by
 unfold Mach.runF Hd.ranS
 by_cases h : a0 < 1 ∨ 8 < a0
 ·rw [if_pos h]; simp
 rw [if_neg h]
 cases e : Hd.runM (bytesOf a1) (Hd.St.start a0.toNat) with
 | none => simp
 | some s =>
  have o := (Hd.St.OK.start (n := a0.toNat) (by omega)).run e
  have := o.len; have := o.n8
  simp only [Option.bind_some]
  by_cases c : s.nx < a0 ∨ s.ws.length ≠ 1
  ·rw [if_pos c]; simp
  rw [if_neg c]; simp only; omega
theorem impl_RunStack_eq (a0 : Int) {a1 : ByteArray} (hs : a1.size ≤ 140737488351232) : impl_RunStack.f a0 a1 = some (Mach.runF a0 a1) := if_pos hs

/-! laws_sameInts -/
theorem laws_sameInts.l0.ev {x0 : List Int} {x1 : List Int} {x5 : Int} {r : Bool} (h : Ev (fun k => if x5 < (x0.length : Int) then (if 0 ≤ x5 then (if x5 < (x1.length : Int) then (if (rd x0 x5) = (rd x1 x5) then (laws_sameInts.l0 k x0 x1 (wrap64 (x5 + 1))) else (some false)) else (none)) else (none)) else (some true)) r) : Ev (fun k => laws_sameInts.l0 k x0 x1 x5) r := Ev.step (fun _ => rfl) h
theorem laws_sameInts_l0 {a b : List Int} (hl : a.length ≤ 4611686018427387904) (he : a.length = b.length) : ∀ i : Int, i ≤ a.length → 0 ≤ i → a.take i.toNat = b.take i.toNat → Ev (fun k => laws_sameInts.l0 k a b i) (decide (a = b)) := by
 refine Hd.down ?_
 intro i hi ih h0 ht
 refine laws_sameInts.l0.ev ?_
 by_cases hlt : i < a.length
 rotate_left
 ·refine Ev.neg hlt (Ev.ret ?_)
  rw [show i.toNat = a.length from by omega] at ht
  rw [List.take_length, he, List.take_length] at ht
  simp [ht]
 rw [wid (x := i + 1) (by omega) (by omega)]
 refine Ev.pos hlt (Ev.pos h0 (Ev.pos (by omega) ?_))
 obtain ⟨j, rfl⟩ := Int.eq_ofNat_of_zero_le h0
 have hj : j < a.length := by omega
 have hj2 : j < b.length := by omega
 simp only [Int.toNat_natCast] at *
 have ga : rd a j = a[j] := by simp [rd, List.getD_eq_getElem?_getD, List.getElem?_eq_getElem hj]
 have gb : rd b j = b[j] := by simp [rd, List.getD_eq_getElem?_getD, List.getElem?_eq_getElem hj2]
 by_cases e : rd a j = rd b j
 rotate_left
 ·refine Ev.neg e (Ev.ret ?_)
  have : a ≠ b := fun h => e (by rw [h])
  simp [this]
 refine Ev.pos e (ih hlt (by omega) ?_)
 rw [show ((j : Int) + 1).toNat = j + 1 from by omega, List.take_succ_eq_append_getElem hj, List.take_succ_eq_append_getElem hj2, ht, ← ga, ← gb, e]
theorem laws_sameInts_ev {a b : List Int} (hl : a.length ≤ 1048576) : Ev (fun k => laws_sameInts.f k a b) (decide (a = b)) := by
 unfold laws_sameInts.f
 by_cases e : a.length = b.length
 rotate_left
 ·refine Ev.neg (by omega) (Ev.ret ?_)
  have : a ≠ b := fun h => e (by rw [h])
  simp [this]
 refine Ev.pos (by omega) ?_
 exact laws_sameInts_l0 (by omega) e 0 (by omega) (by omega) (by simp)

/-! impl_under -/
theorem impl_under.l0.ev {x0 : List Int} {x1 : Int} {x2 : Int} {r : Bool} (h : Ev (fun k => if x1 = 0 then (some (x1 == x2)) else (if x1 = x2 then (some (x1 == x2)) else (if 0 ≤ (wrap64 (x1 - 1)) then (if (wrap64 (x1 - 1)) < (x0.length : Int) then (impl_under.l0 k x0 (rd x0 (wrap64 (x1 - 1))) x2) else (none)) else (none)))) r) : Ev (fun k => impl_under.l0 k x0 x1 x2) r := Ev.step (fun _ => rfl) h
theorem impl_under_l0 {l : List Int} (t : Hd.T l) (b : Int) : ∀ (k : Nat) (a : Int), 0 ≤ a → a ≤ l.length → Hd.it (Hd.hd l) k a = 0 → Ev (fun j => impl_under.l0 j l a b) (Hd.undB l a b)
 | k, a, h1, h2, e => by
  refine impl_under.l0.ev ?_
  by_cases hz : a = 0
  ·subst hz
   refine Ev.pos rfl (Ev.ret (bool_eq ?_))
   rw [Hd.undB_true]; simp
   constructor
   ·rintro rfl; exact Hd.Und.refl _ _
   ·intro u; exact (t.2.und_zero u).symm
  refine Ev.neg hz ?_
  by_cases hab : a = b
  ·refine Ev.pos hab (Ev.ret (bool_eq ?_))
   rw [Hd.undB_true]; simp [hab]
   exact Hd.Und.refl _ _
  refine Ev.neg hab ?_
  rw [wid (x := a - 1) (by omega) (by have := t.1; omega), rd_hd (by omega)]
  refine Ev.pos (by omega) (Ev.pos (by omega) ?_)
  match k, e with
  | 0, e => exact absurd e hz
  | k + 1, e =>
   have ih := impl_under_l0 t b k (Hd.hd l a) (t.2.lo a) (t.2.hi a) e
   have : Hd.undB l a b = Hd.undB l (Hd.hd l a) b := bool_eq (by
    rw [Hd.undB_true, Hd.undB_true]
    exact ⟨fun u => u.cases.elim (fun e => absurd e hab) id, fun u => u.up⟩)
   rw [this]; exact ih
theorem impl_under_ev {l : List Int} (t : Hd.T l) {a : Int} (h1 : 1 ≤ a) (h2 : a ≤ l.length) (b : Int) : Ev (fun k => impl_under.f k l a b) (Hd.undB l a b) :=
 impl_under_l0 t b l.length a (by omega) h2 (t.2.back a h1 h2)

/-! impl_flat -/
theorem impl_flat.l0.ev {x0 : List Int} {x9 : Int} {x10 : Int} {r : Bool} (h : Ev (fun k => if x10 < x9 then (impl_flat.l1 k x0 x10 0 (x0.length : Int) (-1) x9 x10 (x0.length : Int) 0) else (some true)) r) : Ev (fun k => impl_flat.l0 k x0 x9 x10) r := Ev.step (fun _ => rfl) h
theorem impl_flat.l1.ev {x0 : List Int} {x3 : Int} {x4 : Int} {x5 : Int} {x6 : Int} {x9 : Int} {x10 : Int} {x16 : Int} {x17 : Int} {r : Bool} (h : Ev (fun k => if x17 < x16 then ((impl_under.f k x0 (wrap64 (x17 + 1)) (wrap64 (x3 + 1))).bind fun t118 => (if t118 = true then (impl_flat.l1 k x0 x3 (wrap64 (x4 + 1)) (mn x5 x17) (mx x6 x17) x9 x10 x16 (wrap64 (x17 + 1))) else (impl_flat.l1 k x0 x3 x4 x5 x6 x9 x10 x16 (wrap64 (x17 + 1))))) else (if (wrap64 ((wrap64 (x6 - x5)) + 1)) = x4 then (impl_flat.l0 k x0 x9 (wrap64 (x10 + 1))) else (some false))) r) : Ev (fun k => impl_flat.l1 k x0 x3 x4 x5 x6 x9 x10 x16 x17) r := Ev.step (fun _ => rfl) h
theorem impl_flat_l1 {l : List Int} (t : Hd.T l) {w : Int} (h1 : 1 ≤ w) (h2 : w ≤ l.length)
  (next : Hd.rowM (Hd.ybits l w) = true → Ev (fun k => impl_flat.l0 k l l.length w) (Hd.flatB l)) : ∀ i : Int, i ≤ l.length → 0 ≤ i →
  Ev (fun k => impl_flat.l1 k l (w - 1) (Hd.mmN (Hd.ybits l w).testBit l.length i.toNat).1 (Hd.mmN (Hd.ybits l w).testBit l.length i.toNat).2.1 (Hd.mmN (Hd.ybits l w).testBit l.length i.toNat).2.2 l.length (w - 1) l.length i) (Hd.flatB l) := by
 have h8 := t.1
 refine Hd.down ?_
 intro i hi ih h0
 refine impl_flat.l1.ev ?_
 have bd := Hd.mmN_bd (Hd.ybits l w).testBit l.length i.toNat
 by_cases hlt : i < l.length
 ·have nx := ih hlt (by omega)
  rw [show (i + 1).toNat = i.toNat + 1 from by omega] at nx
  rw [wid (x := i + 1) (by omega) (by omega), wid (x := w - 1 + 1) (by omega) (by omega), show w - 1 + 1 = w from by omega]
  refine Ev.pos hlt (Ev.bind (impl_under_ev t (by omega) (by omega) w) ?_)
  have bit : (Hd.ybits l w).testBit i.toNat = Hd.undB l (i + 1) w := by
   unfold Hd.ybits
   rw [Hd.ysum_bit, decide_eq_true (show i.toNat < l.length by omega), Bool.true_and]
   congr 1; omega
  rw [Hd.mmN, bit, show ((i.toNat : Nat) : Int) = i from by omega] at nx
  rw [wid (x := (Hd.mmN (Hd.ybits l w).testBit l.length i.toNat).1 + 1) (by omega) (by omega)]
  by_cases hu : Hd.undB l (i + 1) w = true
  rotate_left
  ·rw [if_neg hu] at nx
   exact Ev.neg hu nx
  rw [if_pos hu] at nx
  exact Ev.pos hu nx
 have e : i.toNat = l.length := by omega
 rw [e] at bd ⊢
 have hp := t.2.pos
 have row := Hd.mmN_row l.length (by omega) (Hd.ybits l w) (Hd.ysum_lt _ _) (Hd.ybits_pos h1 h2)
 generalize Hd.mmN (Hd.ybits l w).testBit l.length l.length = mm at *
 rw [wid (x := mm.2.2 - mm.2.1) (by omega) (by omega), wid (x := mm.2.2 - mm.2.1 + 1) (by omega) (by omega), wid (x := w - 1 + 1) (by omega) (by omega), show w - 1 + 1 = w from by omega]
 refine Ev.neg hlt ?_
 by_cases hr : Hd.rowM (Hd.ybits l w) = true
 ·rw [hr] at row
  exact Ev.pos (by simpa using row) (next hr)
 rw [Bool.not_eq_true] at hr
 rw [hr] at row
 refine Ev.neg (by simpa using row) (Ev.ret ?_)
 cases hc : Hd.flatB l with
 | false => rfl
 | true =>
  have := (Hd.row_masks t).1 (Hd.flatB_true.1 hc).2 w h1 h2
  rw [hr] at this; cases this
theorem impl_flat_l0 {l : List Int} (t : Hd.T l) : ∀ i : Int, i ≤ l.length → 0 ≤ i → (∀ w : Int, 1 ≤ w → w ≤ i → Hd.rowM (Hd.ybits l w) = true) → Ev (fun k => impl_flat.l0 k l l.length i) (Hd.flatB l) := by
 have h8 := t.1
 refine Hd.down ?_
 intro i hi ih h0 hall
 refine impl_flat.l0.ev ?_
 by_cases hlt : i < l.length
 rotate_left
 ·refine Ev.neg hlt (Ev.ret ?_)
  exact (Hd.flatB_true.2 ⟨t, (Hd.row_masks t).2 fun w k1 k2 => hall w k1 (by omega)⟩).symm
 refine Ev.pos hlt ?_
 have := impl_flat_l1 t (w := i + 1) (by omega) (by omega) (fun hr => ih hlt (by omega) (fun w k1 k2 => by
  by_cases e : w = i + 1
  ·rw [e]; exact hr
  exact hall w k1 (by omega))) 0 (by omega) (by omega)
 rw [show i + 1 - 1 = i from by omega] at this
 exact this
theorem impl_flat_ev {l : List Int} (t : Hd.T l) : Ev (fun k => impl_flat.f k l) (Hd.flatB l) := impl_flat_l0 t 0 (by omega) (by omega) (fun w k1 k2 => by omega)

/-! impl_FlatOk -/

theorem impl_FlatOk_ev (l : List Int) : Ev (fun k => impl_FlatOk.f k l) (Hd.flatB l) := by
 unfold impl_FlatOk.f
 refine Ev.bind (impl_TreeOk_ev l) ?_
 by_cases t : Hd.T l
 ·exact Ev.pos (Hd.treeB_yes t) (Ev.bind (impl_flat_ev t) (Ev.now _))
 refine Ev.neg (by rw [Hd.treeB_no t]; simp) (Ev.ret ?_)
 cases hc : Hd.flatB l with
 | false => rfl
 | true => exact absurd (Hd.flatB_true.1 hc).1 t

theorem impl_stack_left.l0.ev {x2 : Int} {x7 : Int} {x10 : List Int} {x11 : Int} {x12 : Int} {x1000 : List Int} {x1001 : Int} {x1002 : List Int} {x1003 : Int} {r : Int × Int × Int} (h : Ev (fun k => if x12 < x11 then (if 0 ≤ x12 then (if x12 < (x10.length : Int) then (if (rd x10 x12) = x2 then (if x12 < (x1002.length : Int) then (if (rd x1002 x12) = 0 then (impl_stack_left.l0 k x2 (wrap64 (x7 + 1)) x10 x11 (wrap64 (x12 + 1)) x1000 x1001 x1002 x1003) else (impl_stack_left.l0 k x2 x7 x10 x11 (wrap64 (x12 + 1)) x1000 x1001 x1002 x1003)) else (none)) else (impl_stack_left.l0 k x2 x7 x10 x11 (wrap64 (x12 + 1)) x1000 x1001 x1002 x1003)) else (none)) else (none)) else (some (x7, x1001, x1003))) r) : Ev (fun k => impl_stack_left.l0 k x2 x7 x10 x11 x12 x1000 x1001 x1002 x1003) r := Ev.step (fun _ => rfl) h
/-! impl_MovesFor -/

theorem impl_MovesFor_ev (l : List Int) : Ev (fun k => impl_MovesFor.f k l) (if Hd.flatB l = true then (Mach.movesF l, true) else (⟨#[]⟩, false)) := by
 unfold impl_MovesFor.f
 refine Ev.bind (impl_FlatOk_ev l) ?_
 by_cases f : Hd.flatB l = true
 rotate_left
 ·simp only [if_neg f]; exact Ev.now _
 have t := (Hd.flatB_true.1 f).1
 simp only [if_pos f]
 exact Ev.pos ⟨t.2.pos, t.1⟩ (Ev.now _)

/-! spec_l1In -/

theorem spec_l1In_eq (a b c : Int) : spec_l1In.f a b c = some (decide (b ≤ a ∧ a ≤ c)) := by
 unfold spec_l1In.f
 by_cases h : a ≥ b
 ·rw [if_pos h]; simp [h]
 rw [if_neg h]; simp; intro; omega

/-! spec_TreeOk -/
theorem spec_TreeOk.l0.ev {x0 : List Int} {x3 : Int} {x4 : Int} {x5 : Int} {r : Bool} (h : Ev (fun k => if x5 < x3 then (if 0 ≤ x5 then (if x5 < (x0.length : Int) then ((spec_l1In.f (rd x0 x5) 0 x3).bind fun t129 => (if t129 = true then (spec_TreeOk.j1 k x0 x3 x4 x5 ((rd x0 x5) == (wrap64 (x5 + 1)))) else (spec_TreeOk.j1 k x0 x3 x4 x5 true))) else (none)) else (none)) else (some (x4 == 1))) r) : Ev (fun k => spec_TreeOk.l0 k x0 x3 x4 x5) r := Ev.step (fun _ => rfl) h
theorem spec_TreeOk.j1.ev {x0 : List Int} {x3 : Int} {x4 : Int} {x5 : Int} {x33 : Bool} {r : Bool} (h : Ev (fun k => if x33 = true then (some false) else (if 0 ≤ x5 then (if x5 < (x0.length : Int) then (if (rd x0 x5) = 0 then (spec_TreeOk.j2 k x0 x3 (wrap64 (x4 + 1)) x5) else (spec_TreeOk.j2 k x0 x3 x4 x5)) else (none)) else (none))) r) : Ev (fun k => spec_TreeOk.j1 k x0 x3 x4 x5 x33) r := Ev.step (fun _ => rfl) h
theorem spec_TreeOk.j2.ev {x0 : List Int} {x3 : Int} {x4 : Int} {x5 : Int} {r : Bool} (h : Ev (fun k => spec_TreeOk.l1 k x0 x3 x4 x5 (wrap64 (x5 + 1)) 0) r) : Ev (fun k => spec_TreeOk.j2 k x0 x3 x4 x5) r := Ev.step (fun _ => rfl) h
theorem spec_TreeOk.l1.ev {x0 : List Int} {x3 : Int} {x4 : Int} {x5 : Int} {x6 : Int} {x7 : Int} {r : Bool} (h : Ev (fun k => if x6 > 0 then (spec_TreeOk.j4 k x0 x3 x4 x5 x6 x7 (decide (x7 < x3))) else (spec_TreeOk.j4 k x0 x3 x4 x5 x6 x7 false)) r) : Ev (fun k => spec_TreeOk.l1 k x0 x3 x4 x5 x6 x7) r := Ev.step (fun _ => rfl) h
theorem spec_TreeOk.j4.ev {x0 : List Int} {x3 : Int} {x4 : Int} {x5 : Int} {x6 : Int} {x7 : Int} {x49 : Bool} {r : Bool} (h : Ev (fun k => if x49 = true then (if 0 ≤ (wrap64 (x6 - 1)) then (if (wrap64 (x6 - 1)) < (x0.length : Int) then ((spec_l1In.f (rd x0 (wrap64 (x6 - 1))) 0 x3).bind fun t133 => (if t133 = true then (spec_TreeOk.l1 k x0 x3 x4 x5 (rd x0 (wrap64 (x6 - 1))) (wrap64 (x7 + 1))) else (some false))) else (none)) else (none)) else (if x6 > 0 then (some false) else (spec_TreeOk.l0 k x0 x3 x4 (wrap64 (x5 + 1))))) r) : Ev (fun k => spec_TreeOk.j4 k x0 x3 x4 x5 x6 x7 x49) r := Ev.step (fun _ => rfl) h
theorem spec_TreeOk_l1 {l : List Int} (h8 : l.length ≤ 8) {c i : Int} (h0 : 0 ≤ i) (hlt : i < l.length)
  (next : Hd.it (Hd.hd l) l.length (i + 1) = 0 → Ev (fun k => spec_TreeOk.l0 k l l.length c (i + 1)) (Hd.treeB l)) :
  ∀ s : Int, s ≤ l.length → 0 ≤ s → ∀ a : Int, 0 ≤ a → a ≤ l.length → a = Hd.it (Hd.hd l) s.toNat (i + 1) → Ev (fun k => spec_TreeOk.l1 k l l.length c i a s) (Hd.treeB l) := by
 refine Hd.down ?_
 intro s hs ih h1 a ha1 ha2 ea
 refine spec_TreeOk.l1.ev ?_
 by_cases hz : a > 0
 rotate_left
 ·refine Ev.neg hz (spec_TreeOk.j4.ev (Ev.neg (by simp) (Ev.neg hz ?_)))
  rw [wid (x := i + 1) (by omega) (by omega)]
  exact next (Hd.it_more (Hd.hd_zero l) (j := s.toNat) (by omega) (by omega))
 refine Ev.pos hz (spec_TreeOk.j4.ev ?_)
 by_cases hsn : s < l.length
 rotate_left
 ·refine Ev.neg (by simpa using hsn) (Ev.pos hz (Ev.ret ?_))
  refine (Hd.treeB_no fun t => ?_).symm
  have := t.2.back (i + 1) (by omega) (by omega)
  rw [show s.toNat = l.length from by omega, this] at ea
  omega
 rw [wid (x := a - 1) (by omega) (by omega), rd_hd (by omega), wid (x := s + 1) (by omega) (by omega)]
 refine Ev.pos (by simpa using hsn) (Ev.pos (by omega) (Ev.pos (by omega) (Ev.bindv (spec_l1In_eq _ _ _) ?_)))
 by_cases hin : 0 ≤ Hd.hd l a ∧ Hd.hd l a ≤ l.length
 rotate_left
 ·refine Ev.neg (by simpa using hin) (Ev.ret ?_)
  exact (Hd.treeB_no fun t => hin (t.vals _ (by omega) (by omega))).symm
 refine Ev.pos (by simpa using hin) (ih hsn (by omega) _ hin.1 hin.2 ?_)
 rw [show (s + 1).toNat = s.toNat + 1 from by omega, Hd.it_succ, ← ea]
theorem spec_TreeOk_l0 {l : List Int} (h8 : l.length ≤ 8) : ∀ i : Int, i ≤ l.length → 0 ≤ i → (∀ a : Int, 1 ≤ a → a ≤ i → (0 ≤ Hd.hd l a ∧ Hd.hd l a ≤ l.length) ∧ Hd.it (Hd.hd l) l.length a = 0) →
  Ev (fun k => spec_TreeOk.l0 k l l.length (Hd.zeros l i.toNat) i) (Hd.treeB l) := by
 refine Hd.down ?_
 intro i hi ih h0 hb
 refine spec_TreeOk.l0.ev ?_
 by_cases hlt : i < l.length
 rotate_left
 ·refine Ev.neg hlt (Ev.ret ?_)
  have e : i.toNat = l.length := by omega
  rw [e]
  have t := Hd.T_iff h8 (fun a h1 h2 => (hb a h1 (by omega)).1) (fun a h1 h2 => (hb a h1 (by omega)).2)
  by_cases e : Hd.zeros l l.length = 1
  ·rw [Hd.treeB_yes (t.2 e), e]; rfl
  rw [Hd.treeB_no (fun x => e (t.1 x))]; simp; omega
 have hz := Hd.cnt_le (fun a => decide (Hd.hd l a = 0)) i.toNat
 have hzz : Hd.zeros l (i + 1).toNat = Hd.zeros l i.toNat + if Hd.hd l (i + 1) = 0 then 1 else 0 := by
  rw [show (i + 1).toNat = i.toNat + 1 from by omega]
  show Hd.cnt _ (i.toNat + 1) = _
  rw [Hd.cnt, show ((i.toNat : Int) + 1) = i + 1 from by omega]
  simp [Hd.zeros]
 have hz' : Hd.zeros l i.toNat ≤ i.toNat := hz
 rw [rd_hd1 h0, wid (x := i + 1) (by omega) (by omega)]
 refine Ev.pos hlt (Ev.pos h0 (Ev.pos hlt (Ev.bindv (spec_l1In_eq _ _ _) ?_)))
 by_cases hin : 0 ≤ Hd.hd l (i + 1) ∧ Hd.hd l (i + 1) ≤ l.length
 rotate_left
 ·refine Ev.neg (by simpa using hin) (spec_TreeOk.j1.ev (Ev.pos rfl (Ev.ret ?_)))
  exact (Hd.treeB_no fun t => hin (t.vals _ (by omega) (by omega))).symm
 refine Ev.pos (by simpa using hin) (spec_TreeOk.j1.ev ?_)
 by_cases hown : Hd.hd l (i + 1) = i + 1
 ·refine Ev.pos (by simpa using hown) (Ev.ret ?_)
  exact (Hd.treeB_no fun t => t.2.not_own (a := i + 1) (by omega) hown).symm
 refine Ev.neg (by simpa using hown) (Ev.pos h0 (Ev.pos hlt ?_))
 rw [rd_hd1 h0, wid (x := (Hd.zeros l i.toNat : Int) + 1) (by omega) (by omega)]
 have next : Hd.it (Hd.hd l) l.length (i + 1) = 0 → Ev (fun k => spec_TreeOk.l0 k l l.length (Hd.zeros l (i + 1).toNat) (i + 1)) (Hd.treeB l) := fun hit =>
  ih hlt (by omega) (fun a h1 h2 => by
   by_cases e : a = i + 1
   ·rw [e]; exact ⟨hin, hit⟩
   exact hb a h1 (by omega))
 rw [hzz] at next
 by_cases h00 : Hd.hd l (i + 1) = 0
 rotate_left
 ·rw [if_neg h00] at next
  refine Ev.neg h00 (spec_TreeOk.j2.ev ?_)
  rw [wid (x := i + 1) (by omega) (by omega)]
  exact spec_TreeOk_l1 h8 h0 hlt next 0 (by omega) (by omega) (i + 1) (by omega) (by omega) rfl
 rw [if_pos h00] at next
 refine Ev.pos h00 (spec_TreeOk.j2.ev ?_)
 rw [wid (x := i + 1) (by omega) (by omega)]
 exact spec_TreeOk_l1 h8 h0 hlt next 0 (by omega) (by omega) (i + 1) (by omega) (by omega) rfl
theorem spec_TreeOk_ev (l : List Int) : Ev (fun k => spec_TreeOk.f k l) (Hd.treeB l) := by
 unfold spec_TreeOk.f
 refine Ev.bindv (spec_l1In_eq _ _ _) ?_
 by_cases h : 1 ≤ (l.length : Int) ∧ (l.length : Int) ≤ 8
 rotate_left
 ·refine Ev.neg (by simpa using h) (Ev.ret ?_)
  exact (Hd.treeB_no fun t => by have := t.1; have := t.2.pos; omega).symm
 refine Ev.pos (by simpa using h) ?_
 exact spec_TreeOk_l0 (by omega) 0 (by omega) (by omega) (fun a h1 h2 => by omega)

/-! spec_l3Row -/
theorem spec_l3Row.l0.ev {x0 : Int} {r : Bool} (h : Ev (fun k => if (Int.tmod x0 2) = 0 then (spec_l3Row.l0 k (wrap64 (Int.tdiv x0 2))) else (some ((Go.bits .and .i64 x0 (wrap64 (x0 + 1))) == 0))) r) : Ev (fun k => spec_l3Row.l0 k x0) r := Ev.step (fun _ => rfl) h
theorem spec_l3Row_all : ∀ (d s : Nat), s < 256 → s ≠ 0 → s ≤ d → Ev (fun k => spec_l3Row.l0 k (s : Int)) (Hd.rowM s)
 | 0, s, _, h0, h => by omega
 | d + 1, s, hs, h0, h => by
  refine spec_l3Row.l0.ev ?_
  have e1 : Int.tmod (s : Int) 2 = ((s % 2 : Nat) : Int) := by rw [Int.tmod_eq_emod_of_nonneg (by omega)]; simp
  have e2 : Int.tdiv (s : Int) 2 = ((s / 2 : Nat) : Int) := by rw [Int.tdiv_eq_ediv_of_nonneg (by omega)]; simp
  rw [e1, e2, wid (x := ((s / 2 : Nat) : Int)) (by omega) (by omega), wid (x := (s : Int) + 1) (by omega) (by omega)]
  by_cases h2 : s % 2 = 0
  ·rw [← Hd.rowM_even s hs h2]
   exact Ev.pos (by omega) (spec_l3Row_all d (s / 2) (by omega) (by omega) (by omega))
  refine Ev.neg (by omega) (Ev.ret ?_)
  rw [← Hd.rowM_odd s hs (by omega), show ((s : Int) + 1) = ((s + 1 : Nat) : Int) from by omega, h_and_i64 (by omega) (by omega)]
  exact bool_eq (by simp only [beq_iff_eq]; omega)
theorem spec_l3Row_ev {s : Nat} (hs : s < 256) (h0 : s ≠ 0) : Ev (fun k => spec_l3Row.f k (s : Int)) (Hd.rowM s) := spec_l3Row_all s s hs h0 (by omega)

/-! spec_l2Yield -/
theorem spec_l2Yield.l0.ev {x0 : List Int} {x1 : Int} {x5 : Int} {x6 : Int} {r : Int} (h : Ev (fun k => if x6 < (x0.length : Int) then (if 0 ≤ x6 then (if (rd x0 x6) = x1 then ((spec_l2Yield.f k x0 (wrap64 (x6 + 1))).bind fun t135 => (spec_l2Yield.l0 k x0 x1 (Go.bits .or .i64 x5 t135) (wrap64 (x6 + 1)))) else (spec_l2Yield.l0 k x0 x1 x5 (wrap64 (x6 + 1)))) else (none)) else (some x5)) r) : Ev (fun k => spec_l2Yield.l0 k x0 x1 x5 x6) r := Ev.step (fun _ => rfl) h
theorem spec_l2Yield.f.ev {l0 : List Int} {a1 : Int} {r : Int} (h : Ev (fun k => if 0 ≤ (wrap64 (a1 - 1)) then (spec_l2Yield.l0 k l0 a1 (shl .i64 1 (wrap64 (a1 - 1))) 0) else (none)) r) : Ev (fun k => spec_l2Yield.f k l0 a1) r := Ev.step (fun _ => rfl) h
theorem spec_l2Yield_l0 {l : List Int} (t : Hd.T l) {w : Int} (hw : 1 ≤ w ∧ w ≤ l.length)
  (rec : ∀ c : Int, 1 ≤ c → c ≤ l.length → Hd.hd l c = w → Ev (fun k => spec_l2Yield.f k l c) (Hd.ybits l c : Int)) :
  ∀ i : Int, i ≤ l.length → 0 ≤ i → ∀ q : Int → Bool, (∀ x, q x = true ↔ x = w ∨ ∃ c, (1 ≤ c ∧ c ≤ i) ∧ Hd.hd l c = w ∧ Hd.Und (Hd.hd l) x c) →
  Ev (fun k => spec_l2Yield.l0 k l w (Hd.ysum q l.length : Int) i) (Hd.ybits l w : Int) := by
 refine Hd.down ?_
 intro i hi ih h0 q hq
 have h8 := t.1
 refine spec_l2Yield.l0.ev ?_
 by_cases hlt : i < l.length
 rotate_left
 ·refine Ev.neg hlt (Ev.ret ?_)
  unfold Hd.ybits
  congr 1
  refine Hd.ysum_congr fun a h1 h2 => bool_eq ?_
  rw [hq, Hd.undB_true, Hd.und_child t.2 hw]
  constructor
  ·rintro (e | ⟨c, h1, h2, h3⟩)
   ·exact .inl e
   ·exact .inr ⟨c, ⟨h1.1, by omega⟩, h2, h3⟩
  ·rintro (e | ⟨c, h1, h2, h3⟩)
   ·exact .inl e
   ·exact .inr ⟨c, ⟨h1.1, by omega⟩, h2, h3⟩
 rw [wid (x := i + 1) (by omega) (by omega), rd_hd1 h0]
 refine Ev.pos hlt (Ev.pos h0 ?_)
 by_cases hc : Hd.hd l (i + 1) = w
 rotate_left
 ·refine Ev.neg hc (ih hlt (by omega) q fun x => ?_)
  rw [hq]
  constructor
  ·rintro (e | ⟨c, h1, h2, h3⟩)
   ·exact .inl e
   ·exact .inr ⟨c, ⟨h1.1, by omega⟩, h2, h3⟩
  ·rintro (e | ⟨c, h1, h2, h3⟩)
   ·exact .inl e
   ·by_cases e : c = i + 1
    ·subst e; exact absurd h2 hc
    ·exact .inr ⟨c, ⟨h1.1, by omega⟩, h2, h3⟩
 refine Ev.pos hc (Ev.bind (rec (i + 1) (by omega) (by omega) hc) ?_)
 unfold Hd.ybits at *
 rw [h_or_i64 (Hd.ysum_le h8) (Hd.ysum_le h8), Hd.ysum_or]
 refine ih hlt (by omega) _ fun x => ?_
 rw [Bool.or_eq_true, hq, Hd.undB_true]
 constructor
 ·rintro ((e | ⟨c, h1, h2, h3⟩) | u)
  ·exact .inl e
  ·exact .inr ⟨c, ⟨h1.1, by omega⟩, h2, h3⟩
  ·exact .inr ⟨i + 1, ⟨by omega, by omega⟩, hc, u⟩
 ·rintro (e | ⟨c, h1, h2, h3⟩)
  ·exact .inl (.inl e)
  ·by_cases e : c = i + 1
   ·subst e; exact .inr h3
   ·exact .inl (.inr ⟨c, ⟨h1.1, by omega⟩, h2, h3⟩)
theorem spec_l2Yield_all {l : List Int} (t : Hd.T l) : ∀ (d : Nat) (w : Int), 1 ≤ w → w ≤ l.length → l.length ≤ d + Hd.dep l.length (Hd.hd l) w → Ev (fun k => spec_l2Yield.f k l w) (Hd.ybits l w : Int)
 | 0, w, h1, h2, h3 => by have := t.2.dep_lt ⟨h1, h2⟩; omega
 | d + 1, w, h1, h2, h3 => by
  have h8 := t.1
  refine spec_l2Yield.f.ev ?_
  rw [wid (x := w - 1) (by omega) (by omega)]
  refine Ev.pos (by omega) ?_
  obtain ⟨v, rfl⟩ : ∃ v : Nat, w = (v : Int) + 1 := ⟨(w - 1).toNat, by omega⟩
  rw [show ((v : Int) + 1 - 1) = (v : Int) from by omega, h_shl_one (by omega), Hd.ysum_one (m := l.length) (by omega)]
  refine spec_l2Yield_l0 t ⟨h1, h2⟩ (fun c k1 k2 e => spec_l2Yield_all t d c k1 k2 ?_) 0 (by omega) (by omega) _ fun x => ?_
  ·have := t.2.dep_head (a := c) (by omega)
   rw [e] at this
   omega
  ·simp; intro c _ _; omega
theorem spec_l2Yield_ev {l : List Int} (t : Hd.T l) {w : Int} (h1 : 1 ≤ w) (h2 : w ≤ l.length) : Ev (fun k => spec_l2Yield.f k l w) (Hd.ybits l w : Int) :=
 spec_l2Yield_all t l.length w h1 h2 (by omega)
theorem ybits_at {l : List Int} (t : Hd.T l) {a w : Int} (h1 : 1 ≤ a) (h2 : a ≤ l.length) : (Int.tmod (shr .i64 (Hd.ybits l w : Int) (a - 1)) 2 = 1) ↔ Hd.undB l a w = true := by
 have h8 := t.1
 obtain ⟨v, rfl⟩ : ∃ v : Nat, a = (v : Int) + 1 := ⟨(a - 1).toNat, by omega⟩
 rw [show ((v : Int) + 1 - 1) = (v : Int) from by omega, h_shr_bit (by omega)]
 unfold Hd.ybits
 rw [Hd.ysum_bit, show decide (v < l.length) = true from by simp; omega, Bool.true_and]

/-! spec_FlatOk -/
theorem spec_FlatOk.l0.ev {x0 : List Int} {x3 : Int} {r : Bool} (h : Ev (fun k => if x3 ≤ (x0.length : Int) then ((spec_TreeOk.f k x0).bind fun t136 => (spec_FlatOk.j1 k x0 x3 t136)) else (spec_FlatOk.j1 k x0 x3 false)) r) : Ev (fun k => spec_FlatOk.l0 k x0 x3) r := Ev.step (fun _ => rfl) h
theorem spec_FlatOk.j1.ev {x0 : List Int} {x3 : Int} {x11 : Bool} {r : Bool} (h : Ev (fun k => if x11 = true then ((spec_l2Yield.f k x0 x3).bind fun t138 => ((spec_l3Row.f k t138).bind fun t139 => (if t139 = true then (spec_FlatOk.l0 k x0 (wrap64 (x3 + 1))) else (some false)))) else ((spec_TreeOk.f k x0).bind fun t137 => (some t137))) r) : Ev (fun k => spec_FlatOk.j1 k x0 x3 x11) r := Ev.step (fun _ => rfl) h
theorem spec_FlatOk_l0 {l : List Int} (t : Hd.T l) : ∀ i : Int, i ≤ (l.length : Int) + 1 → 1 ≤ i → (∀ w : Int, 1 ≤ w → w < i → Hd.rowM (Hd.ybits l w) = true) → Ev (fun k => spec_FlatOk.l0 k l i) (Hd.flatB l) := by
 have h8 := t.1
 refine Hd.down ?_
 intro i hi ih h1 hall
 refine spec_FlatOk.l0.ev ?_
 by_cases hle : i ≤ (l.length : Int)
 rotate_left
 ·refine Ev.neg hle (spec_FlatOk.j1.ev (Ev.neg (by simp) (Ev.bind (spec_TreeOk_ev l) (Ev.ret ?_))))
  rw [Hd.treeB_yes t]
  exact (Hd.flatB_true.2 ⟨t, (Hd.row_masks t).2 fun w k1 k2 => hall w k1 (by omega)⟩).symm
 refine Ev.pos hle (Ev.bind (spec_TreeOk_ev l) (spec_FlatOk.j1.ev (Ev.pos (Hd.treeB_yes t) (Ev.bind (spec_l2Yield_ev t h1 hle) (Ev.bind (spec_l3Row_ev (Hd.ysum_le h8) (Hd.ybits_pos h1 hle)) ?_)))))
 rw [wid (x := i + 1) (by omega) (by omega)]
 by_cases hr : Hd.rowM (Hd.ybits l i) = true
 ·refine Ev.pos hr (ih (by omega) (by omega) fun w k1 k2 => ?_)
  by_cases e : w = i
  ·rw [e]; exact hr
  exact hall w k1 (by omega)
 refine Ev.neg hr (Ev.ret ?_)
 cases hc : Hd.flatB l with
 | false => rfl
 | true => exact absurd ((Hd.row_masks t).1 (Hd.flatB_true.1 hc).2 i h1 hle) hr
theorem spec_FlatOk_ev (l : List Int) : Ev (fun k => spec_FlatOk.f k l) (Hd.flatB l) := by
 unfold spec_FlatOk.f
 by_cases t : Hd.T l
 ·exact spec_FlatOk_l0 t 1 (by omega) (by omega) (fun w k1 k2 => by omega)
 have hf : Hd.flatB l = Hd.treeB l := by
  rw [Hd.treeB_no t]
  cases hc : Hd.flatB l with
  | false => rfl
  | true => exact absurd (Hd.flatB_true.1 hc).1 t
 rw [hf]
 have hn : ¬ Hd.treeB l = true := by rw [Hd.treeB_no t]; simp
 refine spec_FlatOk.l0.ev ?_
 by_cases hl : (1 : Int) ≤ l.length
 rotate_left
 ·exact Ev.neg hl (spec_FlatOk.j1.ev (Ev.neg (by simp) (Ev.bind (spec_TreeOk_ev l) (Ev.now _))))
 exact Ev.pos hl (Ev.bind (spec_TreeOk_ev l) (spec_FlatOk.j1.ev (Ev.neg hn (Ev.bind (spec_TreeOk_ev l) (Ev.now _)))))

/-! spec_l6Free -/
theorem spec_l6Free.l0.ev {x0 : List Int} {x1 : Int} {x2 : List Bool} {x7 : Int} {r : Bool} (h : Ev (fun k => if x7 < (x0.length : Int) then (if 0 ≤ x7 then (if (rd x0 x7) = x1 then (if x7 < (x2.length : Int) then (if rdOf false x2 x7 = true then (spec_l6Free.l0 k x0 x1 x2 (wrap64 (x7 + 1))) else (some false)) else (none)) else (spec_l6Free.l0 k x0 x1 x2 (wrap64 (x7 + 1)))) else (none)) else (some true)) r) : Ev (fun k => spec_l6Free.l0 k x0 x1 x2 x7) r := Ev.step (fun _ => rfl) h
def dn (v : Int) : Bool := decide (v ≠ 0)
theorem rdOf_dn {hs : List Int} {i : Int} (h0 : 0 ≤ i) (hi : i < (hs.length : Int)) : rdOf false (hs.map dn) i = dn (hs.getD i.toNat 0) := by
 have hl : i.toNat < hs.length := by omega
 rw [rdOf, List.getD_eq_getElem?_getD, List.getElem?_map, List.getD_eq_getElem?_getD, List.getElem?_eq_getElem hl]; rfl
theorem spec_l6Free_l0 {h hs : List Int} (hl : hs.length = h.length) (h8 : h.length ≤ 8) (w : Int) : ∀ i : Int, i ≤ (h.length : Int) → 0 ≤ i → Hd.leftC h hs w i.toNat = 0 → Ev (fun k => spec_l6Free.l0 k h w (hs.map dn) i) (decide (Hd.leftC h hs w h.length = 0)) := by
 refine Hd.down ?_
 intro i hi ih h0 hz
 refine spec_l6Free.l0.ev ?_
 by_cases hlt : i < (h.length : Int)
 rotate_left
 ·refine Ev.neg hlt (Ev.ret ?_)
  rw [show i.toNat = h.length by omega] at hz
  exact (decide_eq_true hz).symm
 refine Ev.pos hlt (Ev.pos h0 ?_)
 rw [wid (x := i + 1) (by omega) (by omega)]
 have e : Hd.leftC h hs w (i + 1).toNat = Hd.leftC h hs w i.toNat + if h.getD i.toNat 0 = w ∧ hs.getD i.toNat 0 = 0 then 1 else 0 := by rw [show (i + 1).toNat = i.toNat + 1 by omega]; rfl
 by_cases c : rd h i = w
 rotate_left
 ·refine Ev.neg c ?_
  exact ih hlt (by omega) (by rw [e, hz, if_neg (fun z => c z.1)]; rfl)
 refine Ev.pos c (Ev.pos (by rw [List.length_map]; omega) ?_)
 by_cases c2 : hs.getD i.toNat 0 = 0
 rotate_left
 ·refine Ev.pos (by rw [rdOf_dn h0 (by omega)]; exact decide_eq_true c2) ?_
  exact ih hlt (by omega) (by rw [e, hz, if_neg (fun z => c2 z.2)]; rfl)
 refine Ev.neg (by rw [rdOf_dn h0 (by omega), c2]; simp [dn]) (Ev.ret ?_)
 refine (decide_eq_false ?_).symm
 intro z
 exact (Hd.leftC_zero h hs w h.length).1 z i.toNat (by omega) c c2
theorem spec_l6Free_ev {h : List Int} {s : Hd.St} (hl : s.hs.length = h.length) (h8 : h.length ≤ 8) (w : Int) : Ev (fun k => spec_l6Free.f k h w (s.hs.map dn)) (decide (Hd.leftN h s w = 0)) := by
 unfold spec_l6Free.f
 exact spec_l6Free_l0 hl h8 w 0 (by omega) (by omega) rfl

/-! spec_MovesFor -/
theorem spec_MovesFor.l0.ev {x0 : List Int} {x4 : List Bool} {x5 : List Int} {x6 : ByteArray} {x7 : Int} {r : ByteArray × Bool} (h : Ev (fun k => if x7 ≤ (x0.length : Int) then (spec_MovesFor.j1 k x0 x4 x5 x6 x7 true) else (spec_MovesFor.j1 k x0 x4 x5 x6 x7 (decide ((x5.length : Int) > 1)))) r) : Ev (fun k => spec_MovesFor.l0 k x0 x4 x5 x6 x7) r := Ev.step (fun _ => rfl) h
theorem spec_MovesFor.j1.ev {x0 : List Int} {x4 : List Bool} {x5 : List Int} {x6 : ByteArray} {x7 : Int} {x24 : Bool} {r : ByteArray × Bool} (h : Ev (fun k => if x24 = true then (if (wrap64 ((x5.length : Int) - 1)) ≥ 1 then (if 0 ≤ (wrap64 ((wrap64 ((x5.length : Int) - 1)) - 1)) then (if (wrap64 ((wrap64 ((x5.length : Int) - 1)) - 1)) < (x5.length : Int) then (if 0 ≤ (wrap64 ((rd x5 (wrap64 ((wrap64 ((x5.length : Int) - 1)) - 1))) - 1)) then (if (wrap64 ((rd x5 (wrap64 ((wrap64 ((x5.length : Int) - 1)) - 1))) - 1)) < (x0.length : Int) then (if 0 ≤ (wrap64 ((x5.length : Int) - 1)) then (if (wrap64 ((x5.length : Int) - 1)) < (x5.length : Int) then (if (rd x0 (wrap64 ((rd x5 (wrap64 ((wrap64 ((x5.length : Int) - 1)) - 1))) - 1))) = (rd x5 (wrap64 ((x5.length : Int) - 1))) then ((spec_l6Free.f k x0 (rd x5 (wrap64 ((wrap64 ((x5.length : Int) - 1)) - 1))) x4).bind fun t153 => (spec_MovesFor.j2 k x0 x4 x5 x6 x7 (wrap64 ((x5.length : Int) - 1)) t153)) else (spec_MovesFor.j2 k x0 x4 x5 x6 x7 (wrap64 ((x5.length : Int) - 1)) false)) else (none)) else (none)) else (none)) else (none)) else (none)) else (none)) else (spec_MovesFor.j2 k x0 x4 x5 x6 x7 (wrap64 ((x5.length : Int) - 1)) false)) else (some (x6, true))) r) : Ev (fun k => spec_MovesFor.j1 k x0 x4 x5 x6 x7 x24) r := Ev.step (fun _ => rfl) h
theorem spec_MovesFor.j2.ev {x0 : List Int} {x4 : List Bool} {x5 : List Int} {x6 : ByteArray} {x7 : Int} {x8 : Int} {x36 : Bool} {r : ByteArray × Bool} (h : Ev (fun k => if x36 = true then (if x6.size + 1 ≤ 9223372036854775807 then (if 0 ≤ (wrap64 (x8 - 1)) then (if (wrap64 (x8 - 1)) < (x5.length : Int) then (if 0 ≤ (wrap64 ((rd x5 (wrap64 (x8 - 1))) - 1)) then (if (wrap64 ((rd x5 (wrap64 (x8 - 1))) - 1)) < (x4.length : Int) then ((some (([] : List Int) : List Int)).bind fun y156 => (if (wrap64 (x8 - 1)) ≤ (x5.length : Int) then ((some (x5.take ((wrap64 (x8 - 1)) : Int).toNat : List Int)).bind fun y159 => (if y156.length + y159.length < 17592186044416 then ((some (y156 ++ y159 : List Int)).bind fun y163 => (if 0 ≤ x8 then (if x8 < (x5.length : Int) then ((some (([rd x5 x8] : List Int) : List Int)).bind fun y167 => (if y163.length + y167.length < 17592186044416 then (spec_MovesFor.l0 k x0 (x4.set ((wrap64 ((rd x5 (wrap64 (x8 - 1))) - 1)) : Int).toNat true) (y163 ++ y167) (x6 ++ (⟨#[76]⟩ : ByteArray)) x7) else (none))) else (none)) else (none))) else (none))) else (none))) else (none)) else (none)) else (none)) else (none)) else (none)) else (if x8 ≥ 1 then (if 0 ≤ x8 then (if x8 < (x5.length : Int) then (if 0 ≤ (wrap64 ((rd x5 x8) - 1)) then (if (wrap64 ((rd x5 x8) - 1)) < (x0.length : Int) then (if 0 ≤ (wrap64 (x8 - 1)) then (if (wrap64 (x8 - 1)) < (x5.length : Int) then (if (rd x0 (wrap64 ((rd x5 x8) - 1))) = (rd x5 (wrap64 (x8 - 1))) then ((spec_l6Free.f k x0 (rd x5 x8) x4).bind fun t177 => (if t177 = true then (if x6.size + 1 ≤ 9223372036854775807 then (if (wrap64 ((rd x5 x8) - 1)) < (x4.length : Int) then ((some (([] : List Int) : List Int)).bind fun y180 => (if x8 ≤ (x5.length : Int) then ((some (x5.take (x8 : Int).toNat : List Int)).bind fun y183 => (if y180.length + y183.length < 17592186044416 then (spec_MovesFor.l0 k x0 (x4.set ((wrap64 ((rd x5 x8) - 1)) : Int).toNat true) (y180 ++ y183) (x6 ++ (⟨#[82]⟩ : ByteArray)) x7) else (none))) else (none))) else (none)) else (none)) else (if x6.size + 1 ≤ 9223372036854775807 then ((some (([x7] : List Int) : List Int)).bind fun y190 => (if x5.length + y190.length < 17592186044416 then (spec_MovesFor.l0 k x0 x4 (x5 ++ y190) (x6 ++ (⟨#[83]⟩ : ByteArray)) (wrap64 (x7 + 1))) else (none))) else (none)))) else (if x6.size + 1 ≤ 9223372036854775807 then ((some (([x7] : List Int) : List Int)).bind fun y196 => (if x5.length + y196.length < 17592186044416 then (spec_MovesFor.l0 k x0 x4 (x5 ++ y196) (x6 ++ (⟨#[83]⟩ : ByteArray)) (wrap64 (x7 + 1))) else (none))) else (none))) else (none)) else (none)) else (none)) else (none)) else (none)) else (none)) else (if x6.size + 1 ≤ 9223372036854775807 then ((some (([x7] : List Int) : List Int)).bind fun y202 => (if x5.length + y202.length < 17592186044416 then (spec_MovesFor.l0 k x0 x4 (x5 ++ y202) (x6 ++ (⟨#[83]⟩ : ByteArray)) (wrap64 (x7 + 1))) else (none))) else (none)))) r) : Ev (fun k => spec_MovesFor.j2 k x0 x4 x5 x6 x7 x8 x36) r := Ev.step (fun _ => rfl) h
theorem low_rd' {s : Hd.St} (h : 2 ≤ s.ws.length) : rd s.ws ((s.ws.length : Int) - 1 - 1) = Hd.lowW s := by rw [rd, Hd.lowW, show ((s.ws.length : Int) - 1 - 1).toNat = s.ws.length - 2 by omega]
theorem top_rd' {s : Hd.St} (h : 2 ≤ s.ws.length) : rd s.ws ((s.ws.length : Int) - 1) = Hd.topW s := by rw [rd, Hd.topW, show ((s.ws.length : Int) - 1).toNat = s.ws.length - 1 by omega]
theorem take_last' {l : List Int} (h : 2 ≤ l.length) : l.take (l.length - 1) = l.take (l.length - 2) ++ [l.getD (l.length - 2) 0] := by
 rw [show l.length - 1 = (l.length - 2) + 1 by omega, List.take_succ_eq_append_getElem (by omega), List.getD_eq_getElem?_getD, List.getElem?_eq_getElem (by omega)]; rfl
theorem spec_MovesFor_l0 {h : List Int} {n : Nat} (hn : h.length = n) (h8 : n ≤ 8) : ∀ (ms : List Int) (s : Hd.St) (st : List Int) (i : Int) (H : Int → Int) (out : ByteArray), s.OK n → Hd.Fits s st i H → Hd.Told n (Hd.hd h) ms st i H → out.size + ms.length ≤ 100 →
  Ev (fun k => spec_MovesFor.l0 k h (s.hs.map dn) s.ws out (s.nx + 1)) (out ++ Hd.bytesM ms, true)
 | [], s, st, i, H, out, o, f, t, hs => by
  obtain ⟨rfl, ⟨r, rfl⟩, e⟩ := t
  have e1 := f.nx
  have e2 : s.ws.length = 1 := by rw [f.ws]; rfl
  refine spec_MovesFor.l0.ev (Ev.neg (by omega) ?_)
  rw [show decide ((s.ws.length : Int) > 1) = false from decide_eq_false (by omega)]
  refine spec_MovesFor.j1.ev (Ev.neg (by simp) (Ev.ret ?_))
  rw [Hd.bytesM, Hd.ba_nil]
 | m :: ms, s, st, i, H, out, o, f, t, hs => by
  obtain ⟨hr, hgo, s', st', i', H', hm, o', f', t'⟩ := Hd.told_step hn o f t
  have next := fun b (hb : out.size + 1 = b) => spec_MovesFor_l0 hn h8 ms s' st' i' H' (out ++ ⟨#[m.toNat.toUInt8]⟩) o' f' t' (by rw [ByteArray.size_append, show ((⟨#[m.toNat.toUInt8]⟩ : ByteArray)).size = 1 from rfl]; simp at hs; omega)
  have next := next _ rfl
  rw [ByteArray.append_assoc] at next
  have hwl := o.wl; have hn0 := o.nx0; have hn1 := o.nx1; have hl := o.len
  have hsz : out.size + 1 ≤ 9223372036854775807 := by simp at hs; omega
  have hbm : out ++ Hd.bytesM (m :: ms) = out ++ (⟨#[m.toNat.toUInt8]⟩ ++ Hd.bytesM ms) := rfl
  rw [hbm]
  generalize out ++ (⟨#[m.toNat.toUInt8]⟩ ++ Hd.bytesM ms) = res at next ⊢
  have hj : ∀ {r : ByteArray × Bool}, Ev (fun k => spec_MovesFor.j1 k h (s.hs.map dn) s.ws out (s.nx + 1) true) r → Ev (fun k => spec_MovesFor.l0 k h (s.hs.map dn) s.ws out (s.nx + 1)) r := by
   intro r hh
   refine spec_MovesFor.l0.ev ?_
   by_cases c : s.nx + 1 ≤ (h.length : Int)
   ·exact Ev.pos c hh
   refine Ev.neg c ?_
   have hnx := f.nx
   have : 2 ≤ st.length := by rcases hgo with hgo | hgo <;> omega
   have hws : s.ws.length = st.length := by rw [f.ws]; simp
   rw [show decide ((s.ws.length : Int) > 1) = true from decide_eq_true (by omega)]; exact hh
  refine hj (spec_MovesFor.j1.ev (Ev.pos rfl ?_))
  rw [wid (x := (s.ws.length : Int) - 1) (by omega) (by omega)]
  -- the way of S
  have wayS : Hd.ruleM h s = 83 → Ev (fun k => if out.size + 1 ≤ 9223372036854775807 then ((some (([s.nx + 1] : List Int) : List Int)).bind fun y => (if s.ws.length + y.length < 17592186044416 then (spec_MovesFor.l0 k h (s.hs.map dn) (s.ws ++ y) (out ++ (⟨#[83]⟩ : ByteArray)) (wrap64 (s.nx + 1 + 1))) else (none))) else (none)) (res, true) := by
   intro hr'
   have hm83 : m = 83 := by rw [← hr, hr']
   subst hm83
   rw [Hd.moveS, if_pos rfl] at hm
   obtain ⟨hne, rfl⟩ := Hd.pushS_eq hm
   refine Ev.pos hsz (Ev.bindv rfl (Ev.pos (by simp; omega) ?_))
   rw [wid (x := s.nx + 1 + 1) (by omega) (by omega)]
   exact next
  by_cases h2 : 2 ≤ s.ws.length
  rotate_left
  ·have hr2 : Hd.ruleM h s = 83 := by rw [Hd.ruleM, if_pos (by omega)]
   exact Ev.neg (by omega) (spec_MovesFor.j2.ev (Ev.neg (by simp) (Ev.neg (by omega) (wayS hr2))))
  have ol := o.low h2
  have ot := o.top (by omega)
  rw [wid (x := (s.ws.length : Int) - 1 - 1) (by omega) (by omega), low_rd' h2, top_rd' h2, wid (x := Hd.lowW s - 1) (by omega) (by omega)]
  have F1 := spec_l6Free_ev (s := s) (h := h) (by omega) (by omega) (Hd.lowW s)
  have F2 := spec_l6Free_ev (s := s) (h := h) (by omega) (by omega) (Hd.topW s)
  refine Ev.pos (by omega) (Ev.pos (by omega) (Ev.pos (by omega) (Ev.pos (by omega) (Ev.pos (by omega) (Ev.pos (by omega) (Ev.pos (by omega) ?_))))))
  -- behind the first test
  have second : ¬ (h.getD (Hd.lowW s - 1).toNat 0 = Hd.topW s ∧ Hd.leftN h s (Hd.lowW s) = 0) → Ev (fun k => spec_MovesFor.j2 k h (s.hs.map dn) s.ws out (s.nx + 1) ((s.ws.length : Int) - 1) false) (res, true) := by
   intro no
   refine spec_MovesFor.j2.ev (Ev.neg (by simp) (Ev.pos (by omega) (Ev.pos (by omega) (Ev.pos (by omega) ?_))))
   rw [top_rd' h2, wid (x := Hd.topW s - 1) (by omega) (by omega), wid (x := (s.ws.length : Int) - 1 - 1) (by omega) (by omega), low_rd' h2]
   refine Ev.pos (by omega) (Ev.pos (by omega) (Ev.pos (by omega) (Ev.pos (by omega) ?_)))
   by_cases e2 : rd h (Hd.topW s - 1) = Hd.lowW s
   rotate_left
   ·have hr2 : Hd.ruleM h s = 83 := by rw [Hd.ruleM, if_neg (by omega), if_neg no, if_neg (fun z => e2 z.1)]
    exact Ev.neg e2 (wayS hr2)
   refine Ev.pos e2 (Ev.bind F2 ?_)
   by_cases z2 : Hd.leftN h s (Hd.topW s) = 0
   rotate_left
   ·have hr2 : Hd.ruleM h s = 83 := by rw [Hd.ruleM, if_neg (by omega), if_neg no, if_neg (fun z => z2 z.2)]
    exact Ev.neg (by simp [z2]) (wayS hr2)
   have hr2 : Hd.ruleM h s = 82 := by rw [Hd.ruleM, if_neg (by omega), if_neg no, if_pos ⟨e2, z2⟩]
   have hm82 : m = 82 := by rw [← hr, hr2]
   subst hm82
   rw [Hd.moveS, if_neg (by omega), if_neg (by omega), if_neg (by omega), if_pos rfl] at hm
   obtain rfl := Option.some.inj hm
   refine Ev.pos (by simp [z2]) (Ev.pos hsz (Ev.pos (by rw [List.length_map]; omega) (Ev.bindv rfl (Ev.pos (by omega) (Ev.bindv rfl (Ev.pos (by simp; omega) ?_))))))
   rw [List.nil_append, show ((s.ws.length : Int) - 1).toNat = s.ws.length - 1 by omega, take_last' h2]
   have em : (s.hs.map dn).set (Hd.topW s - 1).toNat true = (Hd.rightS s).hs.map dn := by
    show _ = (s.hs.set (Hd.topW s - 1).toNat (Hd.lowW s)).map dn
    rw [List.map_set, show dn (Hd.lowW s) = true from by simp [dn]; omega]
   rw [em]
   exact next
  by_cases e1 : rd h (Hd.lowW s - 1) = Hd.topW s
  rotate_left
  ·exact Ev.neg e1 (second (fun z => e1 z.1))
  refine Ev.pos e1 (Ev.bind F1 ?_)
  by_cases z1 : Hd.leftN h s (Hd.lowW s) = 0
  rotate_left
  ·rw [show decide (Hd.leftN h s (Hd.lowW s) = 0) = false from decide_eq_false z1]
   exact second (fun z => z1 z.2)
  rw [show decide (Hd.leftN h s (Hd.lowW s) = 0) = true from decide_eq_true z1]
  have hr2 : Hd.ruleM h s = 76 := by rw [Hd.ruleM, if_neg (by omega), if_pos ⟨e1, z1⟩]
  have hm76 : m = 76 := by rw [← hr, hr2]
  subst hm76
  rw [Hd.moveS, if_neg (by omega), if_neg (by omega), if_pos rfl] at hm
  obtain rfl := Option.some.inj hm
  refine spec_MovesFor.j2.ev (Ev.pos rfl (Ev.pos hsz ?_))
  rw [wid (x := (s.ws.length : Int) - 1 - 1) (by omega) (by omega), low_rd' h2, top_rd' h2, wid (x := Hd.lowW s - 1) (by omega) (by omega)]
  refine Ev.pos (by omega) (Ev.pos (by omega) (Ev.pos (by omega) (Ev.pos (by rw [List.length_map]; omega) (Ev.bindv rfl (Ev.pos (by omega) (Ev.bindv rfl (Ev.pos (by simp; omega) (Ev.bindv rfl (Ev.pos (by omega) (Ev.pos (by omega) (Ev.bindv rfl (Ev.pos (by simp; omega) ?_))))))))))))
  rw [List.nil_append, show ((s.ws.length : Int) - 1 - 1).toNat = s.ws.length - 2 by omega]
  have em : (s.hs.map dn).set (Hd.lowW s - 1).toNat true = (Hd.leftS s).hs.map dn := by
   show _ = (s.hs.set (Hd.lowW s - 1).toNat (Hd.topW s)).map dn
   rw [List.map_set, show dn (Hd.topW s) = true from by simp [dn]; omega]
  rw [em]
  exact next
/-- MovesFor's answer. -/
noncomputable def movP (l : List Int) : ByteArray × Bool := if Hd.flatB l = true then (Mach.movesF l, true) else (⟨#[]⟩, false)
theorem spec_MovesFor_ev (l : List Int) : Ev (fun k => spec_MovesFor.f k l) (movP l) := by
 unfold spec_MovesFor.f movP
 refine Ev.bind (spec_FlatOk_ev l) ?_
 by_cases f : Hd.flatB l = true
 rotate_left
 ·rw [if_neg f]
  exact Ev.neg f (Ev.now _)
 rw [if_pos f]
 obtain ⟨ms, T, hl, ho, _⟩ := Hd.flat_told f
 have t := (Hd.flatB_true.1 f).1
 have h8 := t.1
 refine Ev.pos f (Ev.pos (by omega) (Ev.pos (by omega) ?_))
 have e := spec_MovesFor_l0 rfl t.1 ms (Hd.St.start l.length) [] 0 (fun _ => 0) ⟨#[]⟩ (Hd.St.OK.start t.1) (Hd.Fits.start _) T (by show 0 + ms.length ≤ 100; omega)
 rw [Hd.nil_ba, ← ho] at e
 rw [show (List.replicate ((l.length : Int)).toNat false) = (Hd.St.start l.length).hs.map dn from by simp [Hd.St.start, dn]]
 exact e

/-! spec_l20Open -/

theorem spec_l20Open_eq {l : List Int} (h : ∀ x ∈ l, (Lit.int .u8 x).wf = true) : ∃ b, spec_l20Open.f l = some (b, 0) ∧ Bts b := by
 have hb : ∀ x, x ∈ l → 0 ≤ x ∧ x ≤ 255 := fun x hx => by
  have := h x hx
  simpa [Lit.wf, IntKind.min, IntKind.max, IntKind.signed, IntKind.bits] using this
 unfold spec_l20Open.f
 by_cases hl : (l.length : Int) > 2000
 rotate_left
 ·rw [if_neg hl]
  exact ⟨_, rfl, by omega, bts_rd hb⟩
 rw [if_pos hl, if_pos (by omega)]
 exact ⟨_, rfl, by simp; omega, bts_rd fun x hx => hb x (List.mem_of_mem_take hx)⟩

/-! spec_l20Rd_pick -/
theorem spec_l20Rd_pick.j0.ev {x1 : Int} {x24 : Bool} {x1000 : List Int} {x1001 : Int} {r : Int × Int} (h : Ev (fun k => if x24 = true then (some (0, x1001)) else (if (wrap64 (x1001 - 1)) < (x1000.length : Int) then (if 0 ≤ (wrap64 (x1001 - 1)) then (if x1 = 0 then (none) else (some (Int.tmod (wrap64 (rd x1000 (wrap64 (x1001 - 1)))) x1, x1001))) else (none)) else (if (x1000.length : Int) = 0 then (none) else (if 0 ≤ (Int.tmod (wrap64 (x1001 - 1)) (x1000.length : Int)) then (if (Int.tmod (wrap64 (x1001 - 1)) (x1000.length : Int)) < (x1000.length : Int) then (if 0 ≤ (Int.tmod (wrap64 ((wrap64 ((wrap64 (x1001 - 1)) * 7)) + 3)) (x1000.length : Int)) then (if (Int.tmod (wrap64 ((wrap64 ((wrap64 (x1001 - 1)) * 7)) + 3)) (x1000.length : Int)) < (x1000.length : Int) then (if x1 = 0 then (none) else (some (Int.tmod (Go.bits .xor .i64 (wrap64 ((wrap64 ((wrap64 ((wrap64 ((wrap64 (rd x1000 (Int.tmod (wrap64 (x1001 - 1)) (x1000.length : Int)))) * 131)) + (wrap64 ((wrap64 (rd x1000 (Int.tmod (wrap64 ((wrap64 ((wrap64 (x1001 - 1)) * 7)) + 3)) (x1000.length : Int)))) * 1117)))) + (wrap64 ((wrap64 (x1001 - 1)) * 29)))) + (wrap64 ((wrap64 (Int.tdiv (wrap64 (x1001 - 1)) (x1000.length : Int))) * 53)))) (wrap64 (Int.tdiv (wrap64 ((wrap64 ((wrap64 ((wrap64 ((wrap64 (rd x1000 (Int.tmod (wrap64 (x1001 - 1)) (x1000.length : Int)))) * 131)) + (wrap64 ((wrap64 (rd x1000 (Int.tmod (wrap64 ((wrap64 ((wrap64 (x1001 - 1)) * 7)) + 3)) (x1000.length : Int)))) * 1117)))) + (wrap64 ((wrap64 (x1001 - 1)) * 29)))) + (wrap64 ((wrap64 (Int.tdiv (wrap64 (x1001 - 1)) (x1000.length : Int))) * 53)))) 64))) x1, x1001))) else (none)) else (none)) else (none)) else (none))))) r) : Ev (fun k => spec_l20Rd_pick.j0 k x1 x24 x1000 x1001) r := Ev.step (fun _ => rfl) h
theorem bits_xor_nat (k : Go.IntKind) (j : Nat) (hj : j ≤ k.bits) (hk : ∀ n : Int, 0 ≤ n → n < 2 ^ j → k.wrap n = n) (a b : Nat) (ha : a < 2 ^ j) (hb : b < 2 ^ j) : Go.bits .xor k a b = ((a ^^^ b : Nat) : Int) := by
 have hp : 2 ^ j ≤ 2 ^ k.bits := Nat.pow_le_pow_right (by decide) hj
 have ha' : a % 2 ^ k.bits = a := Nat.mod_eq_of_lt (Nat.lt_of_lt_of_le ha hp)
 have hb' : b % 2 ^ k.bits = b := Nat.mod_eq_of_lt (Nat.lt_of_lt_of_le hb hp)
 simp only [Go.bits, BitVec.ofInt_natCast, BitVec.toNat_xor, BitVec.toNat_ofNat, ha', hb']
 refine hk _ (Int.natCast_nonneg _) ?_
 exact_mod_cast Nat.xor_lt_two_pow ha hb
theorem h_xor_i64 {a b : Nat} (ha : a < 2 ^ 40) (hb : b < 2 ^ 40) : Go.bits .xor .i64 (a : Int) (b : Int) = ((a ^^^ b : Nat) : Int) :=
 bits_xor_nat .i64 40 (by decide) (fun n h0 h1 => by rw [Go.IntKind.wrap_i64]; omega) a b ha hb
theorem xor_nonneg {x : Int} (h0 : 0 ≤ x) (h1 : x < 1000000000) : 0 ≤ Go.bits .xor .i64 x (Int.tdiv x 64) ∧ Go.bits .xor .i64 x (Int.tdiv x 64) < 2 ^ 40 := by
 obtain ⟨a, rfl⟩ := Int.eq_ofNat_of_zero_le h0
 have : Int.tdiv (a : Int) 64 = ((a / 64 : Nat) : Int) := by
  rw [Int.tdiv_eq_ediv_of_nonneg (by omega)]; simp
 rw [this, h_xor_i64 (by omega) (by omega)]
 have := Nat.xor_lt_two_pow (n := 40) (x := a) (y := a / 64) (by omega) (by omega)
 omega
theorem spec_l20Rd_pick_ev {b : List Int} (B : Bts b) {p : Int} (h0 : 0 ≤ p) (h1 : p ≤ 1000000) (n : Int) : ∃ r : Int, Ev (fun k => spec_l20Rd_pick.f k b p n) (r, p + 1) ∧ 0 ≤ r ∧ (1 ≤ n → r < n) := by
 unfold spec_l20Rd_pick.f
 rw [wid (x := p + 1) (by omega) (by omega)]
 by_cases hn : n < 1
 ·exact ⟨0, Ev.pos hn (spec_l20Rd_pick.j0.ev (Ev.pos rfl (Ev.now _))), by omega, by omega⟩
 by_cases hb : b.length = 0
 ·refine ⟨0, Ev.neg hn ?_, by omega, by omega⟩
  rw [show ((b.length : Int) == 0) = true from by simp [hb]]
  exact spec_l20Rd_pick.j0.ev (Ev.pos rfl (Ev.now _))
 have hlen := B.1
 have key : ∃ r : Int, Ev (fun k => spec_l20Rd_pick.j0 k n false b (p + 1)) (r, p + 1) ∧ 0 ≤ r ∧ (1 ≤ n → r < n) := by
  by_cases hlt : p < b.length
  ·refine ⟨Int.tmod (rd b p) n, spec_l20Rd_pick.j0.ev (Ev.neg (by simp) ?_), Int.tmod_nonneg _ (B.2 p).1, fun h => Int.tmod_lt_of_pos _ (by omega)⟩
   have := B.2 p
   rw [wid (x := p + 1 - 1) (by omega) (by omega), show p + 1 - 1 = p from by omega, wid (x := rd b p) (by omega) (by omega)]
   exact Ev.pos hlt (Ev.pos h0 (Ev.neg (by omega) (Ev.now _)))
  have t0 : 0 ≤ Int.tmod p b.length := Int.tmod_nonneg _ h0
  have t1 : Int.tmod p b.length < b.length := Int.tmod_lt_of_pos _ (by omega)
  have u0 : 0 ≤ Int.tmod (p * 7 + 3) b.length := Int.tmod_nonneg _ (by omega)
  have u1 : Int.tmod (p * 7 + 3) b.length < b.length := Int.tmod_lt_of_pos _ (by omega)
  have v0 : 0 ≤ Int.tdiv p b.length := Int.tdiv_nonneg h0 (by omega)
  have v1 : Int.tdiv p b.length ≤ p := by
   rw [Int.tdiv_eq_ediv_of_nonneg h0]
   exact Int.ediv_le_self _ h0
  have b1 := B.2 (Int.tmod p b.length)
  have b2 := B.2 (Int.tmod (p * 7 + 3) b.length)
  generalize e1 : rd b (Int.tmod p b.length) = y1 at *
  generalize e2 : rd b (Int.tmod (p * 7 + 3) b.length) = y2 at *
  have hx0 : 0 ≤ y1 * 131 + y2 * 1117 + p * 29 + Int.tdiv p b.length * 53 := by omega
  have hx1 : y1 * 131 + y2 * 1117 + p * 29 + Int.tdiv p b.length * 53 < 1000000000 := by omega
  have hx := xor_nonneg hx0 hx1
  refine ⟨Int.tmod (Go.bits .xor .i64 (y1 * 131 + y2 * 1117 + p * 29 + Int.tdiv p b.length * 53) (Int.tdiv (y1 * 131 + y2 * 1117 + p * 29 + Int.tdiv p b.length * 53) 64)) n, spec_l20Rd_pick.j0.ev (Ev.neg (by simp) ?_), Int.tmod_nonneg _ hx.1, fun h => Int.tmod_lt_of_pos _ (by omega)⟩
  have d0 : 0 ≤ Int.tdiv (y1 * 131 + y2 * 1117 + p * 29 + Int.tdiv p b.length * 53) 64 := Int.tdiv_nonneg hx0 (by omega)
  have d1 : Int.tdiv (y1 * 131 + y2 * 1117 + p * 29 + Int.tdiv p b.length * 53) 64 ≤ y1 * 131 + y2 * 1117 + p * 29 + Int.tdiv p b.length * 53 := by
   rw [Int.tdiv_eq_ediv_of_nonneg hx0]
   exact Int.ediv_le_self _ hx0
  rw [wid (x := p + 1 - 1) (by omega) (by omega), show p + 1 - 1 = p from by omega, wid (x := p * 7) (by omega) (by omega), wid (x := p * 7 + 3) (by omega) (by omega), e1, e2]
  rw [wid (x := y1) (by omega) (by omega), wid (x := y2) (by omega) (by omega), wid (x := y1 * 131) (by omega) (by omega), wid (x := y2 * 1117) (by omega) (by omega), wid (x := y1 * 131 + y2 * 1117) (by omega) (by omega), wid (x := p * 29) (by omega) (by omega), wid (x := y1 * 131 + y2 * 1117 + p * 29) (by omega) (by omega)]
  rw [wid (x := Int.tdiv p b.length) (by omega) (by omega), wid (x := Int.tdiv p b.length * 53) (by omega) (by omega), wid (x := y1 * 131 + y2 * 1117 + p * 29 + Int.tdiv p b.length * 53) (by omega) (by omega)]
  rw [wid (x := Int.tdiv (y1 * 131 + y2 * 1117 + p * 29 + Int.tdiv p b.length * 53) 64) (by omega) (by omega)]
  exact Ev.neg hlt (Ev.neg (by omega) (Ev.pos t0 (Ev.pos t1 (Ev.pos u0 (Ev.pos u1 (Ev.neg (by omega) (Ev.now _)))))))
 obtain ⟨r, e, h2, h3⟩ := key
 refine ⟨r, Ev.neg hn ?_, h2, h3⟩
 rw [show ((b.length : Int) == 0) = false from by simpa using hb]
 exact e

/-! spec_l20Rd_odd -/

theorem spec_l20Rd_odd_ev {b : List Int} (B : Bts b) {p : Int} (h0 : 0 ≤ p) (h1 : p ≤ 1000000) (n : Int) : ∃ (r : Bool) (q : Int), Ev (fun k => spec_l20Rd_odd.f k b p n) (r, q) ∧ p ≤ q ∧ q ≤ p + 1 := by
 unfold spec_l20Rd_odd.f
 by_cases hn : n > 0
 rotate_left
 ·exact ⟨_, _, Ev.neg hn (Ev.now _), by omega, by omega⟩
 obtain ⟨r, e, _, _⟩ := spec_l20Rd_pick_ev B h0 h1 n
 exact ⟨_, _, Ev.pos hn (Ev.bind e (Ev.now _)), by omega, by omega⟩

/-! spec_l20Order -/
theorem spec_l20Order.l0.ev {x1 : Int} {x5 : List Int} {x6 : Int} {x7 : Int} {x1000 : List Int} {x1001 : Int} {r : List Int × Int} (h : Ev (fun k => if x7 ≤ x1 then (if x6 = 0 then ((spec_l20Rd_pick.f k x1000 x1001 x7).bind fun bt221 => ((some (([] : List Int) : List Int)).bind fun y223 => (if 0 ≤ bt221.1 then (if bt221.1 ≤ (x5.length : Int) then ((some (x5.take (bt221.1 : Int).toNat : List Int)).bind fun y226 => (if y223.length + y226.length < 17592186044416 then ((some (y223 ++ y226 : List Int)).bind fun y230 => (if y230.length < 17592186044416 then ((some (y230 ++ [x7] : List Int)).bind fun y233 => ((some (x5.drop (bt221.1 : Int).toNat : List Int)).bind fun y236 => (if y233.length + y236.length < 17592186044416 then (spec_l20Order.l0 k x1 (y233 ++ y236) x6 (wrap64 (x7 + 1)) x1000 bt221.2) else (none)))) else (none))) else (none))) else (none)) else (none)))) else ((spec_l20Rd_pick.f k x1000 x1001 3).bind fun bt243 => (if bt243.1 = 0 then ((spec_l20Rd_pick.f k x1000 bt243.2 x7).bind fun bt245 => ((some (([] : List Int) : List Int)).bind fun y247 => (if 0 ≤ bt245.1 then (if bt245.1 ≤ (x5.length : Int) then ((some (x5.take (bt245.1 : Int).toNat : List Int)).bind fun y250 => (if y247.length + y250.length < 17592186044416 then ((some (y247 ++ y250 : List Int)).bind fun y254 => (if y254.length < 17592186044416 then ((some (y254 ++ [x7] : List Int)).bind fun y257 => ((some (x5.drop (bt245.1 : Int).toNat : List Int)).bind fun y260 => (if y257.length + y260.length < 17592186044416 then (spec_l20Order.l0 k x1 (y257 ++ y260) x6 (wrap64 (x7 + 1)) x1000 bt245.2) else (none)))) else (none))) else (none))) else (none)) else (none)))) else ((some (([] : List Int) : List Int)).bind fun y267 => (if 0 ≤ (x5.length : Int) then (if (x5.length : Int) ≤ (x5.length : Int) then ((some (x5.take ((x5.length : Int) : Int).toNat : List Int)).bind fun y270 => (if y267.length + y270.length < 17592186044416 then ((some (y267 ++ y270 : List Int)).bind fun y274 => (if y274.length < 17592186044416 then ((some (y274 ++ [x7] : List Int)).bind fun y277 => ((some (x5.drop ((x5.length : Int) : Int).toNat : List Int)).bind fun y280 => (if y277.length + y280.length < 17592186044416 then (spec_l20Order.l0 k x1 (y277 ++ y280) x6 (wrap64 (x7 + 1)) x1000 bt243.2) else (none)))) else (none))) else (none))) else (none)) else (none)))))) else (some (x5, x1001))) r) : Ev (fun k => spec_l20Order.l0 k x1 x5 x6 x7 x1000 x1001) r := Ev.step (fun _ => rfl) h
/-- Numbers from 1 to many, so many of them. -/
def Ord (many : Int) (len : Nat) (o : List Int) : Prop := o.length = len ∧ ∀ x, x ∈ o → 1 ≤ x ∧ x ≤ many
theorem ord_put {many k a : Int} {o : List Int} (O : Ord many (k - 1).toNat o) (h1 : 1 ≤ k) (h2 : k ≤ many) (_h3 : 0 ≤ a) (_h4 : a < k) : Ord many (k + 1 - 1).toNat ((([] : List Int) ++ o.take a.toNat ++ [k]) ++ o.drop a.toNat) := by
 constructor
 ·have := O.1
  simp; omega
 ·intro x hx
  simp only [List.nil_append, List.mem_append, List.mem_singleton] at hx
  rcases hx with (hx | rfl) | hx
  ·exact O.2 x (List.mem_of_mem_take hx)
  ·exact ⟨h1, h2⟩
  ·exact O.2 x (List.mem_of_mem_drop hx)
theorem spec_l20Order_l0 {b : List Int} (B : Bts b) {many keep : Int} (hm : many ≤ 100) : ∀ i : Int, i ≤ many + 1 → 1 ≤ i → ∀ (o : List Int) (p : Int), Ord many (i - 1).toNat o → 0 ≤ p → p + 2 * (many + 1 - i) ≤ 900000 →
  ∃ (o' : List Int) (q : Int), Ev (fun k => spec_l20Order.l0 k many o keep i b p) (o', q) ∧ Ord many many.toNat o' ∧ p ≤ q ∧ q ≤ p + 2 * (many + 1 - i) := by
 refine Hd.down ?_
 intro i hi ih h1 o p O h0 hp
 have ol := O.1
 by_cases hlt : i ≤ many
 rotate_left
 ·refine ⟨o, p, spec_l20Order.l0.ev (Ev.neg hlt (Ev.now _)), ?_, by omega, by omega⟩
  rw [show many.toNat = (i - 1).toNat from by omega]; exact O
 have hlen : (o.length : Int) = i - 1 := by omega
 by_cases hk : keep = 0
 ·obtain ⟨a, e, a0, a1⟩ := spec_l20Rd_pick_ev B h0 (by omega) i
  have a1 := a1 h1
  obtain ⟨o', q, e2, O2, q0, q1⟩ := ih (by omega) (by omega) _ (p + 1) (ord_put O h1 hlt a0 a1) (by omega) (by omega)
  refine ⟨o', q, spec_l20Order.l0.ev (Ev.pos hlt (Ev.pos hk (Ev.bind e ?_))), O2, by omega, by omega⟩
  rw [wid (x := i + 1) (by omega) (by omega)]
  refine Ev.bindv rfl (Ev.pos a0 (Ev.pos (by omega) (Ev.bindv rfl (Ev.pos (by simp; omega) (Ev.bindv rfl (Ev.pos (by simp; omega) (Ev.bindv rfl (Ev.bindv rfl (Ev.pos (by simp; omega) ?_)))))))))
  exact e2
 obtain ⟨s, es, _, _⟩ := spec_l20Rd_pick_ev B h0 (by omega) 3
 by_cases hs : s = 0
 rotate_left
 ·obtain ⟨o', q, e2, O2, q0, q1⟩ := ih (by omega) (by omega) _ (p + 1) (ord_put O h1 hlt (a := (o.length : Int)) (by omega) (by omega)) (by omega) (by omega)
  refine ⟨o', q, spec_l20Order.l0.ev (Ev.pos hlt (Ev.neg hk (Ev.bind es (Ev.neg hs ?_)))), O2, by omega, by omega⟩
  rw [wid (x := i + 1) (by omega) (by omega)]
  refine Ev.bindv rfl (Ev.pos (by omega) (Ev.pos (by omega) (Ev.bindv rfl (Ev.pos (by simp; omega) (Ev.bindv rfl (Ev.pos (by simp; omega) (Ev.bindv rfl (Ev.bindv rfl (Ev.pos (by simp; omega) ?_)))))))))
  exact e2
 obtain ⟨a, e, a0, a1⟩ := spec_l20Rd_pick_ev B (p := p + 1) (by omega) (by omega) i
 have a1 := a1 h1
 obtain ⟨o', q, e2, O2, q0, q1⟩ := ih (by omega) (by omega) _ (p + 1 + 1) (ord_put O h1 hlt a0 a1) (by omega) (by omega)
 refine ⟨o', q, spec_l20Order.l0.ev (Ev.pos hlt (Ev.neg hk (Ev.bind es (Ev.pos hs (Ev.bind e ?_))))), O2, by omega, by omega⟩
 rw [wid (x := i + 1) (by omega) (by omega)]
 refine Ev.bindv rfl (Ev.pos a0 (Ev.pos (by omega) (Ev.bindv rfl (Ev.pos (by simp; omega) (Ev.bindv rfl (Ev.pos (by simp; omega) (Ev.bindv rfl (Ev.bindv rfl (Ev.pos (by simp; omega) ?_)))))))))
 exact e2
theorem spec_l20Order_ev {b : List Int} (B : Bts b) {p : Int} (h0 : 0 ≤ p) (h1 : p ≤ 800000) {many : Int} (hm0 : 0 ≤ many) (hm : many ≤ 100) :
  ∃ (o : List Int) (q : Int), Ev (fun k => spec_l20Order.f k b p many) (o, q) ∧ Ord many many.toNat o ∧ p ≤ q ∧ q ≤ p + 300 := by
 obtain ⟨s, es, _, _⟩ := spec_l20Rd_pick_ev B h0 (by omega) 2
 obtain ⟨o, q, e, O, q0, q1⟩ := spec_l20Order_l0 B (keep := s) hm 1 (by omega) (by omega) [] (p + 1) ⟨rfl, fun x hx => by cases hx⟩ (by omega) (by omega)
 refine ⟨o, q, ?_, O, by omega, by omega⟩
 unfold spec_l20Order.f
 exact Ev.bind es e

/-! spec_l20Tree -/
theorem spec_l20Tree.l0.ev {x1 : Int} {x5 : Int} {x6 : List Int} {x7 : List Int} {x8 : Int} {x9 : Int} {x1000 : List Int} {x1001 : Int} {r : List Int × Int} (h : Ev (fun k => if x9 < x5 then ((spec_l20Rd_pick.f k x1000 x1001 x9).bind fun bt298 => (if x8 = 1 then ((spec_l20Rd_pick.f k x1000 bt298.2 2).bind fun bt300 => (if bt300.1 = 0 then (if 0 ≤ x9 then (if x9 < (x6.length : Int) then (if 0 ≤ (wrap64 (x9 - 1)) then (if (wrap64 (x9 - 1)) < (x6.length : Int) then (if 0 ≤ (wrap64 ((rd x6 x9) - 1)) then (if (wrap64 ((rd x6 x9) - 1)) < (x7.length : Int) then (spec_l20Tree.l0 k x1 x5 x6 (x7.set ((wrap64 ((rd x6 x9) - 1)) : Int).toNat (rd x6 (wrap64 (x9 - 1)))) x8 (wrap64 (x9 + 1)) x1000 bt300.2) else (none)) else (none)) else (none)) else (none)) else (none)) else (none)) else (if 0 ≤ x9 then (if x9 < (x6.length : Int) then (if 0 ≤ bt298.1 then (if bt298.1 < (x6.length : Int) then (if 0 ≤ (wrap64 ((rd x6 x9) - 1)) then (if (wrap64 ((rd x6 x9) - 1)) < (x7.length : Int) then (spec_l20Tree.l0 k x1 x5 x6 (x7.set ((wrap64 ((rd x6 x9) - 1)) : Int).toNat (rd x6 bt298.1)) x8 (wrap64 (x9 + 1)) x1000 bt300.2) else (none)) else (none)) else (none)) else (none)) else (none)) else (none)))) else (if 0 ≤ x9 then (if x9 < (x6.length : Int) then (if 0 ≤ bt298.1 then (if bt298.1 < (x6.length : Int) then (if 0 ≤ (wrap64 ((rd x6 x9) - 1)) then (if (wrap64 ((rd x6 x9) - 1)) < (x7.length : Int) then (spec_l20Tree.l0 k x1 x5 x6 (x7.set ((wrap64 ((rd x6 x9) - 1)) : Int).toNat (rd x6 bt298.1)) x8 (wrap64 (x9 + 1)) x1000 bt298.2) else (none)) else (none)) else (none)) else (none)) else (none)) else (none)))) else ((spec_l20Rd_odd.f k x1000 x1001 x1).bind fun bt311 => (if bt311.1 = true then ((spec_l20Rd_pick.f k x1000 bt311.2 4).bind fun bt313 => (if bt313.1 = 0 then (some ((([] : List Int)), bt313.2)) else (if bt313.1 = 1 then (some ((([2, 1, 0] : List Int)), bt313.2)) else (if bt313.1 = 2 then ((spec_l20Rd_pick.f k x1000 bt313.2 x5).bind fun bt321 => (if 0 ≤ bt321.1 then (if bt321.1 < (x7.length : Int) then ((some (x7.set (bt321.1 : Int).toNat 0 : List Int)).bind fun y323 => (if y323.length < 17592186044416 then (some ((y323 ++ [0]), bt321.2)) else (none))) else (none)) else (none))) else ((some (([1, wrap64 (x5 + 1), (-1)] : List Int) : List Int)).bind fun y327 => ((spec_l20Rd_pick.f k x1000 bt313.2 3).bind fun bt330 => (if 0 ≤ bt330.1 then (if bt330.1 < (y327.length : Int) then (if 0 < (x7.length : Int) then (some ((x7.set (0 : Int).toNat (rd y327 bt330.1)), bt330.2)) else (none)) else (none)) else (none)))))))) else (some (x7, bt311.2))))) r) : Ev (fun k => spec_l20Tree.l0 k x1 x5 x6 x7 x8 x9 x1000 x1001) r := Ev.step (fun _ => rfl) h
theorem ord_rd {many : Int} {n : Nat} {o : List Int} (O : Ord many n o) {i : Int} (h0 : 0 ≤ i) (h1 : i < n) : 1 ≤ rd o i ∧ rd o i ≤ many := by
 have := O.1
 unfold rd
 rw [List.getD_eq_getElem?_getD, List.getElem?_eq_getElem (by omega)]
 exact O.2 _ (List.getElem_mem _)
theorem spec_l20Tree_l0 {b : List Int} (B : Bts b) {odd many near : Int} (hm1 : 1 ≤ many) (hm : many ≤ 8) {o : List Int} (O : Ord many many.toNat o) : ∀ i : Int, i ≤ many → 1 ≤ i → ∀ (h : List Int) (p : Int), h.length = many.toNat → 0 ≤ p → p + 2 * (many - i) ≤ 900000 →
  ∃ (h' : List Int) (q : Int), Ev (fun k => spec_l20Tree.l0 k odd many o h near i b p) (h', q) ∧ h'.length ≤ 9 ∧ p ≤ q ∧ q ≤ p + 2 * (many - i) + 4 := by
 refine Hd.down ?_
 intro i hi ih h1 h p hl h0 hp
 have ol := O.1
 by_cases hlt : i < many
 rotate_left
 ·obtain ⟨t, q, et, q0, q1⟩ := spec_l20Rd_odd_ev B h0 (by omega) odd
  cases t with
  | false => exact ⟨h, q, spec_l20Tree.l0.ev (Ev.neg hlt (Ev.bind et (Ev.neg (by simp) (Ev.now _)))), by omega, by omega, by omega⟩
  | true =>
   obtain ⟨c, ec, _, _⟩ := spec_l20Rd_pick_ev B (p := q) (by omega) (by omega) 4
   by_cases c0 : c = 0
   ·exact ⟨_, _, spec_l20Tree.l0.ev (Ev.neg hlt (Ev.bind et (Ev.pos rfl (Ev.bind ec (Ev.pos c0 (Ev.now _)))))), by simp, by omega, by omega⟩
   by_cases c1 : c = 1
   ·exact ⟨_, _, spec_l20Tree.l0.ev (Ev.neg hlt (Ev.bind et (Ev.pos rfl (Ev.bind ec (Ev.neg c0 (Ev.pos c1 (Ev.now _))))))), by simp, by omega, by omega⟩
   by_cases c2 : c = 2
   ·obtain ⟨d, ed, d0, d1⟩ := spec_l20Rd_pick_ev B (p := q + 1) (by omega) (by omega) many
    have d1 := d1 hm1
    exact ⟨_, _, spec_l20Tree.l0.ev (Ev.neg hlt (Ev.bind et (Ev.pos rfl (Ev.bind ec (Ev.neg c0 (Ev.neg c1 (Ev.pos c2 (Ev.bind ed (Ev.pos d0 (Ev.pos (by omega) (Ev.bindv rfl (Ev.pos (by simp; omega) (Ev.now _))))))))))))), by simp; omega, by omega, by omega⟩
   obtain ⟨d, ed, d0, d1⟩ := spec_l20Rd_pick_ev B (p := q + 1) (by omega) (by omega) 3
   have d1 := d1 (by omega)
   exact ⟨_, _, spec_l20Tree.l0.ev (Ev.neg hlt (Ev.bind et (Ev.pos rfl (Ev.bind ec (Ev.neg c0 (Ev.neg c1 (Ev.neg c2 (Ev.bindv rfl (Ev.bind ed (Ev.pos d0 (Ev.pos (by simp; omega) (Ev.pos (by omega) (Ev.now _))))))))))))), by simp; omega, by omega, by omega⟩
 obtain ⟨a, e, a0, a1⟩ := spec_l20Rd_pick_ev B h0 (by omega) i
 have a1 := a1 h1
 have r1 := ord_rd O (i := i) (by omega) (by omega)
 obtain ⟨s, es, _, _⟩ := spec_l20Rd_pick_ev B (p := p + 1) (by omega) (by omega) 2
 by_cases hn : near = 1
 rotate_left
 ·obtain ⟨h', q, e2, l2, q0, q1⟩ := ih hlt (by omega) (h.set (rd o i - 1).toNat (rd o a)) (p + 1) (by simpa using hl) (by omega) (by omega)
  refine ⟨h', q, spec_l20Tree.l0.ev (Ev.pos hlt (Ev.bind e (Ev.neg hn ?_))), l2, by omega, by omega⟩
  rw [wid (x := i + 1) (by omega) (by omega), wid (x := rd o i - 1) (by omega) (by omega)]
  exact Ev.pos (by omega) (Ev.pos (by omega) (Ev.pos (by omega) (Ev.pos (by omega) (Ev.pos (by omega) (Ev.pos (by omega) e2)))))
 by_cases hs : s = 0
 rotate_left
 ·obtain ⟨h', q, e2, l2, q0, q1⟩ := ih hlt (by omega) (h.set (rd o i - 1).toNat (rd o a)) (p + 1 + 1) (by simpa using hl) (by omega) (by omega)
  refine ⟨h', q, spec_l20Tree.l0.ev (Ev.pos hlt (Ev.bind e (Ev.pos hn (Ev.bind es (Ev.neg hs ?_))))), l2, by omega, by omega⟩
  rw [wid (x := i + 1) (by omega) (by omega), wid (x := rd o i - 1) (by omega) (by omega)]
  exact Ev.pos (by omega) (Ev.pos (by omega) (Ev.pos (by omega) (Ev.pos (by omega) (Ev.pos (by omega) (Ev.pos (by omega) e2)))))
 obtain ⟨h', q, e2, l2, q0, q1⟩ := ih hlt (by omega) (h.set (rd o i - 1).toNat (rd o (i - 1))) (p + 1 + 1) (by simpa using hl) (by omega) (by omega)
 refine ⟨h', q, spec_l20Tree.l0.ev (Ev.pos hlt (Ev.bind e (Ev.pos hn (Ev.bind es (Ev.pos hs ?_))))), l2, by omega, by omega⟩
 rw [wid (x := i + 1) (by omega) (by omega), wid (x := i - 1) (by omega) (by omega), wid (x := rd o i - 1) (by omega) (by omega)]
 exact Ev.pos (by omega) (Ev.pos (by omega) (Ev.pos (by omega) (Ev.pos (by omega) (Ev.pos (by omega) (Ev.pos (by omega) e2)))))
theorem spec_l20Tree_ev {b : List Int} (B : Bts b) {p : Int} (h0 : 0 ≤ p) (h1 : p ≤ 700000) (odd : Int) :
  ∃ (h : List Int) (q : Int), Ev (fun k => spec_l20Tree.f k b p odd) (h, q) ∧ h.length ≤ 9 ∧ p ≤ q ∧ q ≤ p + 400 := by
 obtain ⟨m, em, m0, m1⟩ := spec_l20Rd_pick_ev B h0 (by omega) 7
 have m1 := m1 (by omega)
 obtain ⟨o, q, eo, O, q0, q1⟩ := spec_l20Order_ev B (p := p + 1) (by omega) (by omega) (many := 1 + m) (by omega) (by omega)
 obtain ⟨s, es, _, _⟩ := spec_l20Rd_pick_ev B (p := q) (by omega) (by omega) 2
 obtain ⟨h, r, e, hl, r0, r1⟩ := spec_l20Tree_l0 B (odd := odd) (near := s) (many := 1 + m) (by omega) (by omega) O 1 (by omega) (by omega) (List.replicate (1 + m).toNat 0) (q + 1) (by simp) (by omega) (by omega)
 refine ⟨h, r, ?_, hl, by omega, by omega⟩
 unfold spec_l20Tree.f
 refine Ev.bind em ?_
 rw [wid (x := 1 + m) (by omega) (by omega)]
 exact Ev.bind eo (Ev.pos (by omega) (Ev.pos (by omega) (Ev.bind es e)))

/-! spec_l20Fill -/
theorem spec_l20Fill.l0.ev {x1 : List Int} {x3 : Int} {x10 : Int} {x11 : Int} {x1000 : List Int} {x1001 : Int} {r : Int × List Int} (h : Ev (fun k => if x11 < x10 then ((spec_l20Rd_pick.f k x1000 x1001 (wrap64 (x10 - x11))).bind fun bt337 => ((spec_l20Fill.f k x1000 bt337.2 x1 x11 (wrap64 (x11 + bt337.1)) x10).bind fun bt339 => (spec_l20Fill.l0 k bt339.2 x3 x10 (wrap64 ((wrap64 (x11 + bt337.1)) + 1)) x1000 bt339.1))) else (spec_l20Fill.l1 k x1 x3 x10 (wrap64 (x10 + 1)) x1000 x1001)) r) : Ev (fun k => spec_l20Fill.l0 k x1 x3 x10 x11 x1000 x1001) r := Ev.step (fun _ => rfl) h
theorem spec_l20Fill.l1.ev {x1 : List Int} {x3 : Int} {x10 : Int} {x11 : Int} {x1000 : List Int} {x1001 : Int} {r : Int × List Int} (h : Ev (fun k => if x11 ≤ x3 then ((spec_l20Rd_pick.f k x1000 x1001 (wrap64 ((wrap64 (x3 - x11)) + 1))).bind fun bt341 => ((spec_l20Fill.f k x1000 bt341.2 x1 x11 (wrap64 (x11 + bt341.1)) x10).bind fun bt343 => (spec_l20Fill.l1 k bt343.2 x3 x10 (wrap64 ((wrap64 (x11 + bt341.1)) + 1)) x1000 bt343.1))) else (some (x1001, x1))) r) : Ev (fun k => spec_l20Fill.l1 k x1 x3 x10 x11 x1000 x1001) r := Ev.step (fun _ => rfl) h
theorem spec_l20Fill.f.ev {s0_0 : List Int} {s0_1 : Int} {l1 : List Int} {a2 : Int} {a3 : Int} {a4 : Int} {r : Int × List Int} (h : Ev (fun k => if a2 > a3 then (some (s0_1, l1)) else ((spec_l20Rd_pick.f k s0_0 s0_1 (wrap64 ((wrap64 (a3 - a2)) + 1))).bind fun bt334 => (if 0 ≤ (wrap64 ((wrap64 (a2 + bt334.1)) - 1)) then (if (wrap64 ((wrap64 (a2 + bt334.1)) - 1)) < (l1.length : Int) then (spec_l20Fill.l0 k (l1.set ((wrap64 ((wrap64 (a2 + bt334.1)) - 1)) : Int).toNat a4) a3 (wrap64 (a2 + bt334.1)) a2 s0_0 bt334.2) else (none)) else (none)))) r) : Ev (fun k => spec_l20Fill.f k s0_0 s0_1 l1 a2 a3 a4) r := Ev.step (fun _ => rfl) h
/-- What one call on s words is good for. -/
def FillOk (b : List Int) (d : Int) : Prop := ∀ (s low head : Int) (h : List Int) (p : Int), 1 ≤ s → s ≤ d → 1 ≤ low → low + s - 1 ≤ h.length → h.length ≤ 100 → 0 ≤ p → p + 2 * s ≤ 600000 →
 ∃ (q : Int) (h' : List Int), Ev (fun k => spec_l20Fill.f k b p h low (low + s - 1) head) (q, h') ∧ h'.length = h.length ∧ p ≤ q ∧ q ≤ p + 2 * s - 1
theorem spec_l20Fill_l1 {b : List Int} (B : Bts b) {d : Int} (F : FillOk b d) {high root : Int} (hr : 1 ≤ root) (hd : high - root ≤ d) : ∀ i : Int, i ≤ high + 1 → root < i → ∀ (h : List Int) (p : Int), high ≤ h.length → h.length ≤ 100 → 0 ≤ p → p + 2 * (high - i + 1) ≤ 599999 →
  ∃ (q : Int) (h' : List Int), Ev (fun k => spec_l20Fill.l1 k h high root i b p) (q, h') ∧ h'.length = h.length ∧ p ≤ q ∧ q ≤ p + 2 * (high - i + 1) := by
 have key : ∀ (m : Nat) (i : Int), i ≤ high + 1 → root < i → high - i + 1 ≤ m → ∀ (h : List Int) (p : Int), high ≤ h.length → h.length ≤ 100 → 0 ≤ p → p + 2 * (high - i + 1) ≤ 599999 →
  ∃ (q : Int) (h' : List Int), Ev (fun k => spec_l20Fill.l1 k h high root i b p) (q, h') ∧ h'.length = h.length ∧ p ≤ q ∧ q ≤ p + 2 * (high - i + 1) := by
  intro m
  induction m with
  | zero =>
   intro i h1 h2 h3 h p _ _ h0 _
   exact ⟨p, h, spec_l20Fill.l1.ev (Ev.neg (by omega) (Ev.now _)), rfl, by omega, by omega⟩
  | succ m ih =>
   intro i h1 h2 h3 h p hh hh2 h0 hp
   by_cases hle : i ≤ high
   rotate_left
   ·exact ⟨p, h, spec_l20Fill.l1.ev (Ev.neg hle (Ev.now _)), rfl, by omega, by omega⟩
   obtain ⟨r, er, r0, r1⟩ := spec_l20Rd_pick_ev B h0 (by omega) (high - i + 1)
   have r1 := r1 (by omega)
   obtain ⟨q1, hh1, e1, l1, a1, b1⟩ := F (r + 1) i root h (p + 1) (by omega) (by omega) (by omega) (by omega) hh2 (by omega) (by omega)
   obtain ⟨q2, hh3, e2, l2, a2, b2⟩ := ih (i + r + 1) (by omega) (by omega) (by omega) hh1 q1 (by omega) (by omega) (by omega) (by omega)
   refine ⟨q2, hh3, spec_l20Fill.l1.ev (Ev.pos hle ?_), by omega, by omega, by omega⟩
   rw [wid (x := high - i) (by omega) (by omega), wid (x := high - i + 1) (by omega) (by omega)]
   refine Ev.bind er ?_
   rw [wid (x := i + r) (by omega) (by omega), wid (x := i + r + 1) (by omega) (by omega)]
   rw [show i + (r + 1) - 1 = i + r from by omega] at e1
   exact Ev.bind e1 e2
 intro i h1 h2 h p
 exact key (high - i + 1).toNat i h1 h2 (by omega) h p
theorem spec_l20Fill_l0 {b : List Int} (B : Bts b) {d : Int} (F : FillOk b d) {high root : Int} (hh0 : root ≤ high) (hd : high - root ≤ d) : ∀ i : Int, i ≤ root → 1 ≤ i → root - i ≤ d → ∀ (h : List Int) (p : Int), high ≤ h.length → h.length ≤ 100 → 0 ≤ p → p + 2 * (high - i) ≤ 599999 →
  ∃ (q : Int) (h' : List Int), Ev (fun k => spec_l20Fill.l0 k h high root i b p) (q, h') ∧ h'.length = h.length ∧ p ≤ q ∧ q ≤ p + 2 * (high - i) := by
 have key : ∀ (m : Nat) (i : Int), i ≤ root → 1 ≤ i → root - i ≤ d → root - i ≤ m → ∀ (h : List Int) (p : Int), high ≤ h.length → h.length ≤ 100 → 0 ≤ p → p + 2 * (high - i) ≤ 599999 →
  ∃ (q : Int) (h' : List Int), Ev (fun k => spec_l20Fill.l0 k h high root i b p) (q, h') ∧ h'.length = h.length ∧ p ≤ q ∧ q ≤ p + 2 * (high - i) := by
  intro m
  have last : ∀ (i : Int), root ≤ i → 1 ≤ i → i ≤ root → ∀ (h : List Int) (p : Int), high ≤ h.length → h.length ≤ 100 → 0 ≤ p → p + 2 * (high - i) ≤ 599999 →
   ∃ (q : Int) (h' : List Int), Ev (fun k => spec_l20Fill.l0 k h high root i b p) (q, h') ∧ h'.length = h.length ∧ p ≤ q ∧ q ≤ p + 2 * (high - i) := by
   intro i h1 h2 h4 h p hh hh2 h0 hp
   obtain ⟨q, h', e, l, a, b'⟩ := spec_l20Fill_l1 B F (high := high) (root := root) (by omega) hd (root + 1) (by omega) (by omega) h p hh hh2 h0 (by omega)
   refine ⟨q, h', spec_l20Fill.l0.ev (Ev.neg (by omega) ?_), l, a, by omega⟩
   rw [wid (x := root + 1) (by omega) (by omega)]
   exact e
  induction m with
  | zero => intro i h1 h2 _ h3; exact last i (by omega) h2 h1
  | succ m ih =>
   intro i h1 h2 hdi h3 h p hh hh2 h0 hp
   by_cases hlt : i < root
   rotate_left
   ·exact last i (by omega) h2 h1 h p hh hh2 h0 hp
   obtain ⟨r, er, r0, r1⟩ := spec_l20Rd_pick_ev B h0 (by omega) (root - i)
   have r1 := r1 (by omega)
   obtain ⟨q1, hh1, e1, l1, a1, b1⟩ := F (r + 1) i root h (p + 1) (by omega) (by omega) (by omega) (by omega) hh2 (by omega) (by omega)
   obtain ⟨q2, hh3, e2, l2, a2, b2⟩ := ih (i + r + 1) (by omega) (by omega) (by omega) (by omega) hh1 q1 (by omega) (by omega) (by omega) (by omega)
   refine ⟨q2, hh3, spec_l20Fill.l0.ev (Ev.pos hlt ?_), by omega, by omega, by omega⟩
   rw [wid (x := root - i) (by omega) (by omega)]
   refine Ev.bind er ?_
   rw [wid (x := i + r) (by omega) (by omega), wid (x := i + r + 1) (by omega) (by omega)]
   rw [show i + (r + 1) - 1 = i + r from by omega] at e1
   exact Ev.bind e1 e2
 intro i h1 h2 h3 h p
 exact key (root - i).toNat i h1 h2 h3 (by omega) h p
theorem spec_l20Fill_ok {b : List Int} (B : Bts b) : ∀ d : Nat, FillOk b d
 | 0 => fun s low head h p h1 h2 => by omega
 | d + 1 => fun s low head h p h1 h2 h3 h4 h5 h6 h7 => by
  obtain ⟨r, er, r0, r1⟩ := spec_l20Rd_pick_ev B h6 (by omega) s
  have r1 := r1 (by omega)
  obtain ⟨q, h', e, l, a, c⟩ := spec_l20Fill_l0 B (spec_l20Fill_ok B d) (high := low + s - 1) (root := low + r) (by omega) (by omega) low (by omega) h3 (by omega) (h.set (low + r - 1).toNat head) (p + 1) (by rw [List.length_set]; omega) (by rw [List.length_set]; omega) (by omega) (by omega)
  refine ⟨q, h', spec_l20Fill.f.ev (Ev.neg (by omega) ?_), by rw [l, List.length_set], by omega, by omega⟩
  rw [wid (x := low + s - 1 - low) (by omega) (by omega), wid (x := low + s - 1 - low + 1) (by omega) (by omega), show low + s - 1 - low + 1 = s from by omega]
  refine Ev.bind er ?_
  rw [wid (x := low + r) (by omega) (by omega), wid (x := low + r - 1) (by omega) (by omega)]
  exact Ev.pos (by omega) (Ev.pos (by omega) e)

/-! spec_l20Flat -/

theorem spec_l20Flat_ev {b : List Int} (B : Bts b) {p : Int} (h0 : 0 ≤ p) (h1 : p ≤ 500000) (odd : Int) :
  ∃ (h : List Int) (q : Int), Ev (fun k => spec_l20Flat.f k b p odd) (h, q) ∧ h.length ≤ 9 ∧ p ≤ q ∧ q ≤ p + 500 := by
 unfold spec_l20Flat.f
 obtain ⟨c, ec, _, _⟩ := spec_l20Rd_pick_ev B h0 (by omega) 3
 by_cases hc : c = 0
 ·obtain ⟨h, q, e, hl, q0, q1⟩ := spec_l20Tree_ev B (p := p + 1) (by omega) (by omega) odd
  exact ⟨h, q, Ev.bind ec (Ev.pos hc (Ev.bind e (Ev.now _))), hl, by omega, by omega⟩
 obtain ⟨m, em, m0, m1⟩ := spec_l20Rd_pick_ev B (p := p + 1) (by omega) (by omega) 7
 have m1 := m1 (by omega)
 obtain ⟨q, h, e, hl, q0, q1⟩ := spec_l20Fill_ok B 7 (1 + m) 1 0 (List.replicate (1 + m).toNat 0) (p + 1 + 1) (by omega) (by omega) (by omega) (by simp; omega) (by simp; omega) (by omega) (by omega)
 refine ⟨h, q, Ev.bind ec (Ev.neg hc (Ev.bind em ?_)), by rw [hl]; simp; omega, by omega, by omega⟩
 rw [show 1 + (1 + m) - 1 = 1 + m from by omega] at e
 rw [wid (x := 1 + m) (by omega) (by omega)]
 exact Ev.pos (by omega) (Ev.pos (by omega) (Ev.bind e (Ev.now _)))

/-! spec_DrawMovesFor -/

theorem spec_DrawMovesFor_ev {l : List Int} (h : ∀ x ∈ l, (Lit.int .u8 x).wf = true) : ∃ r, Ev (fun k => spec_DrawMovesFor.f k l) r ∧ r.length ≤ 9 := by
 obtain ⟨b, eb, B⟩ := spec_l20Open_eq h
 obtain ⟨r, q, e, hl, _⟩ := spec_l20Flat_ev B (p := 0) (by omega) (by omega) 9
 unfold spec_DrawMovesFor.f
 exact ⟨r, Ev.bindv eb (Ev.bind e (Ev.now _)), hl⟩

theorem laws_FnMovesFor.j0.ev {x3 : List Int} {x4 : ByteArray} {x5 : Bool} {x37 : Bool} {r : Bool} (h : Ev (fun k => if x37 = true then (some false) else (if x5 = true then (laws_FnMovesFor.l0 k x3 x4 0 0 0) else (if x4.toList = ([] : List UInt8) then ((impl_FlatOk.f k x3).bind fun t372 => (if t372 = true then (some false) else ((laws_alive.f k).bind fun t373 => (some t373)))) else (some false)))) r) : Ev (fun k => laws_FnMovesFor.j0 k x3 x4 x5 x37) r := Ev.step (fun _ => rfl) h
theorem laws_FnMovesFor.l0.ev {x3 : List Int} {x4 : ByteArray} {x8 : Int} {x9 : Int} {x10 : Int} {r : Bool} (h : Ev (fun k => if x10 < (x4.size : Int) then (if 0 ≤ x10 then (if (bt x4 x10) = 83 then (if (bt x4 x10) = 76 then (laws_FnMovesFor.l0 k x3 x4 (wrap64 (x8 + 1)) (wrap64 (x9 + 1)) (wrap64 (x10 + 1))) else (laws_FnMovesFor.l0 k x3 x4 (wrap64 (x8 + 1)) x9 (wrap64 (x10 + 1)))) else (if (bt x4 x10) = 76 then (laws_FnMovesFor.l0 k x3 x4 x8 (wrap64 (x9 + 1)) (wrap64 (x10 + 1))) else (laws_FnMovesFor.l0 k x3 x4 x8 x9 (wrap64 (x10 + 1))))) else (none)) else (laws_FnMovesFor.l1 k x3 x4 x8 x9 0 0)) r) : Ev (fun k => laws_FnMovesFor.l0 k x3 x4 x8 x9 x10) r := Ev.step (fun _ => rfl) h
theorem laws_FnMovesFor.l1.ev {x3 : List Int} {x4 : ByteArray} {x8 : Int} {x9 : Int} {x11 : Int} {x12 : Int} {r : Bool} (h : Ev (fun k => if x12 < (x3.length : Int) then (if 0 ≤ x12 then (if (rd x3 x12) > (wrap64 (x12 + 1)) then (laws_FnMovesFor.l1 k x3 x4 x8 x9 (wrap64 (x11 + 1)) (wrap64 (x12 + 1))) else (laws_FnMovesFor.l1 k x3 x4 x8 x9 x11 (wrap64 (x12 + 1)))) else (none)) else ((impl_RunStack.f (x3.length : Int) x4).bind fun bt375 => (if bt375.2 = true then ((laws_sameInts.f k bt375.1 x3).bind fun t379 => (if t379 = true then (if x8 = (x3.length : Int) then (if x9 = x11 then (some ((x4.size : Int) == (wrap64 ((wrap64 (2 * (x3.length : Int))) - 1)))) else (some false)) else (some false)) else (some false))) else (some false)))) r) : Ev (fun k => laws_FnMovesFor.l1 k x3 x4 x8 x9 x11 x12) r := Ev.step (fun _ => rfl) h
end Go.Proofs.Ytdckgafgidfplaa.QFnMovesFor
