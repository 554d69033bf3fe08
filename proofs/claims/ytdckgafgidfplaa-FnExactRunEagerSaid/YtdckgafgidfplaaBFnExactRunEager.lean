/- Contracts of the functions that the statement FnExactRunEager reaches: what each printed function comes to. -/
import Derived.Test.YtdckgafgidfplaaQFnExactRunEagerx3
import Derived.Test.YtdckgafgidfplaaWSized
import Derived.Test.YtdckgafgidfplaaHd8
import Derived.Test.YtdckgafgidfplaaHdF
namespace Go.Proofs.Ytdckgafgidfplaa.PrintWords
/-- The name by which the printed row calls the word. -/
abbrev sized_ints := @Go.Proofs.YtdckgafgidfplaaW.PrintWords.sized_ints
end Go.Proofs.Ytdckgafgidfplaa.PrintWords
namespace Go.Proofs.Ytdckgafgidfplaa.QFnExactRunEager
open Go.RowKit Go.Proofs.YtdckgafgidfplaaW.PrintWords Go.Proofs.YtdckgafgidfplaaW.PrintLast Go.Proofs.YtdckgafgidfplaaW.PrintMore
set_option linter.unusedVariables false
set_option linter.unusedSimpArgs false
theorem wid {x : Int} (h : -9223372036854775808 ≤ x) (h' : x ≤ 9223372036854775807) : wrap64 x = x := by unfold wrap64; omega
theorem Ev.pos {α : Type} {c : Prop} [Decidable c] {A B : Nat → Option α} {r : α} (h : c) (e : Ev A r) : Ev (fun k => if c then A k else B k) r := by simpa only [if_pos h] using e
theorem Ev.neg {α : Type} {c : Prop} [Decidable c] {A B : Nat → Option α} {r : α} (h : ¬ c) (e : Ev B r) : Ev (fun k => if c then A k else B k) r := by simpa only [if_neg h] using e
theorem Ev.bindv {α β : Type} {o : Option α} {f : Nat → α → Option β} {a : α} {r : β} (h : o = some a) (k : Ev (fun n => f n a) r) : Ev (fun n => o.bind (f n)) r := by subst h; exact k
theorem Ev.ret {α : Type} {a r : α} (h : a = r) : Ev (fun _ => some a) r := h ▸ Ev.now a
theorem rd_hd {l : List Int} {a : Int} (h : 1 ≤ a) : rd l (a - 1) = Hd.hd l a := Hd.hd_get h
theorem rd_hd1 {l : List Int} {a : Int} (h : 0 ≤ a) : rd l a = Hd.hd l (a + 1) := by rw [← rd_hd (by omega)]; congr 1; omega
theorem mn_mx (a b : Int) : (mn a b = a ∧ mx a b = b ∧ a ≤ b) ∨ (mn a b = b ∧ mx a b = a ∧ b ≤ a) := by
 unfold mn mx
 split <;> split <;> omega
theorem h_or_i64 {a b : Nat} (ha : a < 256) (hb : b < 256) : Go.bits .or .i64 (a : Int) (b : Int) = ((a ||| b : Nat) : Int) :=
 (Go.bits_nat .i64 8 (by decide) (fun n h0 h1 => by rw [Go.IntKind.wrap_i64]; omega) a b (by omega) (by omega)).2
theorem h_shl_one {x : Nat} (h : x ≤ 7) : shl .i64 1 (x : Int) = ((2 ^ x : Nat) : Int) := by
 have : ∀ x : Nat, x < 8 → shl .i64 1 (x : Int) = ((2 ^ x : Nat) : Int) := by decide
 exact this x (by omega)
theorem h_shr_bit {v x : Nat} (h : x ≤ 64) : (Int.tmod (shr .i64 (v : Int) (x : Int)) 2 = 1) ↔ v.testBit x = true := by
 unfold shr
 rw [Int.toNat_natCast, Nat.min_eq_left (by simpa [Go.IntKind.bits] using h), Nat.testBit_eq_decide_div_mod_eq]
 have : ((v : Int) / 2 ^ x) = ((v / 2 ^ x : Nat) : Int) := by simp
 rw [this, Int.tmod_eq_emod_of_nonneg (Int.natCast_nonneg _), decide_eq_true_eq]
 omega
theorem h_shr_nat {v x : Nat} (h : x ≤ 64) : shr .i64 (v : Int) (x : Int) = ((v / 2 ^ x : Nat) : Int) := by
 unfold shr
 rw [Int.toNat_natCast, Nat.min_eq_left (by simpa [Go.IntKind.bits] using h)]
 simp
theorem h_and_i64 {a b : Nat} (ha : a < 512) (hb : b < 512) : Go.bits .and .i64 (a : Int) (b : Int) = ((a &&& b : Nat) : Int) :=
 (Go.bits_nat .i64 9 (by decide) (fun n h0 h1 => by rw [Go.IntKind.wrap_i64]; omega) a b (by omega) (by omega)).1
theorem h_rd_set {P : List Int} {i j : Int} {v : Int} (h0 : 0 ≤ i) (h1 : i < P.length) (hj : 0 ≤ j) : rd (P.set i.toNat v) j = if j = i then v else rd P j := by
 unfold rd
 rw [List.getD_eq_getElem?_getD, List.getElem?_set]
 by_cases e : j = i
 rotate_left
 ·rw [if_neg (by omega), if_neg e, List.getD_eq_getElem?_getD]
 subst e
 rw [if_pos rfl, if_pos (by omega), if_pos rfl]; rfl
/-- Bytes of a code, as far as they are read. -/
def Bts (b : List Int) : Prop := b.length ≤ 2000 ∧ ∀ i : Int, 0 ≤ rd b i ∧ rd b i ≤ 255
theorem bts_rd {l : List Int} (h : ∀ x, x ∈ l → 0 ≤ x ∧ x ≤ 255) (i : Int) : 0 ≤ rd l i ∧ rd l i ≤ 255 := by
 unfold rd
 rw [List.getD_eq_getElem?_getD]
 by_cases hi : i.toNat < l.length
 rotate_left
 ·rw [List.getElem?_eq_none (by omega)]; simp
 rw [List.getElem?_eq_getElem hi]; exact h _ (List.getElem_mem hi)
theorem Ev.lit {α : Type} {g : Nat → Option α} {r : α} (K : Nat) (h : ∀ m, g (m + K) = some r) : Ev g r := ⟨K, fun k hk => by obtain ⟨m, rfl⟩ := Nat.exists_eq_add_of_le' hk; exact h m⟩
theorem rd_at {l : List Int} {j : Nat} (h : j < l.length) : rd l (j : Int) = l[j] := by
 simp [rd, List.getD_eq_getElem?_getD, List.getElem?_eq_getElem h]

/-! laws_eqIntS -/
theorem laws_eqIntS.l0.ev {x0 : List Int} {x1 : List Int} {x5 : Int} {r : Bool} (h : Ev (fun k => if x5 < (x0.length : Int) then (if 0 ≤ x5 then (if x5 < (x1.length : Int) then (if (rd x0 x5) = (rd x1 x5) then (laws_eqIntS.l0 k x0 x1 (wrap64 (x5 + 1))) else (some false)) else (none)) else (none)) else (some true)) r) : Ev (fun k => laws_eqIntS.l0 k x0 x1 x5) r := Ev.step (fun _ => rfl) h
theorem laws_eqIntS_l0 {a b : List Int} (hl : a.length ≤ 4611686018427387904) (he : a.length = b.length) : ∀ i : Int, i ≤ a.length → 0 ≤ i → a.take i.toNat = b.take i.toNat → Ev (fun k => laws_eqIntS.l0 k a b i) (decide (a = b)) := by
 refine Hd.down ?_
 intro i hi ih h0 ht
 refine laws_eqIntS.l0.ev ?_
 by_cases hlt : i < a.length
 rotate_left
 ·refine Ev.neg hlt (Ev.ret ?_)
  rw [show i.toNat = a.length from by omega] at ht
  rw [List.take_length, he, List.take_length] at ht
  simp [ht]
 rw [wid (x := i + 1) (by omega) (by omega)]
 refine Ev.pos hlt (Ev.pos h0 (Ev.pos (by omega) ?_))
 obtain ⟨j, rfl⟩ := Int.eq_ofNat_of_zero_le h0
 have hj : j < a.length := by omega
 have hj2 : j < b.length := by omega
 simp only [Int.toNat_natCast] at *
 have ga : rd a j = a[j] := by simp [rd, List.getD_eq_getElem?_getD, List.getElem?_eq_getElem hj]
 have gb : rd b j = b[j] := by simp [rd, List.getD_eq_getElem?_getD, List.getElem?_eq_getElem hj2]
 by_cases e : rd a j = rd b j
 rotate_left
 ·refine Ev.neg e (Ev.ret ?_)
  have : a ≠ b := fun h => e (by rw [h])
  simp [this]
 refine Ev.pos e (ih hlt (by omega) ?_)
 rw [show ((j : Int) + 1).toNat = j + 1 from by omega, List.take_succ_eq_append_getElem hj, List.take_succ_eq_append_getElem hj2, ht, ← ga, ← gb, e]
theorem laws_eqIntS_ev {a b : List Int} (hl : a.length ≤ 1048576) : Ev (fun k => laws_eqIntS.f k a b) (decide (a = b)) := by
 unfold laws_eqIntS.f
 by_cases e : a.length = b.length
 rotate_left
 ·refine Ev.neg (by omega) (Ev.ret ?_)
  have : a ≠ b := fun h => e (by rw [h])
  simp [this]
 refine Ev.pos (by omega) ?_
 exact laws_eqIntS_l0 (by omega) e 0 (by omega) (by omega) (by simp)

/-! laws_markIntS -/
theorem laws_markIntS.l0.ev {x0 : List Int} {x1 : Int} {x5 : Int} {r : Int × List Int} (h : Ev (fun k => if x5 < (x0.length : Int) then (if 0 ≤ x5 then (laws_markIntS.l0 k (x0.set (x5 : Int).toNat x1) (wrap64 (x1 + 1)) (wrap64 (x5 + 1))) else (none)) else (some (x1, x0))) r) : Ev (fun k => laws_markIntS.l0 k x0 x1 x5) r := Ev.step (fun _ => rfl) h
theorem laws_markIntS_l0 {l : List Int} (hl : l.length ≤ 1048600) {c : Int} (hc : 0 ≤ c) (hc2 : c ≤ 1000000000000) : ∀ i : Int, i ≤ l.length → 0 ≤ i → Ev (fun k => laws_markIntS.l0 k (Hd.tab (fun a => c + a - 1) i.toNat ++ l.drop i.toNat) (c + i) i) (c + l.length, Hd.tab (fun a => c + a - 1) l.length) := by
 refine Hd.down ?_
 intro i hi ih h0
 refine laws_markIntS.l0.ev ?_
 have hlen : (Hd.tab (fun a => c + a - 1) i.toNat ++ l.drop i.toNat).length = l.length := by rw [List.length_append, Hd.tab_length, List.length_drop]; omega
 rw [hlen]
 by_cases hlt : i < l.length
 rotate_left
 ·refine Ev.neg hlt (Ev.ret ?_)
  rw [show i.toNat = l.length from by omega, List.drop_length, List.append_nil, show i = (l.length : Int) from by omega]
 rw [wid (x := c + i + 1) (by omega) (by omega), wid (x := i + 1) (by omega) (by omega)]
 refine Ev.pos hlt (Ev.pos h0 ?_)
 have next := ih hlt (by omega)
 obtain ⟨j, rfl⟩ := Int.eq_ofNat_of_zero_le h0
 rw [show ((j : Int) + 1).toNat = j + 1 from by omega, show c + ((j : Int) + 1) = c + j + 1 from by omega] at next
 simp only [Int.toNat_natCast] at *
 have e : (Hd.tab (fun a => c + a - 1) j ++ l.drop j).set j (c + (j : Int)) = Hd.tab (fun a => c + a - 1) (j + 1) ++ l.drop (j + 1) := by
  rw [List.set_append, if_neg (by rw [Hd.tab_length]; omega), Hd.tab_length, Nat.sub_self, List.drop_eq_getElem_cons (show j < l.length by omega), List.set_cons_zero]
  simp only [Hd.tab, List.append_assoc, List.singleton_append]
  congr 2; omega
 rw [e]; exact next
theorem laws_markIntS_ev {l : List Int} (hl : l.length ≤ 1048600) {c : Int} (hc : 0 ≤ c) (hc2 : c ≤ 1000000000000) : Ev (fun k => laws_markIntS.f k l c) (c + l.length, Hd.tab (fun a => c + a - 1) l.length) := by
 have := laws_markIntS_l0 hl hc hc2 0 (by omega) (by omega)
 simp only [Int.toNat_zero, Hd.tab, List.drop_zero, List.nil_append, Int.add_zero] at this
 exact this

/-! laws_heldIntS -/
theorem laws_heldIntS.l0.ev {x0 : List Int} {x1 : Int} {x5 : Int} {r : Int} (h : Ev (fun k => if x5 < (x0.length : Int) then (if 0 ≤ x5 then (if (rd x0 x5) = x1 then (laws_heldIntS.l0 k x0 (wrap64 (x1 + 1)) (wrap64 (x5 + 1))) else (some (-1))) else (none)) else (some x1)) r) : Ev (fun k => laws_heldIntS.l0 k x0 x1 x5) r := Ev.step (fun _ => rfl) h
theorem laws_heldIntS_l0 {n : Nat} (hn : n ≤ 1048600) {c : Int} (hc : 0 ≤ c) (hc2 : c ≤ 1000000000000) : ∀ i : Int, i ≤ n → 0 ≤ i → Ev (fun k => laws_heldIntS.l0 k (Hd.tab (fun a => c + a - 1) n) (c + i) i) (c + n) := by
 refine Hd.down ?_
 intro i hi ih h0
 refine laws_heldIntS.l0.ev ?_
 rw [Hd.tab_length]
 by_cases hlt : i < n
 rotate_left
 ·refine Ev.neg hlt (Ev.ret ?_)
  omega
 rw [wid (x := c + i + 1) (by omega) (by omega), wid (x := i + 1) (by omega) (by omega)]
 have next := ih hlt (by omega)
 rw [show c + (i + 1) = c + i + 1 from by omega] at next
 refine Ev.pos hlt (Ev.pos h0 (Ev.pos ?_ next))
 unfold rd
 rw [Hd.tab_get _ _ (show i.toNat < n by omega)]; omega
theorem laws_heldIntS_ev {n : Nat} (hn : n ≤ 1048600) {c : Int} (hc : 0 ≤ c) (hc2 : c ≤ 1000000000000) : Ev (fun k => laws_heldIntS.f k (Hd.tab (fun a => c + a - 1) n) c) (c + n) := by
 have := laws_heldIntS_l0 hn hc hc2 0 (by omega) (by omega)
 simp only [Int.add_zero] at this
 exact this

/-! spec_l1In -/

theorem spec_l1In_eq (a b c : Int) : spec_l1In.f a b c = some (decide (b ≤ a ∧ a ≤ c)) := by
 unfold spec_l1In.f
 by_cases h : a ≥ b
 ·rw [if_pos h]; simp [h]
 rw [if_neg h]; simp; intro; omega

/-! spec_l7Step -/
theorem spec_l7Step.j0.ev {x0 : List Int} {x1 : List Int} {x2 : Int} {x3 : Int} {x11 : Int} {x15 : Bool} {r : List Int × Int × Bool × List Int} (h : Ev (fun k => if x15 = true then ((some (([] : List Int) : List Int)).bind fun y105 => (if y105.length + x1.length < 17592186044416 then ((some (y105 ++ x1 : List Int)).bind fun y108 => (if y108.length < 17592186044416 then (some ((y108 ++ [x2]), wrap64 (x2 + 1), true, x0)) else (none))) else (none))) else (if x3 = 76 then (if x2 ≤ (x0.length : Int) then (if x11 ≥ 0 then (if 0 ≤ x11 then (if x11 < (x1.length : Int) then (if 0 ≤ (wrap64 ((rd x1 x11) - 1)) then (if (wrap64 ((rd x1 x11) - 1)) < (x0.length : Int) then (spec_l7Step.j1 k x0 x1 x2 x3 x11 (decide ((rd x0 (wrap64 ((rd x1 x11) - 1))) < 0))) else (none)) else (none)) else (none)) else (none)) else (spec_l7Step.j1 k x0 x1 x2 x3 x11 false)) else (spec_l7Step.j1 k x0 x1 x2 x3 x11 false)) else (spec_l7Step.j1 k x0 x1 x2 x3 x11 false))) r) : Ev (fun k => spec_l7Step.j0 k x0 x1 x2 x3 x11 x15) r := Ev.step (fun _ => rfl) h
theorem spec_l7Step.j1.ev {x0 : List Int} {x1 : List Int} {x2 : Int} {x3 : Int} {x11 : Int} {x32 : Bool} {r : List Int × Int × Bool × List Int} (h : Ev (fun k => if x32 = true then (if 0 ≤ x11 then (if x11 < (x1.length : Int) then (if 0 ≤ (wrap64 ((rd x1 x11) - 1)) then (if (wrap64 ((rd x1 x11) - 1)) < (x0.length : Int) then ((some (([] : List Int) : List Int)).bind fun y118 => (if x11 ≤ (x1.length : Int) then ((some (x1.take (x11 : Int).toNat : List Int)).bind fun y121 => (if y118.length + y121.length < 17592186044416 then (some ((y118 ++ y121), x2, true, (x0.set ((wrap64 ((rd x1 x11) - 1)) : Int).toNat x2))) else (none))) else (none))) else (none)) else (none)) else (none)) else (none)) else (if x3 = 82 then (if x2 ≤ (x0.length : Int) then (spec_l7Step.j2 k x0 x1 x2 x3 x11 (decide (x11 ≥ 0))) else (spec_l7Step.j2 k x0 x1 x2 x3 x11 false)) else (spec_l7Step.j2 k x0 x1 x2 x3 x11 false))) r) : Ev (fun k => spec_l7Step.j1 k x0 x1 x2 x3 x11 x32) r := Ev.step (fun _ => rfl) h
theorem spec_l7Step.j2.ev {x0 : List Int} {x1 : List Int} {x2 : Int} {x3 : Int} {x11 : Int} {x70 : Bool} {r : List Int × Int × Bool × List Int} (h : Ev (fun k => if x70 = true then (if 0 ≤ x11 then (if x11 < (x1.length : Int) then (if 0 ≤ (wrap64 (x2 - 1)) then (if (wrap64 (x2 - 1)) < (x0.length : Int) then ((some (([] : List Int) : List Int)).bind fun y130 => (if y130.length + x1.length < 17592186044416 then ((some (y130 ++ x1 : List Int)).bind fun y133 => (if y133.length < 17592186044416 then (some ((y133 ++ [x2]), wrap64 (x2 + 1), true, (x0.set ((wrap64 (x2 - 1)) : Int).toNat (rd x1 x11)))) else (none))) else (none))) else (none)) else (none)) else (none)) else (none)) else (if x3 = 68 then (if x11 ≥ 0 then (if 0 ≤ x11 then (if x11 < (x1.length : Int) then (if 0 ≤ (wrap64 ((rd x1 x11) - 1)) then (if (wrap64 ((rd x1 x11) - 1)) < (x0.length : Int) then (if (rd x0 (wrap64 ((rd x1 x11) - 1))) > 0 then ((some (([] : List Int) : List Int)).bind fun y141 => (if x11 ≤ (x1.length : Int) then ((some (x1.take (x11 : Int).toNat : List Int)).bind fun y144 => (if y141.length + y144.length < 17592186044416 then (some ((y141 ++ y144), x2, true, x0)) else (none))) else (none))) else (some (x1, x2, false, x0))) else (none)) else (none)) else (none)) else (none)) else (some (x1, x2, false, x0))) else (some (x1, x2, false, x0)))) r) : Ev (fun k => spec_l7Step.j2 k x0 x1 x2 x3 x11 x70) r := Ev.step (fun _ => rfl) h
/-- The heads as the reference tells them: -1 for none. -/
def told7 (hs : List Int) : List Int := hs.map fun x => if x = 0 then -1 else x
theorem told7_len (hs : List Int) : (told7 hs).length = hs.length := List.length_map _
theorem told7_rd {hs : List Int} {i : Int} (h0 : 0 ≤ i) (h : i < hs.length) : rd (told7 hs) i = if hs.getD i.toNat 0 = 0 then -1 else hs.getD i.toNat 0 := by
 have e : i.toNat < hs.length := by omega
 simp [rd, told7, List.getD_eq_getElem?_getD, List.getElem?_map, List.getElem?_eq_getElem e]
theorem told7_set {hs : List Int} {j : Nat} {v : Int} (hv : v ≠ 0) : (told7 hs).set j v = told7 (hs.set j v) := by
 rw [told7, told7, List.map_set, if_neg hv]
def l7end (s : Hd.St) : Option Hd.St → List Int × Int × Bool × List Int
 | some t => (t.ws, t.nx + 1, true, told7 t.hs)
 | none => (s.ws, s.nx + 1, false, told7 s.hs)
theorem top_rd7 {s : Hd.St} : rd s.ws ((s.ws.length : Int) - 1) = Hd.topW s := by rw [rd, Hd.topW, show ((s.ws.length : Int) - 1).toNat = s.ws.length - 1 by omega]
def Pos7 (s : Hd.St) : Prop := ∀ x, x ∈ s.hs → 0 ≤ x
theorem pos7_set {hs : List Int} {j : Nat} {v : Int} (h : ∀ x, x ∈ hs → 0 ≤ x) (hv : 0 ≤ v) : ∀ x, x ∈ hs.set j v → 0 ≤ x := fun x hx => by
 rcases List.mem_or_eq_of_mem_set hx with hx | rfl
 ·exact h x hx
 ·exact hv
theorem Pos7.eag {n : Nat} {s s' : Hd.St} {m : Int} (o : s.OK n) (p : Pos7 s) (h : Hd.eagS m s = some s') : Pos7 s' := by
 rcases Hd.eagS_cases o h with ⟨_, e⟩ | ⟨w, _, _, _, rfl⟩ | ⟨w, _, _, e⟩ | ⟨_, _, _, rfl⟩
 ·obtain ⟨_, rfl⟩ := Hd.pushS_eq e; exact p
 ·exact pos7_set p (by have := o.nx0; omega)
 ·obtain ⟨_, rfl⟩ := Hd.pushS_eq e; exact pos7_set p (by have := o.top w; omega)
 ·exact p
theorem spec_l7Step_ev {n : Nat} {s : Hd.St} (o : s.OK n) (p : Pos7 s) (m : Int) : Ev (fun k => spec_l7Step.f k (told7 s.hs) s.ws (s.nx + 1) m) (l7end s (Hd.eagS m s)) := by
 have hl := o.len; have h8 := o.n8; have hn0 := o.nx0; have hn1 := o.nx1; have hw := o.wl
 have tl := told7_len s.hs
 unfold spec_l7Step.f
 rw [wid (x := (s.ws.length : Int) - 1) (by omega) (by omega)]
 by_cases c : m = 83
 ·subst c
  refine Ev.pos rfl (spec_l7Step.j0.ev ?_)
  by_cases hn : s.nx + 1 ≤ n
  rotate_left
  ·have e : Hd.eagS 83 s = none := by rw [Hd.eagS, if_pos rfl, Hd.pushS, if_pos (by omega)]
   rw [e]
   exact Ev.neg (by simp; omega) (Ev.neg (by omega) (spec_l7Step.j1.ev (Ev.neg (by simp) (Ev.neg (by omega) (spec_l7Step.j2.ev (Ev.neg (by simp) (Ev.neg (by omega) (Ev.now _))))))))
  have e : Hd.eagS 83 s = some ⟨s.ws ++ [s.nx + 1], s.nx + 1, s.hs, if s.dp ≤ (s.ws.length : Int) + 1 then (s.ws.length : Int) + 1 else s.dp⟩ := by rw [Hd.eagS, if_pos rfl, Hd.pushS, if_neg (by omega)]
  rw [e, wid (x := s.nx + 1 + 1) (by omega) (by omega)]
  refine Ev.pos (by simp; omega) (Ev.bindv rfl (Ev.pos (by simp; omega) (Ev.bindv rfl (Ev.pos (by simp; omega) (Ev.ret ?_)))))
  simp [l7end]
 refine Ev.neg c (spec_l7Step.j0.ev (Ev.neg (by simp) ?_))
 by_cases c1 : m = 76
 ·subst c1
  have fin : Hd.eagS 76 s = none → Ev (fun k => spec_l7Step.j1 k (told7 s.hs) s.ws (s.nx + 1) 76 ((s.ws.length : Int) - 1) false) (l7end s (Hd.eagS 76 s)) := fun e => by
   rw [e]
   exact spec_l7Step.j1.ev (Ev.neg (by simp) (Ev.neg (by omega) (spec_l7Step.j2.ev (Ev.neg (by simp) (Ev.neg (by omega) (Ev.now _))))))
  refine Ev.pos rfl ?_
  by_cases hn : s.nx + 1 ≤ n
  rotate_left
  ·refine Ev.neg (by omega) ?_
   exact fin (by rw [Hd.eagS, if_neg (by omega)]; split <;> first | rfl | rw [if_neg (by omega), if_neg (by omega), if_neg (by omega)])
  refine Ev.pos (by omega) ?_
  by_cases ht : 1 ≤ s.ws.length
  rotate_left
  ·refine Ev.neg (by omega) ?_
   exact fin (by rw [Hd.eagS, if_neg (by omega), if_pos (by omega)])
  have ot := o.top ht
  rw [top_rd7, wid (x := Hd.topW s - 1) (by omega) (by omega)]
  refine Ev.pos (by omega) (Ev.pos (by omega) (Ev.pos (by omega) (Ev.pos (by omega) (Ev.pos (by omega) ?_))))
  rw [told7_rd (by omega) (by omega)]
  by_cases hz : s.hs.getD (Hd.topW s - 1).toNat 0 = 0
  rotate_left
  ·have hp : 0 ≤ s.hs.getD (Hd.topW s - 1).toNat 0 := p _ (Hd.mem_getD (by omega))
   rw [if_neg hz, decide_eq_false (by omega)]
   exact fin (by rw [Hd.eagS, if_neg (by omega), if_neg (by omega), if_neg (fun h => hz h.2.2), if_neg (by omega), if_neg (by omega)])
  have e : Hd.eagS 76 s = some (Hd.popS s (s.hs.set (Hd.topW s - 1).toNat (s.nx + 1))) := by
   rw [Hd.eagS, if_neg (by omega), if_neg (by omega), if_pos ⟨rfl, by omega, hz⟩]
  rw [e, if_pos hz]
  refine spec_l7Step.j1.ev ?_
  rw [top_rd7, wid (x := Hd.topW s - 1) (by omega) (by omega)]
  refine Ev.pos (by simp) (Ev.pos (by omega) (Ev.pos (by omega) (Ev.pos (by omega) (Ev.pos (by omega) (Ev.bindv rfl (Ev.pos (by omega) (Ev.bindv rfl (Ev.pos (by simp; omega) (Ev.ret ?_)))))))))
  rw [l7end, Hd.popS, told7_set (by omega), List.nil_append, show ((s.ws.length : Int) - 1).toNat = s.ws.length - 1 by omega]
 refine Ev.neg c1 (spec_l7Step.j1.ev (Ev.neg (by simp) ?_))
 by_cases c2 : m = 82
 ·subst c2
  have fin : Hd.eagS 82 s = none → Ev (fun k => spec_l7Step.j2 k (told7 s.hs) s.ws (s.nx + 1) 82 ((s.ws.length : Int) - 1) false) (l7end s (Hd.eagS 82 s)) := fun e => by
   rw [e]
   exact spec_l7Step.j2.ev (Ev.neg (by simp) (Ev.neg (by omega) (Ev.now _)))
  refine Ev.pos rfl ?_
  by_cases hn : s.nx + 1 ≤ n
  rotate_left
  ·refine Ev.neg (by omega) ?_
   exact fin (by rw [Hd.eagS, if_neg (by omega)]; split <;> first | rfl | rw [if_neg (by omega), if_neg (by omega), if_neg (by omega)])
  refine Ev.pos (by omega) ?_
  by_cases ht : 1 ≤ s.ws.length
  rotate_left
  ·rw [decide_eq_false (by omega)]
   exact fin (by rw [Hd.eagS, if_neg (by omega), if_pos (by omega)])
  have ot := o.top ht
  have e : Hd.eagS 82 s = some ⟨s.ws ++ [s.nx + 1], s.nx + 1, s.hs.set s.nx.toNat (Hd.topW s), if s.dp ≤ (s.ws.length : Int) + 1 then (s.ws.length : Int) + 1 else s.dp⟩ := by
   rw [Hd.eagS, if_neg (by omega), if_neg (by omega), if_neg (by omega), if_pos ⟨rfl, by omega⟩, Hd.pushS, if_neg (by simp only [List.length_set]; omega)]
  rw [e, decide_eq_true (by omega)]
  refine spec_l7Step.j2.ev ?_
  rw [top_rd7, wid (x := s.nx + 1 - 1) (by omega) (by omega), wid (x := s.nx + 1 + 1) (by omega) (by omega)]
  refine Ev.pos rfl (Ev.pos (by omega) (Ev.pos (by omega) (Ev.pos (by omega) (Ev.pos (by omega) (Ev.bindv rfl (Ev.pos (by simp; omega) (Ev.bindv rfl (Ev.pos (by simp; omega) (Ev.ret ?_)))))))))
  rw [l7end, told7_set (by omega), List.nil_append, show s.nx + 1 - 1 = s.nx by omega]
 refine Ev.neg c2 (spec_l7Step.j2.ev (Ev.neg (by simp) ?_))
 by_cases c3 : m = 68
 rotate_left
 ·refine Ev.neg c3 ?_
  rw [show Hd.eagS m s = none by rw [Hd.eagS, if_neg c]; split <;> first | rfl | rw [if_neg (fun h => c1 h.1), if_neg (fun h => c2 h.1), if_neg (fun h => c3 h.1)]]
  exact Ev.now _
 subst c3
 refine Ev.pos rfl ?_
 by_cases ht : 1 ≤ s.ws.length
 rotate_left
 ·refine Ev.neg (by omega) ?_
  rw [show Hd.eagS 68 s = none by rw [Hd.eagS, if_neg (by omega), if_pos (by omega)]]
  exact Ev.now _
 have ot := o.top ht
 rw [top_rd7, wid (x := Hd.topW s - 1) (by omega) (by omega)]
 refine Ev.pos (by omega) (Ev.pos (by omega) (Ev.pos (by omega) (Ev.pos (by omega) (Ev.pos (by omega) ?_))))
 rw [told7_rd (by omega) (by omega)]
 by_cases hz : s.hs.getD (Hd.topW s - 1).toNat 0 = 0
 ·rw [if_pos hz, show Hd.eagS 68 s = none by rw [Hd.eagS, if_neg (by omega), if_neg (by omega), if_neg (by omega), if_neg (by omega), if_neg (fun h => h.2 hz)]]
  exact Ev.neg (by omega) (Ev.now _)
 have hp : 0 ≤ s.hs.getD (Hd.topW s - 1).toNat 0 := p _ (Hd.mem_getD (by omega))
 rw [if_neg hz, show Hd.eagS 68 s = some (Hd.popS s s.hs) by rw [Hd.eagS, if_neg (by omega), if_neg (by omega), if_neg (by omega), if_neg (by omega), if_pos ⟨rfl, hz⟩]]
 refine Ev.pos (by omega) (Ev.bindv rfl (Ev.pos (by omega) (Ev.bindv rfl (Ev.pos (by simp; omega) (Ev.ret ?_)))))
 rw [l7end, Hd.popS, List.nil_append, show ((s.ws.length : Int) - 1).toNat = s.ws.length - 1 by omega]

/-! spec_RunEager -/
theorem spec_RunEager.l0.ev {x0 : Int} {x1 : ByteArray} {x6 : List Int} {x7 : Int} {r : List Int × Bool} (h : Ev (fun k => if x7 < x0 then (if x6.length < 17592186044416 then (spec_RunEager.l0 k x0 x1 (x6 ++ [(-1)]) (wrap64 (x7 + 1))) else (none)) else (spec_RunEager.l1 k x0 x1 x6 (([] : List Int)) 1 0)) r) : Ev (fun k => spec_RunEager.l0 k x0 x1 x6 x7) r := Ev.step (fun _ => rfl) h
theorem spec_RunEager.l1.ev {x0 : Int} {x1 : ByteArray} {x6 : List Int} {x8 : List Int} {x9 : Int} {x10 : Int} {r : List Int × Bool} (h : Ev (fun k => if x10 < (x1.size : Int) then (if 0 ≤ x10 then ((spec_l7Step.f k x6 x8 x9 (bt x1 x10)).bind fun bt164 => (if bt164.2.2.1 = true then (spec_RunEager.l1 k x0 x1 bt164.2.2.2 bt164.1 bt164.2.1 (wrap64 (x10 + 1))) else (some ((([] : List Int)), false)))) else (none)) else (spec_RunEager.l2 k x0 x6 x9 0 0)) r) : Ev (fun k => spec_RunEager.l1 k x0 x1 x6 x8 x9 x10) r := Ev.step (fun _ => rfl) h
theorem spec_RunEager.l2.ev {x0 : Int} {x6 : List Int} {x9 : Int} {x14 : Int} {x15 : Int} {r : List Int × Bool} (h : Ev (fun k => if x15 < x0 then (if 0 ≤ x15 then (if x15 < (x6.length : Int) then (if (rd x6 x15) < 0 then (spec_RunEager.l2 k x0 (x6.set (x15 : Int).toNat 0) x9 (wrap64 (x14 + 1)) (wrap64 (x15 + 1))) else (spec_RunEager.l2 k x0 x6 x9 x14 (wrap64 (x15 + 1)))) else (none)) else (none)) else (if x14 = 1 then (if x9 ≤ x0 then (some ((([] : List Int)), false)) else (some (x6, true))) else (some ((([] : List Int)), false)))) r) : Ev (fun k => spec_RunEager.l2 k x0 x6 x9 x14 x15) r := Ev.step (fun _ => rfl) h
def e7end (n : Nat) (s : Hd.St) : List Int × Bool := if s.nx < n ∨ Hd.zerosC s.hs s.hs.length ≠ 1 then ([], false) else (s.hs, true)
/-- The heads, of which the first q are told as the program tells them. -/
def mix7 (hs : List Int) (q : Nat) : List Int := hs.take q ++ told7 (hs.drop q)
theorem mix7_len (hs : List Int) (q : Nat) : (mix7 hs q).length = hs.length := by simp [mix7, told7]; omega
theorem mix7_at {hs : List Int} {q : Nat} (h : q < hs.length) : mix7 hs q = hs.take q ++ (if hs[q] = 0 then -1 else hs[q]) :: told7 (hs.drop (q + 1)) := by
 rw [mix7, List.drop_eq_getElem_cons h, told7, List.map_cons]; rfl
theorem mix7_rd {hs : List Int} {q : Nat} (h : q < hs.length) : rd (mix7 hs q) (q : Int) = if hs.getD q 0 = 0 then -1 else hs.getD q 0 := by
 rw [mix7_at h, rd, Int.toNat_natCast, List.getD_eq_getElem?_getD, List.getElem?_append_right (by simp; omega)]
 simp [List.getD_eq_getElem?_getD, List.getElem?_eq_getElem h, Nat.min_eq_left (Nat.le_of_lt h)]
theorem mix7_next {hs : List Int} {q : Nat} (h : q < hs.length) : mix7 hs (q + 1) = if hs.getD q 0 = 0 then (mix7 hs q).set q 0 else mix7 hs q := by
 have e : hs.getD q 0 = hs[q] := by rw [List.getD_eq_getElem?_getD, List.getElem?_eq_getElem h]; rfl
 rw [e, mix7_at h, mix7, List.take_succ_eq_append_getElem h, List.append_assoc]
 by_cases c : hs[q] = 0
 rotate_left
 ·rw [if_neg c, if_neg c]; rfl
 rw [if_pos c, List.set_append_right _ _ (by rw [List.length_take]; omega), List.length_take, Nat.min_eq_left (Nat.le_of_lt h), Nat.sub_self, c]
 rfl
theorem mix7_zero (hs : List Int) : mix7 hs 0 = told7 hs := by simp [mix7]
theorem mix7_full (hs : List Int) : mix7 hs hs.length = hs := by simp [mix7, told7]
theorem spec_RunEager_l2 {n : Nat} {s : Hd.St} (o : s.OK n) (p : Pos7 s) : ∀ i : Int, i ≤ (n : Int) → 0 ≤ i → Ev (fun k => spec_RunEager.l2 k n (mix7 s.hs i.toNat) (s.nx + 1) (Hd.zerosC s.hs i.toNat) i) (e7end n s) := by
 refine Hd.down ?_
 intro i hi ih h0
 obtain ⟨q, rfl⟩ := Int.eq_ofNat_of_zero_le h0
 have hl := o.len; have h8 := o.n8; have hn0 := o.nx0; have hn1 := o.nx1
 have hz := Hd.zerosC_bd s.hs q
 have ml := mix7_len s.hs q
 refine spec_RunEager.l2.ev ?_
 rw [Int.toNat_natCast]
 by_cases hlt : (q : Int) < n
 rotate_left
 ·obtain rfl : q = n := by omega
  refine Ev.neg hlt ?_
  unfold e7end
  rw [← hl, mix7_full]
  by_cases c : s.nx < s.hs.length ∨ Hd.zerosC s.hs s.hs.length ≠ 1
  rotate_left
  ·rw [if_neg c]
   exact Ev.pos (by omega) (Ev.neg (by omega) (Ev.now _))
  rw [if_pos c]
  by_cases c1 : Hd.zerosC s.hs s.hs.length = 1
  rotate_left
  ·exact Ev.neg c1 (Ev.now _)
  exact Ev.pos c1 (Ev.pos (by omega) (Ev.now _))
 have next := ih hlt (by omega)
 rw [show ((q : Int) + 1).toNat = q + 1 from by omega, mix7_next (by omega), show Hd.zerosC s.hs (q + 1) = Hd.zerosC s.hs q + if s.hs.getD q 0 = 0 then 1 else 0 from rfl] at next
 rw [wid (x := (q : Int) + 1) (by omega) (by omega), wid (x := Hd.zerosC s.hs q + 1) (by omega) (by omega), mix7_rd (by omega)]
 refine Ev.pos hlt (Ev.pos h0 (Ev.pos (by omega) ?_))
 by_cases c : s.hs.getD q 0 = 0
 ·rw [if_pos c, if_pos c] at next; rw [if_pos c]
  refine Ev.pos (by omega) ?_
  simpa using next
 have hp : 0 ≤ s.hs.getD q 0 := p _ (Hd.mem_getD (by omega))
 rw [if_neg c, if_neg c] at next; rw [if_neg c]
 refine Ev.neg (by omega) ?_
 simpa using next
def e7run (n : Nat) : Option Hd.St → List Int × Bool
 | none => ([], false)
 | some s => e7end n s
theorem bts_drop7 (a1 : ByteArray) (i : Int) (h0 : 0 ≤ i) (h : i < (a1.size : Int)) : (bytesOf a1).drop i.toNat = bt a1 i :: (bytesOf a1).drop (i + 1).toNat := by
 have hl : i.toNat < (bytesOf a1).length := by rw [bytesOf_length]; omega
 rw [List.drop_eq_getElem_cons hl, show (i + 1).toNat = i.toNat + 1 by omega]
 have e : (bytesOf a1)[i.toNat] = rd (bytesOf a1) i := by rw [rd, List.getD_eq_getElem?_getD, List.getElem?_eq_getElem hl]; rfl
 rw [e, rd_bytesOf]
theorem spec_RunEager_l1 {n : Nat} {a1 : ByteArray} (hs : a1.size ≤ 140737488351232) : ∀ i : Int, i ≤ (a1.size : Int) → 0 ≤ i → ∀ s : Hd.St, s.OK n → Pos7 s → Ev (fun k => spec_RunEager.l1 k n a1 (told7 s.hs) s.ws (s.nx + 1) i) (e7run n (Hd.runE ((bytesOf a1).drop i.toNat) s)) := by
 refine Hd.down ?_
 intro i hi ih h0 s o p
 refine spec_RunEager.l1.ev ?_
 by_cases hlt : i < (a1.size : Int)
 rotate_left
 ·have e : (bytesOf a1).drop i.toNat = [] := List.drop_eq_nil_of_le (by rw [bytesOf_length]; omega)
  rw [e]
  refine Ev.neg hlt ?_
  have L := spec_RunEager_l2 o p 0 (by omega) (by omega)
  rw [Int.toNat_zero, mix7_zero] at L
  exact L
 refine Ev.pos hlt (Ev.pos h0 (Ev.bind (spec_l7Step_ev o p _) ?_))
 rw [bts_drop7 a1 i h0 hlt, wid (x := i + 1) (by omega) (by omega)]
 simp only [Hd.runE]
 cases hm : Hd.eagS (bt a1 i) s with
 | none => exact Ev.neg (by simp [l7end]) (Ev.now _)
 | some s' => exact Ev.pos rfl (ih hlt (by omega) s' (o.eag hm) (p.eag o hm))
theorem spec_RunEager_l0 {n : Nat} (h8 : n ≤ 8) {a1 : ByteArray} {r : List Int × Bool} (L : Ev (fun k => spec_RunEager.l1 k n a1 (List.replicate n (-1)) [] 1 0) r) : ∀ i : Int, i ≤ (n : Int) → 0 ≤ i → Ev (fun k => spec_RunEager.l0 k n a1 (List.replicate i.toNat (-1)) i) r := by
 refine Hd.down ?_
 intro i hi ih h0
 obtain ⟨q, rfl⟩ := Int.eq_ofNat_of_zero_le h0
 refine spec_RunEager.l0.ev ?_
 rw [Int.toNat_natCast]
 by_cases hlt : (q : Int) < n
 rotate_left
 ·obtain rfl : q = n := by omega
  exact Ev.neg hlt L
 have next := ih hlt (by omega)
 rw [show ((q : Int) + 1).toNat = q + 1 from by omega, List.replicate_succ'] at next
 rw [wid (x := (q : Int) + 1) (by omega) (by omega)]
 exact Ev.pos hlt (Ev.pos (by simp; omega) next)
theorem spec_RunEager_ev (a0 : Int) {a1 : ByteArray} (hs : a1.size ≤ 140737488351232) : Ev (fun k => spec_RunEager.f k a0 a1) (Mach.runEF a0 a1) := by
 unfold spec_RunEager.f Mach.runEF Hd.ranE
 by_cases h : a0 < 1 ∨ 8 < a0
 ·rw [if_pos h]
  refine Ev.bindv (spec_l1In_eq _ _ _) (Ev.neg (by simp; omega) (Ev.now _))
 rw [if_neg h]
 obtain ⟨n, rfl⟩ : ∃ n : Nat, a0 = n := ⟨a0.toNat, by omega⟩
 refine Ev.bindv (spec_l1In_eq _ _ _) (Ev.pos (by simp; omega) ?_)
 rw [Int.toNat_natCast]
 have L1 := spec_RunEager_l1 (n := n) hs 0 (by omega) (by omega) (Hd.St.start n) (Hd.St.OK.start (by omega)) (fun x hx => by simp [Hd.St.start] at hx; omega)
 have e1 : told7 (Hd.St.start n).hs = List.replicate n (-1) := by simp [told7, Hd.St.start]
 rw [e1] at L1
 have L0 := spec_RunEager_l0 (by omega) L1 0 (by omega) (by omega)
 have e2 : e7run n (Hd.runE ((bytesOf a1).drop (0 : Int).toNat) (Hd.St.start n)) = (match (Hd.runE (bytesOf a1) (Hd.St.start n)).bind fun s => if s.nx < (n : Int) ∨ Hd.zerosC s.hs s.hs.length ≠ 1 then none else some s with | none => ([], false) | some s => (s.hs, true)) := by
  rw [Int.toNat_zero, List.drop_zero]
  cases Hd.runE (bytesOf a1) (Hd.St.start n) with
  | none => rfl
  | some s =>
   simp only [e7run, e7end, Option.bind_some]
   split <;> rfl
 rw [e2] at L0
 exact L0

/-! impl_RunEager -/

theorem runEF_len (a0 : Int) (a1 : ByteArray) : (Mach.runEF a0 a1).1.length ≤ 8 := by
 unfold Mach.runEF Hd.ranE
 by_cases h : a0 < 1 ∨ 8 < a0
 ·rw [if_pos h]; simp
 rw [if_neg h]
 cases e : Hd.runE (bytesOf a1) (Hd.St.start a0.toNat) with
 | none => simp
 | some s =>
  have o := (Hd.St.OK.start (n := a0.toNat) (by omega)).runE e
  have := o.len; have := o.n8
  simp only [Option.bind_some]
  by_cases c : s.nx < a0 ∨ Hd.zerosC s.hs s.hs.length ≠ 1
  ·rw [if_pos c]; simp
  rw [if_neg c]; simp only; omega
theorem impl_RunEager_eq (a0 : Int) {a1 : ByteArray} (hs : a1.size ≤ 140737488351232) : impl_RunEager.f a0 a1 = some (Mach.runEF a0 a1) := if_pos hs

theorem laws_FnExactRunEager.j0.ev {x0 : Int} {x1 : ByteArray} {x5 : List Int} {x6 : Bool} {x7 : List Int} {x36 : Bool} {r : Bool} (h : Ev (fun k => if x36 = true then (some false) else ((laws_markIntS.f k x7 1).bind fun bt193 => ((laws_heldIntS.f k bt193.2 1).bind fun t195 => (if t195 < 0 then (some false) else (if t195 = bt193.1 then ((impl_RunEager.f x0 x1).bind fun bt196 => ((laws_eqIntS.f k bt196.1 x5).bind fun t200 => (if t200 = true then (laws_FnExactRunEager.j1 k bt193.2 bt193.1 (bt196.2 != x6)) else (laws_FnExactRunEager.j1 k bt193.2 bt193.1 true)))) else (some false)))))) r) : Ev (fun k => laws_FnExactRunEager.j0 k x0 x1 x5 x6 x7 x36) r := Ev.step (fun _ => rfl) h
theorem laws_FnExactRunEager.j1.ev {x7 : List Int} {x9 : Int} {x62 : Bool} {r : Bool} (h : Ev (fun k => if x62 = true then (some false) else ((laws_heldIntS.f k x7 1).bind fun t201 => (if t201 < 0 then (some false) else (if t201 = x9 then (some true) else (some false))))) r) : Ev (fun k => laws_FnExactRunEager.j1 k x7 x9 x62) r := Ev.step (fun _ => rfl) h
end Go.Proofs.Ytdckgafgidfplaa.QFnExactRunEager
