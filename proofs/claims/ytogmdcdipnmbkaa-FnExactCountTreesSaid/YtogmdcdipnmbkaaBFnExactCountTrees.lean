/- Contracts of the functions that the statement FnExactCountTrees reaches: what each printed function comes to. -/
import Derived.Test.YtogmdcdipnmbkaaPFnExactCountTreesx1
import Derived.Test.YtogmdcdipnmbkaaWSized
import Derived.Test.YtogmdcdipnmbkaaHd1
import Derived.Test.YtogmdcdipnmbkaaHd2
import Derived.Test.YtogmdcdipnmbkaaHd3
import Derived.Test.YtogmdcdipnmbkaaHd4
import Derived.Test.YtogmdcdipnmbkaaHd5
import Derived.Test.YtogmdcdipnmbkaaHd6
import Derived.Test.YtogmdcdipnmbkaaHd7
namespace Go.Proofs.Ytogmdcdipnmbkaa.PrintWords
/-- The name by which the printed row calls the word. -/
abbrev sized_ints := @Go.Proofs.YtogmdcdipnmbkaaW.PrintWords.sized_ints
end Go.Proofs.Ytogmdcdipnmbkaa.PrintWords
namespace Go.Proofs.Ytogmdcdipnmbkaa.PFnExactCountTrees
open Go.RowKit Go.Proofs.YtogmdcdipnmbkaaW.PrintWords Go.Proofs.YtogmdcdipnmbkaaW.PrintLast Go.Proofs.YtogmdcdipnmbkaaW.PrintMore
set_option linter.unusedVariables false
theorem wid {x : Int} (h : -9223372036854775808 ≤ x) (h' : x ≤ 9223372036854775807) : wrap64 x = x := by unfold wrap64; omega
theorem Ev.pos {α : Type} {c : Prop} [Decidable c] {A B : Nat → Option α} {r : α} (h : c) (e : Ev A r) : Ev (fun k => if c then A k else B k) r := by simpa only [if_pos h] using e
theorem Ev.neg {α : Type} {c : Prop} [Decidable c] {A B : Nat → Option α} {r : α} (h : ¬ c) (e : Ev B r) : Ev (fun k => if c then A k else B k) r := by simpa only [if_neg h] using e
theorem Ev.bindv {α β : Type} {o : Option α} {f : Nat → α → Option β} {a : α} {r : β} (h : o = some a) (k : Ev (fun n => f n a) r) : Ev (fun n => o.bind (f n)) r := by subst h; exact k
theorem Ev.ret {α : Type} {a r : α} (h : a = r) : Ev (fun _ => some a) r := h ▸ Ev.now a
theorem rd_hd {l : List Int} {a : Int} (h : 1 ≤ a) : rd l (a - 1) = Hd.hd l a := Hd.hd_get h
theorem rd_hd1 {l : List Int} {a : Int} (h : 0 ≤ a) : rd l a = Hd.hd l (a + 1) := by rw [← rd_hd (by omega)]; congr 1; omega
/-- The two arcs cross, each by two different words. -/
def CrsP (a b c d : Int) : Prop := 1 ≤ a ∧ 1 ≤ b ∧ 1 ≤ c ∧ 1 ≤ d ∧ a ≠ b ∧ c ≠ d ∧ Hd.Crs a b c d
open Classical in
noncomputable def crsB (a b c d : Int) : Bool := decide (CrsP a b c d)
theorem crsB_true {a b c d : Int} : crsB a b c d = true ↔ CrsP a b c d := by simp [crsB]
theorem crsB_no {a b c d : Int} (h : ¬ CrsP a b c d) : crsB a b c d = false := by simp [crsB, h]
theorem crsB_yes {a b c d : Int} (h : CrsP a b c d) : crsB a b c d = true := by simp [crsB, h]
theorem some_bool {a b : Bool} (h : a = true ↔ b = true) : some a = some b := congrArg some (Bool.eq_iff_iff.2 h)
theorem bool_eq {a b : Bool} (h : a = true ↔ b = true) : a = b := Bool.eq_iff_iff.2 h
/-- A word of a tree. -/
noncomputable def wordB (l : List Int) (a : Int) : Bool := Hd.treeB l && decide (1 ≤ a ∧ a ≤ (l.length : Int))
theorem wordB_true {l : List Int} {a : Int} : wordB l a = true ↔ Hd.T l ∧ 1 ≤ a ∧ a ≤ (l.length : Int) := by simp [wordB, Hd.treeB_true]
theorem mn_mx (a b : Int) : (mn a b = a ∧ mx a b = b ∧ a ≤ b) ∨ (mn a b = b ∧ mx a b = a ∧ b ≤ a) := by
  unfold mn mx
  split <;> split <;> omega

/-! spec_l1In -/

theorem spec_l1In_eq (a b c : Int) : spec_l1In.f a b c = some (decide (b ≤ a ∧ a ≤ c)) := by
  unfold spec_l1In.f
  by_cases h : a ≥ b
  · rw [if_pos h]; simp [h]
  · rw [if_neg h]; simp; intro; omega

/-! spec_l1Power -/
theorem spec_l1Power.l0.ev {x0 : Int} {x1 : Int} {x5 : Int} {x6 : Int} {r : Int} (h : Ev (fun k => if x6 < x1 then (spec_l1Power.l0 k x0 x1 (wrap64 (x5 * x0)) (wrap64 (x6 + 1))) else (some x5)) r) : Ev (fun k => spec_l1Power.l0 k x0 x1 x5 x6) r := Ev.step (fun _ => rfl) h
theorem pow_le {x j : Nat} (hx : x ≤ 8) (hj : j ≤ 8) : x ^ j ≤ 16777216 := by
  have h1 : x ^ j ≤ 8 ^ j := Nat.pow_le_pow_left hx j
  have h2 : 8 ^ j ≤ 8 ^ 8 := Nat.pow_le_pow_right (by decide) hj
  have h3 : (8 : Nat) ^ 8 = 16777216 := by decide
  omega
theorem spec_l1Power_l0 {x t : Nat} (hx : x ≤ 8) (ht : t ≤ 8) : ∀ i : Int, i ≤ t → 0 ≤ i → Ev (fun k => spec_l1Power.l0 k (x : Int) (t : Int) ((x ^ i.toNat : Nat) : Int) i) ((x ^ t : Nat) : Int) := by
  refine Hd.down ?_
  intro i hi ih h0
  refine spec_l1Power.l0.ev ?_
  by_cases hlt : i < t
  · have next := ih hlt (by omega)
    have hp := pow_le (j := i.toNat + 1) hx (by omega)
    rw [show (i + 1).toNat = i.toNat + 1 from by omega] at next
    have e : ((x ^ i.toNat : Nat) : Int) * (x : Int) = ((x ^ (i.toNat + 1) : Nat) : Int) := by rw [Nat.pow_succ]; simp
    rw [e, wid (x := ((x ^ (i.toNat + 1) : Nat) : Int)) (by omega) (by omega), wid (x := i + 1) (by omega) (by omega)]
    exact Ev.pos hlt next
  · refine Ev.neg hlt (Ev.ret ?_)
    rw [show i.toNat = t from by omega]
theorem spec_l1Power_ev {x t : Nat} (hx : x ≤ 8) (ht : t ≤ 8) : Ev (fun k => spec_l1Power.f k (x : Int) (t : Int)) ((x ^ t : Nat) : Int) := by
  have := spec_l1Power_l0 hx ht 0 (by omega) (by omega)
  simp only [Int.toNat_zero, Nat.pow_zero] at this
  exact this

/-! spec_CountTrees -/

def treesN (a : Int) : Int := if 1 ≤ a ∧ a ≤ 8 then ((a.toNat ^ (a.toNat - 1) : Nat) : Int) else -1
theorem spec_CountTrees_ev (a : Int) : Ev (fun k => spec_CountTrees.f k a) (treesN a) := by
  unfold spec_CountTrees.f treesN
  refine Ev.bindv (spec_l1In_eq _ _ _) ?_
  by_cases h : 1 ≤ a ∧ a ≤ 8
  · rw [if_pos h, wid (x := a - 1) (by omega) (by omega)]
    have := spec_l1Power_ev (x := a.toNat) (t := a.toNat - 1) (by omega) (by omega)
    rw [show ((a.toNat : Nat) : Int) = a from by omega, show ((a.toNat - 1 : Nat) : Int) = a - 1 from by omega] at this
    exact Ev.pos (by simpa using h) (Ev.bind this (Ev.now _))
  · rw [if_neg h]
    exact Ev.neg (by simpa using h) (Ev.now _)

/-! impl_CountTrees -/
theorem impl_CountTrees.j0.ev {x0 : Int} {x9 : Bool} {r : Int} (h : Ev (fun k => if x9 = true then (some (-1)) else (impl_CountTrees.l0 k x0 1 (wrap64 (x0 - 1)) 0)) r) : Ev (fun k => impl_CountTrees.j0 k x0 x9) r := Ev.step (fun _ => rfl) h
theorem impl_CountTrees.l0.ev {x0 : Int} {x3 : Int} {x11 : Int} {x12 : Int} {r : Int} (h : Ev (fun k => if x12 < x11 then (impl_CountTrees.l0 k x0 (wrap64 (x3 * x0)) x11 (wrap64 (x12 + 1))) else (some x3)) r) : Ev (fun k => impl_CountTrees.l0 k x0 x3 x11 x12) r := Ev.step (fun _ => rfl) h
def treesN' (a : Int) : Int := if 1 ≤ a ∧ a ≤ 8 then ((a.toNat ^ (a.toNat - 1) : Nat) : Int) else -1
theorem pow_le' {x j : Nat} (hx : x ≤ 8) (hj : j ≤ 8) : x ^ j ≤ 16777216 := by
  have h1 : x ^ j ≤ 8 ^ j := Nat.pow_le_pow_left hx j
  have h2 : 8 ^ j ≤ 8 ^ 8 := Nat.pow_le_pow_right (by decide) hj
  have h3 : (8 : Nat) ^ 8 = 16777216 := by decide
  omega
theorem impl_CountTrees_l0 {x t : Nat} (hx : x ≤ 8) (ht : t ≤ 8) : ∀ i : Int, i ≤ t → 0 ≤ i → Ev (fun k => impl_CountTrees.l0 k (x : Int) ((x ^ i.toNat : Nat) : Int) (t : Int) i) ((x ^ t : Nat) : Int) := by
  refine Hd.down ?_
  intro i hi ih h0
  refine impl_CountTrees.l0.ev ?_
  by_cases hlt : i < t
  · have next := ih hlt (by omega)
    have hp := pow_le' (j := i.toNat + 1) hx (by omega)
    rw [show (i + 1).toNat = i.toNat + 1 from by omega] at next
    have e : ((x ^ i.toNat : Nat) : Int) * (x : Int) = ((x ^ (i.toNat + 1) : Nat) : Int) := by rw [Nat.pow_succ]; simp
    rw [e, wid (x := ((x ^ (i.toNat + 1) : Nat) : Int)) (by omega) (by omega), wid (x := i + 1) (by omega) (by omega)]
    exact Ev.pos hlt next
  · refine Ev.neg hlt (Ev.ret ?_)
    rw [show i.toNat = t from by omega]
theorem impl_CountTrees_ev (a : Int) : Ev (fun k => impl_CountTrees.f k a) (treesN' a) := by
  unfold impl_CountTrees.f treesN'
  by_cases h1 : a < 1
  · rw [if_neg (by omega)]
    exact Ev.pos h1 (impl_CountTrees.j0.ev (Ev.pos rfl (Ev.now _)))
  · refine Ev.neg h1 (impl_CountTrees.j0.ev ?_)
    by_cases h8 : a > 8
    · rw [if_neg (by omega)]
      exact Ev.pos (by simpa using h8) (Ev.now _)
    · refine Ev.neg (by simpa using h8) ?_
      rw [if_pos (by omega), wid (x := a - 1) (by omega) (by omega)]
      have := impl_CountTrees_l0 (x := a.toNat) (t := a.toNat - 1) (by omega) (by omega) 0 (by omega) (by omega)
      rw [show ((a.toNat : Nat) : Int) = a from by omega, show ((a.toNat - 1 : Nat) : Int) = a - 1 from by omega] at this
      simp only [Int.toNat_zero, Nat.pow_zero] at this
      exact this


end Go.Proofs.Ytogmdcdipnmbkaa.PFnExactCountTrees
