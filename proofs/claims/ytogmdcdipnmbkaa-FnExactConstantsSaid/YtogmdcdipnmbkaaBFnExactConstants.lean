/- Contracts of the functions that the statement FnExactConstants reaches: what each printed function comes to. -/
import Derived.Test.YtogmdcdipnmbkaaPFnExactConstantsx1
import Derived.Test.YtogmdcdipnmbkaaWSized
import Derived.Test.YtogmdcdipnmbkaaHd1
import Derived.Test.YtogmdcdipnmbkaaHd2
import Derived.Test.YtogmdcdipnmbkaaHd3
import Derived.Test.YtogmdcdipnmbkaaHd4
import Derived.Test.YtogmdcdipnmbkaaHd5
import Derived.Test.YtogmdcdipnmbkaaHd6
import Derived.Test.YtogmdcdipnmbkaaHd7
namespace Go.Proofs.Ytogmdcdipnmbkaa.PrintWords
/-- The name by which the printed row calls the word. -/
abbrev sized_ints := @Go.Proofs.YtogmdcdipnmbkaaW.PrintWords.sized_ints
end Go.Proofs.Ytogmdcdipnmbkaa.PrintWords
namespace Go.Proofs.Ytogmdcdipnmbkaa.PFnExactConstants
open Go.RowKit Go.Proofs.YtogmdcdipnmbkaaW.PrintWords Go.Proofs.YtogmdcdipnmbkaaW.PrintLast Go.Proofs.YtogmdcdipnmbkaaW.PrintMore
set_option linter.unusedVariables false
theorem wid {x : Int} (h : -9223372036854775808 ≤ x) (h' : x ≤ 9223372036854775807) : wrap64 x = x := by unfold wrap64; omega
theorem Ev.pos {α : Type} {c : Prop} [Decidable c] {A B : Nat → Option α} {r : α} (h : c) (e : Ev A r) : Ev (fun k => if c then A k else B k) r := by simpa only [if_pos h] using e
theorem Ev.neg {α : Type} {c : Prop} [Decidable c] {A B : Nat → Option α} {r : α} (h : ¬ c) (e : Ev B r) : Ev (fun k => if c then A k else B k) r := by simpa only [if_neg h] using e
theorem Ev.bindv {α β : Type} {o : Option α} {f : Nat → α → Option β} {a : α} {r : β} (h : o = some a) (k : Ev (fun n => f n a) r) : Ev (fun n => o.bind (f n)) r := by subst h; exact k
theorem Ev.ret {α : Type} {a r : α} (h : a = r) : Ev (fun _ => some a) r := h ▸ Ev.now a
theorem rd_hd {l : List Int} {a : Int} (h : 1 ≤ a) : rd l (a - 1) = Hd.hd l a := Hd.hd_get h
theorem rd_hd1 {l : List Int} {a : Int} (h : 0 ≤ a) : rd l a = Hd.hd l (a + 1) := by rw [← rd_hd (by omega)]; congr 1; omega
/-- The two arcs cross, each by two different words. -/
def CrsP (a b c d : Int) : Prop := 1 ≤ a ∧ 1 ≤ b ∧ 1 ≤ c ∧ 1 ≤ d ∧ a ≠ b ∧ c ≠ d ∧ Hd.Crs a b c d
open Classical in
noncomputable def crsB (a b c d : Int) : Bool := decide (CrsP a b c d)
theorem crsB_true {a b c d : Int} : crsB a b c d = true ↔ CrsP a b c d := by simp [crsB]
theorem crsB_no {a b c d : Int} (h : ¬ CrsP a b c d) : crsB a b c d = false := by simp [crsB, h]
theorem crsB_yes {a b c d : Int} (h : CrsP a b c d) : crsB a b c d = true := by simp [crsB, h]
theorem some_bool {a b : Bool} (h : a = true ↔ b = true) : some a = some b := congrArg some (Bool.eq_iff_iff.2 h)
theorem bool_eq {a b : Bool} (h : a = true ↔ b = true) : a = b := Bool.eq_iff_iff.2 h
/-- A word of a tree. -/
noncomputable def wordB (l : List Int) (a : Int) : Bool := Hd.treeB l && decide (1 ≤ a ∧ a ≤ (l.length : Int))
theorem wordB_true {l : List Int} {a : Int} : wordB l a = true ↔ Hd.T l ∧ 1 ≤ a ∧ a ≤ (l.length : Int) := by simp [wordB, Hd.treeB_true]
theorem mn_mx (a b : Int) : (mn a b = a ∧ mx a b = b ∧ a ≤ b) ∨ (mn a b = b ∧ mx a b = a ∧ b ≤ a) := by
  unfold mn mx
  split <;> split <;> omega


end Go.Proofs.Ytogmdcdipnmbkaa.PFnExactConstants
