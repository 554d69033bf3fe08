/- Contracts of the functions that the statement FnExactCrossOk reaches: what each printed function comes to. -/
import Derived.Test.YtogmdcdipnmbkaaPFnExactCrossOkx1
import Derived.Test.YtogmdcdipnmbkaaWSized
import Derived.Test.YtogmdcdipnmbkaaHd1
import Derived.Test.YtogmdcdipnmbkaaHd2
import Derived.Test.YtogmdcdipnmbkaaHd3
import Derived.Test.YtogmdcdipnmbkaaHd4
import Derived.Test.YtogmdcdipnmbkaaHd5
import Derived.Test.YtogmdcdipnmbkaaHd6
import Derived.Test.YtogmdcdipnmbkaaHd7
namespace Go.Proofs.Ytogmdcdipnmbkaa.PrintWords
/-- The name by which the printed row calls the word. -/
abbrev sized_ints := @Go.Proofs.YtogmdcdipnmbkaaW.PrintWords.sized_ints
end Go.Proofs.Ytogmdcdipnmbkaa.PrintWords
namespace Go.Proofs.Ytogmdcdipnmbkaa.PFnExactCrossOk
open Go.RowKit Go.Proofs.YtogmdcdipnmbkaaW.PrintWords Go.Proofs.YtogmdcdipnmbkaaW.PrintLast Go.Proofs.YtogmdcdipnmbkaaW.PrintMore
set_option linter.unusedVariables false
theorem wid {x : Int} (h : -9223372036854775808 ≤ x) (h' : x ≤ 9223372036854775807) : wrap64 x = x := by unfold wrap64; omega
theorem Ev.pos {α : Type} {c : Prop} [Decidable c] {A B : Nat → Option α} {r : α} (h : c) (e : Ev A r) : Ev (fun k => if c then A k else B k) r := by simpa only [if_pos h] using e
theorem Ev.neg {α : Type} {c : Prop} [Decidable c] {A B : Nat → Option α} {r : α} (h : ¬ c) (e : Ev B r) : Ev (fun k => if c then A k else B k) r := by simpa only [if_neg h] using e
theorem Ev.bindv {α β : Type} {o : Option α} {f : Nat → α → Option β} {a : α} {r : β} (h : o = some a) (k : Ev (fun n => f n a) r) : Ev (fun n => o.bind (f n)) r := by subst h; exact k
theorem Ev.ret {α : Type} {a r : α} (h : a = r) : Ev (fun _ => some a) r := h ▸ Ev.now a
theorem rd_hd {l : List Int} {a : Int} (h : 1 ≤ a) : rd l (a - 1) = Hd.hd l a := Hd.hd_get h
theorem rd_hd1 {l : List Int} {a : Int} (h : 0 ≤ a) : rd l a = Hd.hd l (a + 1) := by rw [← rd_hd (by omega)]; congr 1; omega
/-- The two arcs cross, each by two different words. -/
def CrsP (a b c d : Int) : Prop := 1 ≤ a ∧ 1 ≤ b ∧ 1 ≤ c ∧ 1 ≤ d ∧ a ≠ b ∧ c ≠ d ∧ Hd.Crs a b c d
open Classical in
noncomputable def crsB (a b c d : Int) : Bool := decide (CrsP a b c d)
theorem crsB_true {a b c d : Int} : crsB a b c d = true ↔ CrsP a b c d := by simp [crsB]
theorem crsB_no {a b c d : Int} (h : ¬ CrsP a b c d) : crsB a b c d = false := by simp [crsB, h]
theorem crsB_yes {a b c d : Int} (h : CrsP a b c d) : crsB a b c d = true := by simp [crsB, h]
theorem some_bool {a b : Bool} (h : a = true ↔ b = true) : some a = some b := congrArg some (Bool.eq_iff_iff.2 h)
theorem bool_eq {a b : Bool} (h : a = true ↔ b = true) : a = b := Bool.eq_iff_iff.2 h
/-- A word of a tree. -/
noncomputable def wordB (l : List Int) (a : Int) : Bool := Hd.treeB l && decide (1 ≤ a ∧ a ≤ (l.length : Int))
theorem wordB_true {l : List Int} {a : Int} : wordB l a = true ↔ Hd.T l ∧ 1 ≤ a ∧ a ≤ (l.length : Int) := by simp [wordB, Hd.treeB_true]
theorem mn_mx (a b : Int) : (mn a b = a ∧ mx a b = b ∧ a ≤ b) ∨ (mn a b = b ∧ mx a b = a ∧ b ≤ a) := by
  unfold mn mx
  split <;> split <;> omega

/-! spec_CrossOk -/

theorem spec_CrossOk_eq (a b c d : Int) : spec_CrossOk.f a b c d = some (crsB a b c d) := by
  have m1 := mn_mx a b
  have m2 := mn_mx c d
  unfold spec_CrossOk.f
  generalize mn a b = p at *
  generalize mx a b = q at *
  generalize mn c d = r at *
  generalize mx c d = s at *
  by_cases h : CrsP a b c d
  · rw [crsB_yes h]
    unfold CrsP Hd.Crs Hd.Btw Hd.Outs at h
    rw [if_neg (by omega), if_neg (by omega), if_neg (by omega), if_neg (by omega), if_neg (by omega), if_neg (by omega)]
    by_cases h1 : p < r
    · rw [if_pos h1, if_pos (by omega), if_pos (by omega)]
    · rw [if_neg h1, if_pos (by omega), if_pos (by omega), decide_eq_true (by omega)]
  · rw [crsB_no h]
    unfold CrsP Hd.Crs Hd.Btw Hd.Outs at h
    by_cases h1 : a < 1
    · rw [if_pos h1]
    by_cases h2 : b < 1
    · rw [if_neg h1, if_pos h2]
    by_cases h3 : c < 1
    · rw [if_neg h1, if_neg h2, if_pos h3]
    by_cases h4 : d < 1
    · rw [if_neg h1, if_neg h2, if_neg h3, if_pos h4]
    by_cases h5 : a = b
    · rw [if_neg h1, if_neg h2, if_neg h3, if_neg h4, if_pos h5]
    by_cases h6 : c = d
    · rw [if_neg h1, if_neg h2, if_neg h3, if_neg h4, if_neg h5, if_pos h6]
    rw [if_neg h1, if_neg h2, if_neg h3, if_neg h4, if_neg h5, if_neg h6]
    have last : (if r < p then if p < s then some (decide (s < q)) else some false else some false) = some false := by
      by_cases k1 : r < p
      · rw [if_pos k1]
        by_cases k2 : p < s
        · rw [if_pos k2, decide_eq_false (by omega)]
        · rw [if_neg k2]
      · rw [if_neg k1]
    by_cases k1 : p < r
    · rw [if_pos k1]
      by_cases k2 : r < q
      · rw [if_pos k2, if_neg (by omega)]; exact last
      · rw [if_neg k2]; exact last
    · rw [if_neg k1]; exact last

/-! impl_between -/

open Classical in
theorem impl_between_eq (x a b : Int) : impl_between.f x a b = some (decide (Hd.Btw x a b)) := by
  have m := mn_mx a b
  unfold impl_between.f
  generalize mn a b = p at *
  generalize mx a b = q at *
  have e : decide (Hd.Btw x a b) = decide (p < x ∧ x < q) := decide_eq_decide.2 (by unfold Hd.Btw; omega)
  rw [e]
  by_cases h : x > p
  · rw [if_pos h]; congr 1; simp; omega
  · rw [if_neg h]; congr 1; simp; omega

/-! impl_outside -/

open Classical in
theorem impl_outside_eq (x a b : Int) : impl_outside.f x a b = some (decide (Hd.Outs x a b)) := by
  have m := mn_mx a b
  unfold impl_outside.f
  generalize mn a b = p at *
  generalize mx a b = q at *
  have e : decide (Hd.Outs x a b) = decide (x < p ∨ q < x) := decide_eq_decide.2 (by unfold Hd.Outs; omega)
  rw [e]
  by_cases h : x < p
  · rw [if_pos h]; congr 1; simp; omega
  · rw [if_neg h]; congr 1; simp; omega

/-! impl_CrossOk -/
theorem impl_CrossOk.j0.ev {x0 : Int} {x1 : Int} {x2 : Int} {x3 : Int} {x32 : Bool} {r : Bool} (h : Ev (fun k => if x32 = true then (some false) else ((impl_between.f x2 x0 x1).bind fun t101 => (if t101 = true then ((impl_outside.f x3 x0 x1).bind fun t102 => (if t102 = true then (some true) else ((impl_between.f x3 x0 x1).bind fun t103 => (if t103 = true then ((impl_outside.f x2 x0 x1).bind fun t104 => (some t104)) else (some false))))) else ((impl_between.f x3 x0 x1).bind fun t105 => (if t105 = true then ((impl_outside.f x2 x0 x1).bind fun t106 => (some t106)) else (some false)))))) r) : Ev (fun k => impl_CrossOk.j0 k x0 x1 x2 x3 x32) r := Ev.step (fun _ => rfl) h
theorem impl_CrossOk_ev (a b c d : Int) : Ev (fun k => impl_CrossOk.f k a b c d) (crsB a b c d) := by
  unfold impl_CrossOk.f
  have no : ¬ (1 ≤ a ∧ 1 ≤ b ∧ 1 ≤ c ∧ 1 ≤ d ∧ a ≠ b ∧ c ≠ d) → Ev (fun k => impl_CrossOk.j0 k a b c d true) (crsB a b c d) := fun h => by
    refine impl_CrossOk.j0.ev (Ev.pos rfl (Ev.ret ?_))
    rw [crsB_no fun p => h ⟨p.1, p.2.1, p.2.2.1, p.2.2.2.1, p.2.2.2.2.1, p.2.2.2.2.2.1⟩]
  by_cases h1 : a < 1
  · exact Ev.pos h1 (no (by omega))
  refine Ev.neg h1 ?_
  by_cases h2 : b < 1
  · exact Ev.pos h2 (no (by omega))
  refine Ev.neg h2 ?_
  by_cases h3 : c < 1
  · exact Ev.pos h3 (no (by omega))
  refine Ev.neg h3 ?_
  by_cases h4 : d < 1
  · exact Ev.pos h4 (no (by omega))
  refine Ev.neg h4 ?_
  by_cases h5 : a = b
  · exact Ev.pos h5 (no (by omega))
  refine Ev.neg h5 ?_
  by_cases h6 : c = d
  · rw [show (c == d) = true from by simpa using h6]; exact no (by omega)
  rw [show (c == d) = false from by simpa using h6]
  refine impl_CrossOk.j0.ev (Ev.neg (by simp) ?_)
  have e : crsB a b c d = true ↔ Hd.Crs a b c d := by
    rw [crsB_true]
    exact ⟨fun p => p.2.2.2.2.2.2, fun p => ⟨by omega, by omega, by omega, by omega, h5, h6, p⟩⟩
  refine Ev.bindv (impl_between_eq _ _ _) ?_
  by_cases b1 : Hd.Btw c a b
  · refine Ev.pos (by simpa using b1) (Ev.bindv (impl_outside_eq _ _ _) ?_)
    by_cases o1 : Hd.Outs d a b
    · refine Ev.pos (by simpa using o1) (Ev.ret ?_)
      exact (e.2 (.inl ⟨b1, o1⟩)).symm
    · refine Ev.neg (by simpa using o1) (Ev.bindv (impl_between_eq _ _ _) ?_)
      by_cases b2 : Hd.Btw d a b
      · refine Ev.pos (by simpa using b2) (Ev.bindv (impl_outside_eq _ _ _) (Ev.ret (bool_eq ?_)))
        rw [e]; simp; unfold Hd.Crs; constructor
        · intro h; exact .inr ⟨b2, h⟩
        · rintro (h | h)
          · exact absurd h.2 o1
          · exact h.2
      · refine Ev.neg (by simpa using b2) (Ev.ret (bool_eq ?_))
        rw [e]; simp; unfold Hd.Crs; rintro (h | h)
        · exact o1 h.2
        · exact b2 h.1
  · refine Ev.neg (by simpa using b1) (Ev.bindv (impl_between_eq _ _ _) ?_)
    by_cases b2 : Hd.Btw d a b
    · refine Ev.pos (by simpa using b2) (Ev.bindv (impl_outside_eq _ _ _) (Ev.ret (bool_eq ?_)))
      rw [e]; simp; unfold Hd.Crs; constructor
      · intro h; exact .inr ⟨b2, h⟩
      · rintro (h | h)
        · exact absurd h.1 b1
        · exact h.2
    · refine Ev.neg (by simpa using b2) (Ev.ret (bool_eq ?_))
      rw [e]; simp; unfold Hd.Crs; rintro (h | h)
      · exact b1 h.1
      · exact b2 h.1


end Go.Proofs.Ytogmdcdipnmbkaa.PFnExactCrossOk
