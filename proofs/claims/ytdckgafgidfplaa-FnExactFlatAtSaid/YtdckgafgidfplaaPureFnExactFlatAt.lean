/- The program's FlatAt answers as the reference's does, for all arguments, and hands back memory that it shares with no other call. -/
import Derived.Test.YtdckgafgidfplaaBFnExactFlatAt
namespace Go.Proofs.Ytdckgafgidfplaa.Pure
open Go.Proofs.Ytdckgafgidfplaa.QFnExactFlatAt
open Go.RowKit Go.Proofs.YtdckgafgidfplaaW.PrintWords Go.Proofs.YtdckgafgidfplaaW.PrintLast Go.Proofs.YtdckgafgidfplaaW.PrintMore
set_option linter.unusedVariables false
set_option linter.unusedSimpArgs false
-- base Hd9
-- uses HdJ
-- uses HdK
theorem flatAtI_len (a b : Int) : (flatAtI a b).1.length ≤ 6 := by
 unfold flatAtI
 by_cases c : 0 ≤ b ∧ b < flatN a
 ·rw [if_pos c]
  have hr : 1 ≤ a ∧ a ≤ 6 := by
   by_cases h : 1 ≤ a ∧ a ≤ 6
   ·exact h
   ·rw [flatN_out h] at c; omega
  obtain ⟨n, rfl⟩ : ∃ n : Nat, a = n := ⟨a.toNat, by omega⟩
  have ec := cF_eq' (a := n) (by omega) (by omega)
  have el := tF_len (n := n) (by omega) (by omega)
  have hm : b.toNat < (Hd.tF n).length := by omega
  rw [Int.toNat_natCast, List.getD_eq_getElem?_getD, List.getElem?_eq_getElem hm, Hd.toI_len]
  have := ((Hd.t_sizes n (by omega)).2.2.1 _ (List.getElem_mem hm)).1
  show ((Hd.tF n)[b.toNat]).length ≤ 6
  omega
 ·rw [if_neg c]; simp
theorem FnExactFlatAt : laws_FnExactFlatAt.Pure := by
 intro a0 a1 _ _
 refine Ev.rounds (g := fun k => laws_FnExactFlatAt.f k a0 a1) ?_
 unfold laws_FnExactFlatAt.f
 have S := spec_FlatAt_ev a0 a1
 have I := impl_FlatAt_ev a0 a1
 have hl := flatAtI_len a0 a1
 generalize flatAtI a0 a1 = x at S I hl
 have E := laws_eqIntS_ev (a := x.1) (b := x.1) (by omega)
 have M := laws_markIntS_ev (l := x.1) (c := 1) (by omega) (by omega) (by omega)
 have H := laws_heldIntS_ev (n := x.1.length) (c := 1) (by omega) (by omega) (by omega)
 exact Ev.bind S (Ev.bind I (Ev.bind E (Ev.bind M (Ev.bind H (Ev.pos ⟨by simp, rfl, rfl, by show ¬ ((1 : Int) + x.1.length < 0); omega⟩ (Ev.now _))))))

end Go.Proofs.Ytdckgafgidfplaa.Pure
