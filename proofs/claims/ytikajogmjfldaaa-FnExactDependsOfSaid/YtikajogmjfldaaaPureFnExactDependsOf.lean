/- The program's DependsOf answers as the reference's does, for all arguments (rows of more than 1048576 numbers are let by). -/
import Derived.Test.YtikajogmjfldaaaBFnExactDependsOf
namespace Go.Proofs.Ytikajogmjfldaaa.Pure
open Go.Proofs.Ytikajogmjfldaaa.PFnExactDependsOf
open Go.RowKit Go.Proofs.YtikajogmjfldaaaW.PrintWords Go.Proofs.YtikajogmjfldaaaW.PrintLast Go.Proofs.YtikajogmjfldaaaW.PrintMore
set_option linter.unusedVariables false
theorem FnExactDependsOf : laws_FnExactDependsOf.Pure := by
  intro l0 a1 _ _ _ _
  refine Ev.rounds (g := fun k => laws_FnExactDependsOf.f k l0 a1) ?_
  unfold laws_FnExactDependsOf.f
  by_cases hbig : (l0.length : Int) > 1048576
  · exact Ev.pos hbig (Ev.now _)
  · refine Ev.neg hbig ?_
    have L := laws_toIntS_ev (l := l0) (by omega)
    have hr : (Hd.kidL l0 a1).length ≤ 1048576 := by have := Hd.kidL_len l0 a1; omega
    have E := laws_eqIntS_ev (a := Hd.kidL l0 a1) (b := Hd.kidL l0 a1) hr
    have E0 := laws_eqIntS_ev (a := l0) (b := l0) (by omega)
    refine Ev.bind L (Ev.bind (spec_DependsOf_ev l0 a1) (Ev.bind L (Ev.bind (impl_DependsOf_ev l0 a1) (Ev.bind E (Ev.pos (by simp) (Ev.bind L (Ev.bind E0 (Ev.pos (by simp) (Ev.bind (laws_markIntS_ev (by omega) (by omega) (by omega)) (Ev.neg (by simp only; omega) (Ev.bind E ?_)))))))))))
    refine laws_FnExactDependsOf.j0.ev (Ev.neg (by simp) (Ev.bind (laws_markIntS_ev (by omega) (by omega) (by omega)) (Ev.bind (laws_heldIntS_ev (by omega) (by omega) (by omega)) (Ev.neg (by omega) (Ev.pos rfl (Ev.bind L (Ev.bind (impl_DependsOf_ev l0 a1) (Ev.bind E (Ev.pos (by simp) (Ev.bind (laws_heldIntS_ev (by omega) (by omega) (by omega)) (Ev.neg (by omega) (Ev.pos rfl (Ev.now _)))))))))))))

end Go.Proofs.Ytikajogmjfldaaa.Pure
