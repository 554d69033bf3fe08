/- The program's PutInOrder answers as the reference's does, for all arguments (rows of more than 1048576 numbers are let by). -/
import Derived.Test.YtfccopfhniobjaaBFnExactPutInOrder
namespace Go.Proofs.Ytfccopfhniobjaa.Pure
open Go.Proofs.Ytfccopfhniobjaa.QFnExactPutInOrder
open Go.RowKit Go.Proofs.YtfccopfhniobjaaW.PrintWords Go.Proofs.YtfccopfhniobjaaW.PrintLast Go.Proofs.YtfccopfhniobjaaW.PrintMore
set_option linter.unusedVariables false
set_option linter.unusedSimpArgs false
-- uses HdG
theorem FnExactPutInOrder : laws_FnExactPutInOrder.Pure := by
 intro l0 l1 _ _ _ _ _ _
 refine Ev.rounds (g := fun k => laws_FnExactPutInOrder.f k l0 l1) ?_
 unfold laws_FnExactPutInOrder.f
 by_cases hb0 : (l0.length : Int) > 1048576
 ·exact Ev.pos hb0 (Ev.now _)
 refine Ev.neg hb0 ?_
 by_cases hb1 : (l1.length : Int) > 1048576
 ·exact Ev.pos hb1 (Ev.now _)
 refine Ev.neg hb1 ?_
 have L0 := laws_toIntS_ev (l := l0) (by omega)
 have L1 := laws_toIntS_ev (l := l1) (by omega)
 have E0 := laws_eqIntS_ev (a := l0) (b := l0) (by omega)
 have E1 := laws_eqIntS_ev (a := l1) (b := l1) (by omega)
 have S := spec_PutInOrder_ev (l := l0) (o := l1) (by omega)
 have I := impl_PutInOrder_ev l0 l1
 have hr := Hd.putL_len l0 l1
 generalize Hd.putL l0 l1 = r at S I hr
 generalize Hd.putB l0 l1 = b at S I
 have E := laws_eqIntS_ev (a := r) (b := r) (by omega)
 have hr2 : (r, b).1.length ≤ 1048600 := by show r.length ≤ _; omega
 refine Ev.bind L0 (Ev.bind L1 (Ev.bind S (Ev.bind L0 (Ev.bind L1 (Ev.bind I (Ev.bind E (Ev.pos (by simp) (laws_FnExactPutInOrder.j0.ev (Ev.neg (by simp) (Ev.bind L0 (Ev.bind E0 (Ev.pos (by simp) (Ev.bind L1 (Ev.bind E1 (Ev.pos (by simp) (Ev.bind (laws_markIntS_ev (by omega) (by omega) (by omega)) (Ev.bind (laws_markIntS_ev (by omega) (by simp only; omega) (by simp only; omega)) (Ev.neg (by simp only; omega) (Ev.bind E (Ev.pos (by simp) ?_))))))))))))))))))))
 refine laws_FnExactPutInOrder.j1.ev (Ev.neg (by simp) (Ev.bind (laws_markIntS_ev hr2 (by omega) (by omega)) (Ev.bind (laws_heldIntS_ev hr2 (by omega) (by omega)) (Ev.neg (by omega) (Ev.pos rfl (Ev.bind L0 (Ev.bind L1 (Ev.bind I (Ev.bind E (Ev.pos (by simp) ?_))))))))))
 exact laws_FnExactPutInOrder.j2.ev (Ev.neg (by simp) (Ev.bind (laws_heldIntS_ev hr2 (by omega) (by omega)) (Ev.neg (by omega) (Ev.pos rfl (Ev.now _)))))

end Go.Proofs.Ytfccopfhniobjaa.Pure
