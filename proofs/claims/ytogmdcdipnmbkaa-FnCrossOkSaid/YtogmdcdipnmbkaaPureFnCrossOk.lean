/- Whether two arcs cross is the same for both arcs exchanged and for the ends of one exchanged, and arcs that cross have four ends, for every code that arcs are drawn from. -/
import Derived.Test.YtogmdcdipnmbkaaBFnCrossOk
namespace Go.Proofs.Ytogmdcdipnmbkaa.Pure
open Go.Proofs.Ytogmdcdipnmbkaa.PFnCrossOk
open Go.RowKit Go.Proofs.YtogmdcdipnmbkaaW.PrintWords Go.Proofs.YtogmdcdipnmbkaaW.PrintLast Go.Proofs.YtogmdcdipnmbkaaW.PrintMore
set_option linter.unusedVariables false
theorem crsB_swap (a b c d : Int) : crsB c d a b = crsB a b c d := bool_eq (by rw [crsB_true, crsB_true]; unfold CrsP Hd.Crs Hd.Btw Hd.Outs; omega)
theorem crsB_turn (a b c d : Int) : crsB b a c d = crsB a b c d := bool_eq (by rw [crsB_true, crsB_true]; unfold CrsP Hd.Crs Hd.Btw Hd.Outs; omega)
theorem crsB_1324 : crsB 1 3 2 4 = true := by rw [crsB_true]; unfold CrsP Hd.Crs Hd.Btw Hd.Outs; omega
theorem crsB_1423 : crsB 1 4 2 3 = false := crsB_no (by unfold CrsP Hd.Crs Hd.Btw Hd.Outs; omega)
theorem FnCrossOk : laws_FnCrossOk.Pure := by
  intro l _ _ hw
  refine Ev.rounds (g := fun k => laws_FnCrossOk.f k l) ?_
  unfold laws_FnCrossOk.f
  by_cases hbig : (l.length : Int) > 1048576
  · exact Ev.pos hbig (Ev.now _)
  refine Ev.neg hbig ?_
  obtain ⟨⟨a, b, c, d⟩, e⟩ := spec_DrawCrossOk_ev hw
  refine Ev.bind e (Ev.bind (impl_CrossOk_ev a b c d) (Ev.bindv (spec_CrossOk_eq a b c d) (Ev.neg (by simp) (Ev.bind (impl_CrossOk_ev c d a b) (Ev.pos (by rw [crsB_swap]; simp) (Ev.bind (impl_CrossOk_ev b a c d) (Ev.pos (by rw [crsB_turn]; simp) ?_)))))))
  have last : Ev (fun k => (impl_CrossOk.f k 1 3 2 4).bind fun t => (if t = true then ((impl_CrossOk.f k 1 4 2 3).bind fun t => (some (!t))) else (some false))) true :=
    Ev.bind (impl_CrossOk_ev 1 3 2 4) (Ev.pos crsB_1324 (Ev.bind (impl_CrossOk_ev 1 4 2 3) (Ev.ret (by rw [crsB_1423]; rfl))))
  by_cases hc : crsB a b c d = true
  · have p := crsB_true.1 hc
    unfold CrsP Hd.Crs Hd.Btw Hd.Outs at p
    exact Ev.pos hc (Ev.neg (by simp only; omega) (Ev.neg (by simp only; omega) (Ev.neg (by simp only; omega) (Ev.neg (by simp only; omega) last))))
  · exact Ev.neg hc last

end Go.Proofs.Ytogmdcdipnmbkaa.Pure
