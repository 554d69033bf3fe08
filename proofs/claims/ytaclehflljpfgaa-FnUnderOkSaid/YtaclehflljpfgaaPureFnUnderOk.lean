/- For every drawn tree and two words the program's UnderOk answers as the reference's does; each word is under itself, under the root and under its head, and two words that are under each other are the same. -/
import Derived.Test.YtaclehflljpfgaaBFnUnderOk
namespace Go.Proofs.Ytaclehflljpfgaa.Pure
open Go.Proofs.Ytaclehflljpfgaa.PFnUnderOk
open Go.RowKit Go.Proofs.YtaclehflljpfgaaW.PrintWords Go.Proofs.YtaclehflljpfgaaW.PrintLast Go.Proofs.YtaclehflljpfgaaW.PrintMore
set_option linter.unusedVariables false
theorem FnUnderOk : laws_FnUnderOk.Pure := by
  intro l _ _ hw
  refine Ev.rounds (g := fun k => laws_FnUnderOk.f k l) ?_
  unfold laws_FnUnderOk.f
  by_cases hbig : (l.length : Int) > 1048576
  · exact Ev.pos hbig (Ev.now _)
  refine Ev.neg hbig ?_
  obtain ⟨h, a, b, e, hl, ha, hb⟩ := spec_DrawUnderOk_ev hw
  refine Ev.bind e (Ev.bind (impl_UnderOk_ev h a b) (Ev.bind (spec_UnderOk_ev h a b) (Ev.neg (by simp) (Ev.bind (spec_TreeOk_ev h) ?_))))
  have none : ¬ (Hd.T h ∧ (1 ≤ b ∧ b ≤ (h.length : Int))) → Ev (fun k => laws_FnUnderOk.j0 k h a b (uokB h a b) true) true := fun hn => by
    have : ¬ uokB h a b = true := fun hu => by have := uokB_true.1 hu; exact hn ⟨this.1, this.2.2.1⟩
    exact laws_FnUnderOk.j0.ev (Ev.pos rfl (Ev.neg this (Ev.bind laws_alive_ev (Ev.now _))))
  by_cases t : Hd.T h
  · refine Ev.pos (Hd.treeB_yes t) ?_
    by_cases b1 : b < 1
    · exact Ev.pos b1 (none fun hn => by omega)
    refine Ev.neg b1 ?_
    by_cases b2 : b > (h.length : Int)
    · rw [decide_eq_true b2]
      exact none fun hn => by omega
    rw [decide_eq_false b2]
    have hp := t.2.pos
    have h8 := t.1
    have wa : 1 ≤ a ∧ a ≤ (h.length : Int) := ⟨ha.1, ha.2.2 hp⟩
    have wb : 1 ≤ b ∧ b ≤ (h.length : Int) := by omega
    obtain ⟨hr, hz, uq⟩ := Hd.rootI_spec t
    have end' : Ev (fun k => if 0 ≤ (wrap64 (a - 1)) then (if (wrap64 (a - 1)) < (h.length : Int) then (if (rd h (wrap64 (a - 1))) = 0 then (some true) else ((impl_UnderOk.f k h a (rd h (wrap64 (a - 1)))).bind fun t => (some t))) else (Option.none)) else (Option.none)) true := by
      rw [wid (x := a - 1) (by omega) (by omega), rd_hd wa.1]
      refine Ev.pos (by omega) (Ev.pos (by omega) ?_)
      by_cases hh : Hd.hd h a = 0
      · exact Ev.pos hh (Ev.now _)
      · refine Ev.neg hh (Ev.bind (impl_UnderOk_ev h a (Hd.hd h a)) (Ev.ret ?_))
        exact uokB_true.2 ⟨t, wa, t.2.word hh, Hd.Und.head _ _⟩
    refine laws_FnUnderOk.j0.ev (Ev.neg (by simp) (Ev.bind (impl_UnderOk_ev h a a) (Ev.pos (uokB_true.2 ⟨t, wa, wa, Hd.Und.refl _ _⟩) (Ev.bind (impl_RootOf_ev h) (Ev.bind (impl_UnderOk_ev h a (Hd.rootI h)) (Ev.pos (uokB_true.2 ⟨t, wa, hr, t.2.und_root hr hz a wa.1 wa.2⟩) ?_))))))
    by_cases hu : uokB h a b = true
    · refine Ev.pos hu (Ev.bind (impl_UnderOk_ev h b a) ?_)
      by_cases hv : uokB h b a = true
      · exact Ev.pos hv (Ev.pos (t.2.anti wa (uokB_true.1 hu).2.2.2 (uokB_true.1 hv).2.2.2) end')
      · exact Ev.neg hv end'
    · exact Ev.neg hu end'
  · exact Ev.neg (by rw [Hd.treeB_no t]; simp) (none fun hn => t hn.1)

end Go.Proofs.Ytaclehflljpfgaa.Pure
