/- For every drawn tree and two words the program's MeetOf answers as the reference's does; both words are under it, it is under each word under which both are, and for both exchanged it is the same. -/
import Derived.Test.YtaclehflljpfgaaBFnMeetOf
namespace Go.Proofs.Ytaclehflljpfgaa.Pure
open Go.Proofs.Ytaclehflljpfgaa.PFnMeetOf
open Go.RowKit Go.Proofs.YtaclehflljpfgaaW.PrintWords Go.Proofs.YtaclehflljpfgaaW.PrintLast Go.Proofs.YtaclehflljpfgaaW.PrintMore
set_option linter.unusedVariables false
theorem meet_facts {h : List Int} {a b : Int} (t : Hd.T h) (ha : 1 ≤ a ∧ a ≤ (h.length : Int)) (hb : 1 ≤ b ∧ b ≤ (h.length : Int)) :
    Hd.Und (Hd.hd h) a (meetI h a b) ∧ Hd.Und (Hd.hd h) b (meetI h a b) ∧ (1 ≤ meetI h a b ∧ meetI h a b ≤ h.length) ∧ ∀ c, Hd.Und (Hd.hd h) a c → Hd.Und (Hd.hd h) b c → Hd.Und (Hd.hd h) (meetI h a b) c := by
  rw [meetI, if_pos ⟨t, ha, hb⟩]
  exact Hd.meetF_spec t hb h.length a ha.1 ha.2 (t.2.back a ha.1 ha.2)
theorem FnMeetOf_l0 {h : List Int} {a b : Int} (t : Hd.T h) (ha : 1 ≤ a ∧ a ≤ (h.length : Int)) (hb : 1 ≤ b ∧ b ≤ (h.length : Int)) : ∀ i : Int, i ≤ (h.length : Int) + 1 → 1 ≤ i → Ev (fun k => laws_FnMeetOf.l0 k h a b (meetI h a b) i) true := by
  have h8 := t.1
  obtain ⟨m1, m2, m3, m4⟩ := meet_facts t ha hb
  obtain ⟨n1, n2, n3, n4⟩ := meet_facts t hb ha
  have same : meetI h b a = meetI h a b := t.2.anti n3 (n4 _ m2 m1) (m4 _ n2 n1)
  refine Hd.down ?_
  intro i hi ih h1
  refine laws_FnMeetOf.l0.ev ?_
  by_cases hle : i ≤ (h.length : Int)
  · have next := ih (by omega) (by omega)
    rw [wid (x := i + 1) (by omega) (by omega)]
    refine Ev.pos hle (Ev.bind (impl_UnderOk_ev h a i) ?_)
    by_cases hu : uokB h a i = true
    · refine Ev.pos hu (Ev.bind (impl_UnderOk_ev h b i) ?_)
      by_cases hv : uokB h b i = true
      · exact Ev.pos hv (Ev.bind (impl_UnderOk_ev h _ i) (Ev.pos (uokB_true.2 ⟨t, m3, ⟨h1, hle⟩, m4 i (uokB_true.1 hu).2.2.2 (uokB_true.1 hv).2.2.2⟩) next))
      · exact Ev.neg hv next
    · exact Ev.neg hu next
  · exact Ev.neg hle (Ev.bind (impl_UnderOk_ev h a _) (Ev.pos (uokB_true.2 ⟨t, ha, m3, m1⟩) (Ev.bind (impl_UnderOk_ev h b _) (Ev.pos (uokB_true.2 ⟨t, hb, m3, m2⟩) (Ev.bind (impl_MeetOf_ev h b a) (Ev.ret (by rw [same]; simp)))))))
theorem FnMeetOf : laws_FnMeetOf.Pure := by
  intro l _ _ hw
  refine Ev.rounds (g := fun k => laws_FnMeetOf.f k l) ?_
  unfold laws_FnMeetOf.f
  by_cases hbig : (l.length : Int) > 1048576
  · exact Ev.pos hbig (Ev.now _)
  refine Ev.neg hbig ?_
  obtain ⟨h, a, b, e, hl, ha, hb⟩ := spec_DrawMeetOf_ev hw
  refine Ev.bind e (Ev.bind (impl_MeetOf_ev h a b) (Ev.bind (spec_MeetOf_ev h a b) (Ev.pos rfl ?_)))
  by_cases hy : Hd.T h ∧ (1 ≤ a ∧ a ≤ (h.length : Int)) ∧ (1 ≤ b ∧ b ≤ (h.length : Int))
  · have m3 := (meet_facts hy.1 hy.2.1 hy.2.2).2.2.1
    exact Ev.neg (by omega) (FnMeetOf_l0 hy.1 hy.2.1 hy.2.2 1 (by omega) (by omega))
  · have hm : meetI h a b = -1 := by rw [meetI, if_neg hy]
    rw [hm]
    exact Ev.pos (by omega) (Ev.pos rfl (Ev.bind laws_alive_ev (Ev.now _)))

end Go.Proofs.Ytaclehflljpfgaa.Pure
