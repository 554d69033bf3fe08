/- For every drawn row the program's RootOf answers as the reference's does; of a tree just the root has the head 0, and just the root has the depth 0. -/
import Derived.Test.YtaclehflljpfgaaBFnRootOf
namespace Go.Proofs.Ytaclehflljpfgaa.Pure
open Go.Proofs.Ytaclehflljpfgaa.PFnRootOf
open Go.RowKit Go.Proofs.YtaclehflljpfgaaW.PrintWords Go.Proofs.YtaclehflljpfgaaW.PrintLast Go.Proofs.YtaclehflljpfgaaW.PrintMore
set_option linter.unusedVariables false
theorem FnRootOf_l0 {h : List Int} (t : Hd.T h) : ∀ i : Int, i ≤ (h.length : Int) → 0 ≤ i → Ev (fun k => laws_FnRootOf.l0 k h (Hd.rootI h) (Hd.depL h) i) true := by
  have h8 := t.1
  obtain ⟨hr, hz, uq⟩ := Hd.rootI_spec t
  have hd : Hd.depL h = Hd.tab (fun a => (Hd.dep h.length (Hd.hd h) a : Int)) h.length := by rw [Hd.depL, if_pos t]
  refine Hd.down ?_
  intro i hi ih h0
  refine laws_FnRootOf.l0.ev ?_
  by_cases hlt : i < h.length
  · have is : Hd.hd h (i + 1) = 0 ↔ i + 1 = Hd.rootI h := ⟨uq _ (by omega) (by omega), fun e => by rw [e]; exact hz⟩
    have dz := t.2.dep_zero (a := i + 1)
    have rdd : rd (Hd.depL h) i = (Hd.dep h.length (Hd.hd h) (i + 1) : Int) := by
      rw [hd]
      unfold rd
      rw [Hd.tab_get _ _ (show i.toNat < h.length by omega), show ((i.toNat : Nat) : Int) = i from by omega]
    rw [rd_hd1 (l := h) h0, rdd, wid (x := i + 1) (by omega) (by omega), show ((Hd.depL h).length : Int) = h.length from by rw [hd, Hd.tab_length]]
    refine Ev.pos hlt (Ev.pos h0 (Ev.neg ?_ (Ev.pos hlt (Ev.neg ?_ (ih hlt (by omega))))))
    · rw [show (Hd.hd h (i + 1) == 0) = (i + 1 == Hd.rootI h) from bool_eq (by rw [beq_iff_eq, beq_iff_eq]; exact is)]; simp
    · rw [show ((Hd.dep h.length (Hd.hd h) (i + 1) : Int) == 0) = (i + 1 == Hd.rootI h) from bool_eq (by rw [beq_iff_eq, beq_iff_eq, ← is, ← dz]; omega)]; simp
  · exact Ev.neg hlt (Ev.now _)
theorem FnRootOf : laws_FnRootOf.Pure := by
  intro l _ _ hw
  refine Ev.rounds (g := fun k => laws_FnRootOf.f k l) ?_
  unfold laws_FnRootOf.f
  by_cases hbig : (l.length : Int) > 1048576
  · exact Ev.pos hbig (Ev.now _)
  refine Ev.neg hbig ?_
  obtain ⟨h, e, hl⟩ := spec_DrawRootOf_ev hw
  refine Ev.bind e (Ev.bind (impl_RootOf_ev h) (Ev.bind (spec_RootOf_ev h) (Ev.pos rfl ?_)))
  by_cases t : Hd.T h
  · have hr := (Hd.rootI_spec t).1
    refine Ev.neg (by omega) (Ev.bind (impl_DepthOf_ev h) (Ev.pos ?_ (FnRootOf_l0 t 0 (by omega) (by omega))))
    rw [Hd.depL, if_pos t, Hd.tab_length]
  · rw [Hd.rootI_no t]
    exact Ev.pos (by omega) (Ev.pos rfl (Ev.bind (impl_TreeOk_ev h) (Ev.neg (by rw [Hd.treeB_no t]; simp) (Ev.bind laws_alive_ev (Ev.now _)))))

end Go.Proofs.Ytaclehflljpfgaa.Pure
