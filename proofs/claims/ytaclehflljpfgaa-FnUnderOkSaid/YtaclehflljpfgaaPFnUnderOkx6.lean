-- PRINTED BY print.sh 35421559b90ae4d0a3588c463048766b98c2df88dd9212a6774a882060cdf62d: not written by this session
import Derived.Test.YtaclehflljpfgaaPFnUnderOkx0
import Derived.Test.YtaclehflljpfgaaPFnUnderOkx1
import Derived.Test.YtaclehflljpfgaaPFnUnderOkx4
import Derived.Test.YtaclehflljpfgaaPFnUnderOkx5
namespace Go.Proofs.Ytaclehflljpfgaa.PFnUnderOk
open Go.RowKit Go.Proofs.YtaclehflljpfgaaW.PrintWords Go.Proofs.YtaclehflljpfgaaW.PrintLast Go.Proofs.YtaclehflljpfgaaW.PrintMore
attribute [local go_sem] max2_int min2_int max_two min_two max_three min_three max_four min_four   -- for this text's walks alone
set_option linter.unusedVariables false
set_option linter.unusedSimpArgs false

/-! ### laws_FnUnderOk: function 10 -/
def laws_FnUnderOk.j0 : Nat → List Int → Int → Int → Bool → Bool → Option (Bool)
  | 0, _, _, _, _, _ => none
  | k + 1, x3, x4, x5, x6, x38 => if x38 = true then (if x6 = true then (some false) else ((laws_alive.f k).bind fun t287 => (some t287))) else ((impl_UnderOk.f k x3 x4 x4).bind fun t288 => (if t288 = true then ((impl_RootOf.f k x3).bind fun t289 => ((impl_UnderOk.f k x3 x4 t289).bind fun t290 => (if t290 = true then (if x6 = true then ((impl_UnderOk.f k x3 x5 x4).bind fun t291 => (if t291 = true then (if x4 = x5 then (if 0 ≤ (wrap64 (x4 - 1)) then (if (wrap64 (x4 - 1)) < (x3.length : Int) then (if (rd x3 (wrap64 (x4 - 1))) = 0 then (some true) else ((impl_UnderOk.f k x3 x4 (rd x3 (wrap64 (x4 - 1)))).bind fun t294 => (some t294))) else (none)) else (none)) else (some false)) else (if 0 ≤ (wrap64 (x4 - 1)) then (if (wrap64 (x4 - 1)) < (x3.length : Int) then (if (rd x3 (wrap64 (x4 - 1))) = 0 then (some true) else ((impl_UnderOk.f k x3 x4 (rd x3 (wrap64 (x4 - 1)))).bind fun t297 => (some t297))) else (none)) else (none)))) else (if 0 ≤ (wrap64 (x4 - 1)) then (if (wrap64 (x4 - 1)) < (x3.length : Int) then (if (rd x3 (wrap64 (x4 - 1))) = 0 then (some true) else ((impl_UnderOk.f k x3 x4 (rd x3 (wrap64 (x4 - 1)))).bind fun t300 => (some t300))) else (none)) else (none))) else (some false)))) else (some false)))
def laws_FnUnderOk.f (k : Nat) (l0 : List Int) : Option (Bool) := if (l0.length : Int) > 1048576 then (some true) else ((spec_DrawUnderOk.f k l0).bind fun bt279 => ((impl_UnderOk.f k bt279.1 bt279.2.1 bt279.2.2).bind fun t284 => ((spec_UnderOk.f k bt279.1 bt279.2.1 bt279.2.2).bind fun t285 => (if (t284 != t285) = true then (some false) else ((spec_TreeOk.f k bt279.1).bind fun t286 => (if t286 = true then (if bt279.2.2 < 1 then (laws_FnUnderOk.j0 k bt279.1 bt279.2.1 bt279.2.2 t284 true) else (laws_FnUnderOk.j0 k bt279.1 bt279.2.1 bt279.2.2 t284 (decide (bt279.2.2 > (bt279.1.length : Int))))) else (laws_FnUnderOk.j0 k bt279.1 bt279.2.1 bt279.2.2 t284 true)))))))
theorem laws_FnUnderOk.mono_l : ∀ k, (∀ y0 y1 y2 y3 y4, LeO (laws_FnUnderOk.j0 k y0 y1 y2 y3 y4) (laws_FnUnderOk.j0 (k + 1) y0 y1 y2 y3 y4))
  | 0 => fun _ _ _ _ _ r h => by simp [laws_FnUnderOk.j0] at h
  | k + 1 => by
    have ih0 := laws_FnUnderOk.mono_l k
    · intro y0 y1 y2 y3 y4
      unfold laws_FnUnderOk.j0
      repeat' first
      | (with_reducible exact ih0 _ _ _ _ _)
      | (with_reducible exact impl_RootOf.mono _ _)
      | (with_reducible exact impl_UnderOk.mono _ _ _ _)
      | (with_reducible exact laws_alive.mono _)
      | (with_reducible exact spec_DrawUnderOk.mono _ _)
      | (with_reducible exact spec_TreeOk.mono _ _)
      | (with_reducible exact spec_UnderOk.mono _ _ _ _)
      | (with_reducible exact LeO.refl _)
      | (with_reducible exact LeO.none _)
      | (with_reducible refine LeO.ite ?_ ?_)
      | (with_reducible refine LeO.bind ?_ (fun _ => ?_))
      | exact ih0 _ _ _ _ _
      | exact impl_RootOf.mono _ _
      | exact impl_UnderOk.mono _ _ _ _
      | exact laws_alive.mono _
      | exact spec_DrawUnderOk.mono _ _
      | exact spec_TreeOk.mono _ _
      | exact spec_UnderOk.mono _ _ _ _
      | exact LeO.none _
      | refine LeO.ite ?_ ?_
      | refine LeO.bind ?_ (fun _ => ?_)
theorem laws_FnUnderOk.mono : ∀ a0 k, LeO (laws_FnUnderOk.f k a0) (laws_FnUnderOk.f (k + 1) a0) := by
  intro a0 k
  have ih0 := laws_FnUnderOk.mono_l k
  unfold laws_FnUnderOk.f
  repeat' first
      | (with_reducible exact ih0 _ _ _ _ _)
      | (with_reducible exact impl_RootOf.mono _ _)
      | (with_reducible exact impl_UnderOk.mono _ _ _ _)
      | (with_reducible exact laws_alive.mono _)
      | (with_reducible exact spec_DrawUnderOk.mono _ _)
      | (with_reducible exact spec_TreeOk.mono _ _)
      | (with_reducible exact spec_UnderOk.mono _ _ _ _)
      | (with_reducible exact LeO.refl _)
      | (with_reducible exact LeO.none _)
      | (with_reducible refine LeO.ite ?_ ?_)
      | (with_reducible refine LeO.bind ?_ (fun _ => ?_))
      | exact ih0 _ _ _ _ _
      | exact impl_RootOf.mono _ _
      | exact impl_UnderOk.mono _ _ _ _
      | exact laws_alive.mono _
      | exact spec_DrawUnderOk.mono _ _
      | exact spec_TreeOk.mono _ _
      | exact spec_UnderOk.mono _ _ _ _
      | exact LeO.none _
      | refine LeO.ite ?_ ?_
      | refine LeO.bind ?_ (fun _ => ?_)
set_option maxHeartbeats 8000000 in
set_option maxRecDepth 100000 in
theorem laws_FnUnderOk.calls (k : Nat) (A0 : Option Addr) (c0 : Nat) (l0 : List Int) (r : Bool) (w : World) (hr0 : Kd.C (Kd.int .u8) w A0 l0.length l0) (hc0 : l0.length ≤ c0) (h : laws_FnUnderOk.f k l0 = some r) :
    Calls Try.prog 10 #[.slice A0 l0.length c0] w fun e w' => e = .returned (.bool r) ∧ Below w.heap.size w w' := by
  have HR0 := Aside0.mk hr0
  have HC0 := Aside0.mk hc0
  clear hr0 hc0
  have HB := Aside0.mk (Below.refl w.heap.size w)
  have H : (if (l0.length : Int) > 1048576 then (some true) else ((spec_DrawUnderOk.f k l0).bind fun bt279 => ((impl_UnderOk.f k bt279.1 bt279.2.1 bt279.2.2).bind fun t284 => ((spec_UnderOk.f k bt279.1 bt279.2.1 bt279.2.2).bind fun t285 => (if (t284 != t285) = true then (some false) else ((spec_TreeOk.f k bt279.1).bind fun t286 => (if t286 = true then (if bt279.2.2 < 1 then (laws_FnUnderOk.j0 k bt279.1 bt279.2.1 bt279.2.2 t284 true) else (laws_FnUnderOk.j0 k bt279.1 bt279.2.1 bt279.2.2 t284 (decide (bt279.2.2 > (bt279.1.length : Int))))) else (laws_FnUnderOk.j0 k bt279.1 bt279.2.1 bt279.2.2 t284 true)))))))) = some r := h
  clear h
  by_cases c2 : (l0.length : Int) > 1048576
  · rw [if_pos c2] at H
    have c2b0 : decide (1048576 < (l0.length : Int)) = true := decide_eq_true c2
    have c2b1 : decide (1048576 < l0.length) = true := decide_eq_true (by omega)
    clear c2
    obtain rfl := Option.some.inj H
    go_enter Try.func10, Try.ntmps10
    go_wp2
    go_ret
    exact ⟨by first | rfl | (simp [errW_none, errW_some] <;> rfl) | (simp [*, errW_none, errW_some] <;> rfl), by repeat (first | (with_reducible first | exact HB.out | apply below_alloc | apply pw_below_drewN | apply below_drew1) | exact HB.out)⟩
  · rw [if_neg c2] at H
    have c2b0 : decide (1048576 < (l0.length : Int)) = false := decide_eq_false c2
    have c2b1 : decide (1048576 < l0.length) = false := decide_eq_false (by omega)
    clear c2
    replace H := Option.bind_eq_some_iff.mp H
    obtain ⟨⟨t279, t280, t281⟩, A30, H⟩ := H
    replace H : ((impl_UnderOk.f k t279 t280 t281).bind fun t284 => ((spec_UnderOk.f k t279 t280 t281).bind fun t285 => (if (t284 != t285) = true then (some false) else ((spec_TreeOk.f k t279).bind fun t286 => (if t286 = true then (if t281 < 1 then (laws_FnUnderOk.j0 k t279 t280 t281 t284 true) else (laws_FnUnderOk.j0 k t279 t280 t281 t284 (decide (t281 > (t279.length : Int))))) else (laws_FnUnderOk.j0 k t279 t280 t281 t284 true)))))) = some r := H
    have A3 := Aside0.mk A30
    clear A30
    replace H := Option.bind_eq_some_iff.mp H
    obtain ⟨t284, A40, H⟩ := H
    replace H : ((spec_UnderOk.f k t279 t280 t281).bind fun t285 => (if (t284 != t285) = true then (some false) else ((spec_TreeOk.f k t279).bind fun t286 => (if t286 = true then (if t281 < 1 then (laws_FnUnderOk.j0 k t279 t280 t281 t284 true) else (laws_FnUnderOk.j0 k t279 t280 t281 t284 (decide (t281 > (t279.length : Int))))) else (laws_FnUnderOk.j0 k t279 t280 t281 t284 true))))) = some r := H
    have A4 := Aside0.mk A40
    clear A40
    replace H := Option.bind_eq_some_iff.mp H
    obtain ⟨t285, A50, H⟩ := H
    replace H : (if (t284 != t285) = true then (some false) else ((spec_TreeOk.f k t279).bind fun t286 => (if t286 = true then (if t281 < 1 then (laws_FnUnderOk.j0 k t279 t280 t281 t284 true) else (laws_FnUnderOk.j0 k t279 t280 t281 t284 (decide (t281 > (t279.length : Int))))) else (laws_FnUnderOk.j0 k t279 t280 t281 t284 true)))) = some r := H
    have A5 := Aside0.mk A50
    clear A50
    by_cases c6 : (t284 != t285) = true
    · rw [if_pos c6] at H
      have c6b0 : (t284 != t285) = true := c6
      (try (have c6b1 : decide (t284 = t285) = false := by simpa using c6))
      (try (have c6b2 : (t284 == t285) = false := by simpa using c6))
      (try (have c6b3 : ¬ (t284 = t285) := by simpa using c6))
      clear c6
      obtain rfl := Option.some.inj H
      go_enter Try.func10, Try.ntmps10
      go_wp2_with (first | ((with_reducible refine gate_callee (f := 38) rfl ?_); refine goesL_ (some 12) rfl rfl Try.func38 (by kernel_rfl) rfl #[.slice A0 l0.length c0] rfl (by (try simp only [List.map_toArray, List.map_cons, List.map_nil]); first | done | rfl | (simp only [List.length_drop, List.length_take]; rfl)) ?_; (with_reducible refine (spec_DrawUnderOk.calls k _ _ l0 t279 t280 t281 _ ?side1 ?side2 A3.out).mono ?_); (case side1 => repeat (first | exact HR0.out | (with_reducible refine Kd.C_alloc ?_ _) | (with_reducible refine Kd.C_drewN ?_ _) | (with_reducible refine Kd.C_drew ?_))); (case side2 => exact HC0.out); rintro e w7 ⟨v282, rfl, ho0, hb⟩; refine ⟨_, rfl, ?_⟩; have n0_ := Aside0.mk (Kd.R_lower ho0 (below_size (by repeat (first | (with_reducible first | exact HB.out | apply below_alloc | apply pw_below_drewN | apply below_drew1) | exact HB.out)))); have n1_ := Aside0.mk (below_step (by repeat (first | (with_reducible first | exact HB.out | apply below_alloc | apply pw_below_drewN | apply below_drew1) | exact HB.out)) hb); clear HB; have HO283 := n0_; have HB := n1_; clear n0_ n1_; (try clear hb); (try clear hb2); (try clear hk); (try clear hi); (try clear ho0); obtain ⟨Ao8, co8, eo8⟩ := Kd.R_slice HO283.out; subst eo8) | ((with_reducible refine gate_callee (f := 39) rfl ?_); refine goesL_ (some 19) rfl rfl Try.func39 (by kernel_rfl) rfl #[.slice Ao8 t279.length co8, .int .i64 t280, .int .i64 t281] rfl (by (try simp only [List.map_toArray, List.map_cons, List.map_nil]); first | done | rfl | (simp only [List.length_drop, List.length_take]; rfl)) ?_; (with_reducible refine (impl_UnderOk.calls k _ _ t279 t280 t281 t284 _ ?side1 ?side2 A4.out).mono ?_); (case side1 => repeat (first | exact (Kd.R_reads' HO283.out).2.2 | (with_reducible refine Kd.C_alloc ?_ _) | (with_reducible refine Kd.C_drewN ?_ _) | (with_reducible refine Kd.C_drew ?_))); (case side2 => exact (Kd.R_reads' HO283.out).2.1); rintro e w' ⟨rfl, ⟨nd, rfl⟩⟩; refine ⟨_, rfl, ?_⟩) | ((with_reducible refine gate_callee (f := 40) rfl ?_); refine goesL_ (some 24) rfl rfl Try.func40 (by kernel_rfl) rfl #[.slice Ao8 t279.length co8, .int .i64 t280, .int .i64 t281] rfl (by (try simp only [List.map_toArray, List.map_cons, List.map_nil]); first | done | rfl | (simp only [List.length_drop, List.length_take]; rfl)) ?_; (with_reducible refine (spec_UnderOk.calls k _ _ t279 t280 t281 t285 _ ?side1 ?side2 A5.out).mono ?_); (case side1 => repeat (first | exact (Kd.R_reads' HO283.out).2.2 | (with_reducible refine Kd.C_alloc ?_ _) | (with_reducible refine Kd.C_drewN ?_ _) | (with_reducible refine Kd.C_drew ?_))); (case side2 => exact (Kd.R_reads' HO283.out).2.1); rintro e w' ⟨rfl, ⟨nd, rfl⟩⟩; refine ⟨_, rfl, ?_⟩))
      go_ret
      exact ⟨by first | rfl | (simp [errW_none, errW_some] <;> rfl) | (simp [*, errW_none, errW_some] <;> rfl), by repeat (first | (with_reducible first | exact HB.out | apply below_alloc | apply pw_below_drewN | apply below_drew1) | exact HB.out)⟩
    · rw [if_neg c6] at H
      have c6b0 : (t284 != t285) = false := by simpa using c6
      (try (have c6b1 : decide (t284 = t285) = true := by simpa using c6))
      (try (have c6b2 : (t284 == t285) = true := by simpa using c6))
      clear c6
      have HC9 := Aside0.mk H
      clear H
      go_enter Try.func10, Try.ntmps10
      go_upto_region 7 with (first | ((with_reducible refine gate_callee (f := 38) rfl ?_); refine goesL_ (some 12) rfl rfl Try.func38 (by kernel_rfl) rfl #[.slice A0 l0.length c0] rfl (by (try simp only [List.map_toArray, List.map_cons, List.map_nil]); first | done | rfl | (simp only [List.length_drop, List.length_take]; rfl)) ?_; (with_reducible refine (spec_DrawUnderOk.calls k _ _ l0 t279 t280 t281 _ ?side1 ?side2 A3.out).mono ?_); (case side1 => repeat (first | exact HR0.out | (with_reducible refine Kd.C_alloc ?_ _) | (with_reducible refine Kd.C_drewN ?_ _) | (with_reducible refine Kd.C_drew ?_))); (case side2 => exact HC0.out); rintro e w10 ⟨v282, rfl, ho0, hb⟩; refine ⟨_, rfl, ?_⟩; have n0_ := Aside0.mk (Kd.R_lower ho0 (below_size (by repeat (first | (with_reducible first | exact HB.out | apply below_alloc | apply pw_below_drewN | apply below_drew1) | exact HB.out)))); have n1_ := Aside0.mk (below_step (by repeat (first | (with_reducible first | exact HB.out | apply below_alloc | apply pw_below_drewN | apply below_drew1) | exact HB.out)) hb); clear HB; have HO283 := n0_; have HB := n1_; clear n0_ n1_; (try clear hb); (try clear hb2); (try clear hk); (try clear hi); (try clear ho0); obtain ⟨Ao11, co11, eo11⟩ := Kd.R_slice HO283.out; subst eo11) | ((with_reducible refine gate_callee (f := 39) rfl ?_); refine goesL_ (some 19) rfl rfl Try.func39 (by kernel_rfl) rfl #[.slice Ao11 t279.length co11, .int .i64 t280, .int .i64 t281] rfl (by (try simp only [List.map_toArray, List.map_cons, List.map_nil]); first | done | rfl | (simp only [List.length_drop, List.length_take]; rfl)) ?_; (with_reducible refine (impl_UnderOk.calls k _ _ t279 t280 t281 t284 _ ?side1 ?side2 A4.out).mono ?_); (case side1 => repeat (first | exact (Kd.R_reads' HO283.out).2.2 | (with_reducible refine Kd.C_alloc ?_ _) | (with_reducible refine Kd.C_drewN ?_ _) | (with_reducible refine Kd.C_drew ?_))); (case side2 => exact (Kd.R_reads' HO283.out).2.1); rintro e w' ⟨rfl, ⟨nd, rfl⟩⟩; refine ⟨_, rfl, ?_⟩) | ((with_reducible refine gate_callee (f := 40) rfl ?_); refine goesL_ (some 24) rfl rfl Try.func40 (by kernel_rfl) rfl #[.slice Ao11 t279.length co11, .int .i64 t280, .int .i64 t281] rfl (by (try simp only [List.map_toArray, List.map_cons, List.map_nil]); first | done | rfl | (simp only [List.length_drop, List.length_take]; rfl)) ?_; (with_reducible refine (spec_UnderOk.calls k _ _ t279 t280 t281 t285 _ ?side1 ?side2 A5.out).mono ?_); (case side1 => repeat (first | exact (Kd.R_reads' HO283.out).2.2 | (with_reducible refine Kd.C_alloc ?_ _) | (with_reducible refine Kd.C_drewN ?_ _) | (with_reducible refine Kd.C_drew ?_))); (case side2 => exact (Kd.R_reads' HO283.out).2.1); rintro e w' ⟨rfl, ⟨nd, rfl⟩⟩; refine ⟨_, rfl, ?_⟩))
      (try simp only [Act.put, List.setIfInBounds_toArray, List.set_cons_zero, List.set_cons_succ])
      go_cut [38] (fun v38 wc => ∃ (kq : Nat) (x38_8 : Bool), v38 = .bool x38_8 ∧ Aside0 (laws_FnUnderOk.j0 kq t279 t280 t281 t284 x38_8 = some r) ∧ Aside0 (kq ≤ k) ∧ Aside0 (Kd.R (Kd.int .i64) 3 wc w.heap.size (fun _ => True) (.slice Ao11 t279.length co11) t279) ∧ Aside0 (Below w.heap.size w wc))
      case first =>
        have H := HC9.out
        clear HC9
        replace H := Option.bind_eq_some_iff.mp H
        obtain ⟨t286, A120, H⟩ := H
        replace H : (if t286 = true then (if t281 < 1 then (laws_FnUnderOk.j0 k t279 t280 t281 t284 true) else (laws_FnUnderOk.j0 k t279 t280 t281 t284 (decide (t281 > (t279.length : Int))))) else (laws_FnUnderOk.j0 k t279 t280 t281 t284 true)) = some r := H
        have A12 := Aside0.mk A120
        clear A120
        by_cases c13 : t286 = true
        · subst c13
          have H1 : (if t281 < 1 then (laws_FnUnderOk.j0 k t279 t280 t281 t284 true) else (laws_FnUnderOk.j0 k t279 t280 t281 t284 (decide (t281 > (t279.length : Int))))) = some r := by rw [if_pos rfl] at H; exact H
          clear H
          have H := H1
          clear H1
          by_cases c14 : t281 < 1
          · rw [if_pos c14] at H
            have c14b0 : decide (t281 < 1) = true := decide_eq_true c14
            clear c14
            (first | rw [c14b0] | (simp only [i64_w, i32_w]; rw [c14b0]) | skip)
            have H' := Aside0.mk H
            clear H
            go_wp2_with (first | ((with_reducible refine gate_callee (f := 41) rfl ?_); refine goesL_ (some 27) rfl rfl Try.func41 (by kernel_rfl) rfl #[.slice Ao11 t279.length co11] rfl (by (try simp only [List.map_toArray, List.map_cons, List.map_nil]); first | done | rfl | (simp only [List.length_drop, List.length_take]; rfl)) ?_; (with_reducible refine (spec_TreeOk.calls k _ _ t279 true _ ?side1 ?side2 A12.out).mono ?_); (case side1 => repeat (first | exact (Kd.R_reads' HO283.out).2.2 | (with_reducible refine Kd.C_alloc ?_ _) | (with_reducible refine Kd.C_drewN ?_ _) | (with_reducible refine Kd.C_drew ?_))); (case side2 => exact (Kd.R_reads' HO283.out).2.1); rintro e w' ⟨rfl, ⟨nd, rfl⟩⟩; refine ⟨_, rfl, ?_⟩))
            go_meet
            case rel => exact ⟨_, (true), (by first | rfl | (simp; done) | (simp [*]; done)), H', ⟨by first | omega | exact Nat.le_refl _⟩, ⟨by (with_reducible repeat (first | apply Kd.R_alloc | apply Kd.R_drewN | apply Kd.R_drew)); exact HO283.out⟩, ⟨by repeat (first | (with_reducible first | exact HB.out | apply below_alloc | apply pw_below_drewN | apply below_drew1) | exact HB.out)⟩⟩
          · rw [if_neg c14] at H
            have c14b0 : decide (t281 < 1) = false := decide_eq_false c14
            clear c14
            (first | rw [c14b0] | (simp only [i64_w, i32_w]; rw [c14b0]) | skip)
            have H' := Aside0.mk H
            clear H
            go_wp2_with (first | ((with_reducible refine gate_callee (f := 41) rfl ?_); refine goesL_ (some 27) rfl rfl Try.func41 (by kernel_rfl) rfl #[.slice Ao11 t279.length co11] rfl (by (try simp only [List.map_toArray, List.map_cons, List.map_nil]); first | done | rfl | (simp only [List.length_drop, List.length_take]; rfl)) ?_; (with_reducible refine (spec_TreeOk.calls k _ _ t279 true _ ?side1 ?side2 A12.out).mono ?_); (case side1 => repeat (first | exact (Kd.R_reads' HO283.out).2.2 | (with_reducible refine Kd.C_alloc ?_ _) | (with_reducible refine Kd.C_drewN ?_ _) | (with_reducible refine Kd.C_drew ?_))); (case side2 => exact (Kd.R_reads' HO283.out).2.1); rintro e w' ⟨rfl, ⟨nd, rfl⟩⟩; refine ⟨_, rfl, ?_⟩))
            go_meet
            case rel => exact ⟨_, (decide (t281 > (t279.length : Int))), (by first | rfl | (simp; done) | (simp [*]; done)), H', ⟨by first | omega | exact Nat.le_refl _⟩, ⟨by (with_reducible repeat (first | apply Kd.R_alloc | apply Kd.R_drewN | apply Kd.R_drew)); exact HO283.out⟩, ⟨by repeat (first | (with_reducible first | exact HB.out | apply below_alloc | apply pw_below_drewN | apply below_drew1) | exact HB.out)⟩⟩
        · replace c13 := Bool.eq_false_iff.mpr c13
          subst c13
          have H1 : (laws_FnUnderOk.j0 k t279 t280 t281 t284 true) = some r := by rw [if_neg (show ¬ (false = true) by decide)] at H; exact H
          clear H
          have H := H1
          clear H1
          have H' := Aside0.mk H
          clear H
          go_wp2_with (first | ((with_reducible refine gate_callee (f := 41) rfl ?_); refine goesL_ (some 27) rfl rfl Try.func41 (by kernel_rfl) rfl #[.slice Ao11 t279.length co11] rfl (by (try simp only [List.map_toArray, List.map_cons, List.map_nil]); first | done | rfl | (simp only [List.length_drop, List.length_take]; rfl)) ?_; (with_reducible refine (spec_TreeOk.calls k _ _ t279 false _ ?side1 ?side2 A12.out).mono ?_); (case side1 => repeat (first | exact (Kd.R_reads' HO283.out).2.2 | (with_reducible refine Kd.C_alloc ?_ _) | (with_reducible refine Kd.C_drewN ?_ _) | (with_reducible refine Kd.C_drew ?_))); (case side2 => exact (Kd.R_reads' HO283.out).2.1); rintro e w' ⟨rfl, ⟨nd, rfl⟩⟩; refine ⟨_, rfl, ?_⟩))
          go_meet
          case rel => exact ⟨_, (true), (by first | rfl | (simp; done) | (simp [*]; done)), H', ⟨by first | omega | exact Nat.le_refl _⟩, ⟨by (with_reducible repeat (first | apply Kd.R_alloc | apply Kd.R_drewN | apply Kd.R_drew)); exact HO283.out⟩, ⟨by repeat (first | (with_reducible first | exact HB.out | apply below_alloc | apply pw_below_drewN | apply below_drew1) | exact HB.out)⟩⟩
      case rest =>
        clear HC9
        try clear c1
        try clear c2
        try clear c2b0
        try clear c2b1
        try clear p2
        try clear c3
        try clear c4
        try clear c6
        try clear c6b0
        try clear c6b1
        try clear c6b2
        try clear c10
        try clear c13
        try clear c14
        try clear c14b0
        obtain ⟨kq, x38_8, rfl, HA, HJ8, HO_3, HB⟩ := hcut
        cases kq with
        | zero => exact absurd HA.out (by simp [laws_FnUnderOk.j0])
        | succ kj8 =>
          have H := HA.out
          clear HA
          simp only [laws_FnUnderOk.j0] at H
          by_cases c15 : x38_8 = true
          · subst c15
            have H1 : (if t284 = true then (some false) else ((laws_alive.f kj8).bind fun t287 => (some t287))) = some r := by rw [if_pos rfl] at H; exact H
            clear H
            have H := H1
            clear H1
            by_cases c16 : t284 = true
            · subst c16
              have H1 : (some false) = some r := by rw [if_pos rfl] at H; exact H
              clear H
              have H := H1
              clear H1
              obtain rfl := Option.some.inj H
              go_wp2
              go_ret
              exact ⟨by first | rfl | (simp [errW_none, errW_some] <;> rfl) | (simp [*, errW_none, errW_some] <;> rfl), by repeat (first | (with_reducible first | exact HB.out | apply below_alloc | apply pw_below_drewN | apply below_drew1) | exact HB.out)⟩
            · replace c16 := Bool.eq_false_iff.mpr c16
              subst c16
              have H1 : ((laws_alive.f kj8).bind fun t287 => (some t287)) = some r := by rw [if_neg (show ¬ (false = true) by decide)] at H; exact H
              clear H
              have H := H1
              clear H1
              replace H := Option.bind_eq_some_iff.mp H
              obtain ⟨t287, A170, H⟩ := H
              replace H : (some t287) = some r := H
              have A17 := Aside0.mk A170
              clear A170
              obtain rfl := Option.some.inj H
              go_wp2_with (first | (go_at_call 32; (with_reducible refine (laws_alive.calls kj8  t287 _ A17.out).mono ?_); rintro e w18 ⟨rfl, hb⟩; have n0_ := Aside0.mk (Kd.R_below (by (with_reducible repeat (first | apply Kd.R_alloc | apply Kd.R_drewN | apply Kd.R_drew)); exact HO_3.out) hb); have n1_ := Aside0.mk (below_step (by repeat (first | (with_reducible first | exact HB.out | apply below_alloc | apply pw_below_drewN | apply below_drew1) | exact HB.out)) hb); clear HO_3; clear HB; have HO_3 := n0_; have HB := n1_; clear n0_ n1_; (try clear hb); (try clear hb2); (try clear hk); (try clear hi)))
              go_ret
              exact ⟨by first | rfl | (simp [errW_none, errW_some] <;> rfl) | (simp [*, errW_none, errW_some] <;> rfl), by repeat (first | (with_reducible first | exact HB.out | apply below_alloc | apply pw_below_drewN | apply below_drew1) | exact HB.out)⟩
          · replace c15 := Bool.eq_false_iff.mpr c15
            subst c15
            have H1 : ((impl_UnderOk.f kj8 t279 t280 t280).bind fun t288 => (if t288 = true then ((impl_RootOf.f kj8 t279).bind fun t289 => ((impl_UnderOk.f kj8 t279 t280 t289).bind fun t290 => (if t290 = true then (if t284 = true then ((impl_UnderOk.f kj8 t279 t281 t280).bind fun t291 => (if t291 = true then (if t280 = t281 then (if 0 ≤ (wrap64 (t280 - 1)) then (if (wrap64 (t280 - 1)) < (t279.length : Int) then (if (rd t279 (wrap64 (t280 - 1))) = 0 then (some true) else ((impl_UnderOk.f kj8 t279 t280 (rd t279 (wrap64 (t280 - 1)))).bind fun t294 => (some t294))) else (none)) else (none)) else (some false)) else (if 0 ≤ (wrap64 (t280 - 1)) then (if (wrap64 (t280 - 1)) < (t279.length : Int) then (if (rd t279 (wrap64 (t280 - 1))) = 0 then (some true) else ((impl_UnderOk.f kj8 t279 t280 (rd t279 (wrap64 (t280 - 1)))).bind fun t297 => (some t297))) else (none)) else (none)))) else (if 0 ≤ (wrap64 (t280 - 1)) then (if (wrap64 (t280 - 1)) < (t279.length : Int) then (if (rd t279 (wrap64 (t280 - 1))) = 0 then (some true) else ((impl_UnderOk.f kj8 t279 t280 (rd t279 (wrap64 (t280 - 1)))).bind fun t300 => (some t300))) else (none)) else (none))) else (some false)))) else (some false))) = some r := by rw [if_neg (show ¬ (false = true) by decide)] at H; exact H
            clear H
            have H := H1
            clear H1
            replace H := Option.bind_eq_some_iff.mp H
            obtain ⟨t288, A190, H⟩ := H
            replace H : (if t288 = true then ((impl_RootOf.f kj8 t279).bind fun t289 => ((impl_UnderOk.f kj8 t279 t280 t289).bind fun t290 => (if t290 = true then (if t284 = true then ((impl_UnderOk.f kj8 t279 t281 t280).bind fun t291 => (if t291 = true then (if t280 = t281 then (if 0 ≤ (wrap64 (t280 - 1)) then (if (wrap64 (t280 - 1)) < (t279.length : Int) then (if (rd t279 (wrap64 (t280 - 1))) = 0 then (some true) else ((impl_UnderOk.f kj8 t279 t280 (rd t279 (wrap64 (t280 - 1)))).bind fun t294 => (some t294))) else (none)) else (none)) else (some false)) else (if 0 ≤ (wrap64 (t280 - 1)) then (if (wrap64 (t280 - 1)) < (t279.length : Int) then (if (rd t279 (wrap64 (t280 - 1))) = 0 then (some true) else ((impl_UnderOk.f kj8 t279 t280 (rd t279 (wrap64 (t280 - 1)))).bind fun t297 => (some t297))) else (none)) else (none)))) else (if 0 ≤ (wrap64 (t280 - 1)) then (if (wrap64 (t280 - 1)) < (t279.length : Int) then (if (rd t279 (wrap64 (t280 - 1))) = 0 then (some true) else ((impl_UnderOk.f kj8 t279 t280 (rd t279 (wrap64 (t280 - 1)))).bind fun t300 => (some t300))) else (none)) else (none))) else (some false)))) else (some false)) = some r := H
            have A19 := Aside0.mk A190
            clear A190
            by_cases c20 : t288 = true
            · subst c20
              have H1 : ((impl_RootOf.f kj8 t279).bind fun t289 => ((impl_UnderOk.f kj8 t279 t280 t289).bind fun t290 => (if t290 = true then (if t284 = true then ((impl_UnderOk.f kj8 t279 t281 t280).bind fun t291 => (if t291 = true then (if t280 = t281 then (if 0 ≤ (wrap64 (t280 - 1)) then (if (wrap64 (t280 - 1)) < (t279.length : Int) then (if (rd t279 (wrap64 (t280 - 1))) = 0 then (some true) else ((impl_UnderOk.f kj8 t279 t280 (rd t279 (wrap64 (t280 - 1)))).bind fun t294 => (some t294))) else (none)) else (none)) else (some false)) else (if 0 ≤ (wrap64 (t280 - 1)) then (if (wrap64 (t280 - 1)) < (t279.length : Int) then (if (rd t279 (wrap64 (t280 - 1))) = 0 then (some true) else ((impl_UnderOk.f kj8 t279 t280 (rd t279 (wrap64 (t280 - 1)))).bind fun t297 => (some t297))) else (none)) else (none)))) else (if 0 ≤ (wrap64 (t280 - 1)) then (if (wrap64 (t280 - 1)) < (t279.length : Int) then (if (rd t279 (wrap64 (t280 - 1))) = 0 then (some true) else ((impl_UnderOk.f kj8 t279 t280 (rd t279 (wrap64 (t280 - 1)))).bind fun t300 => (some t300))) else (none)) else (none))) else (some false)))) = some r := by rw [if_pos rfl] at H; exact H
              clear H
              have H := H1
              clear H1
              replace H := Option.bind_eq_some_iff.mp H
              obtain ⟨t289, A210, H⟩ := H
              replace H : ((impl_UnderOk.f kj8 t279 t280 t289).bind fun t290 => (if t290 = true then (if t284 = true then ((impl_UnderOk.f kj8 t279 t281 t280).bind fun t291 => (if t291 = true then (if t280 = t281 then (if 0 ≤ (wrap64 (t280 - 1)) then (if (wrap64 (t280 - 1)) < (t279.length : Int) then (if (rd t279 (wrap64 (t280 - 1))) = 0 then (some true) else ((impl_UnderOk.f kj8 t279 t280 (rd t279 (wrap64 (t280 - 1)))).bind fun t294 => (some t294))) else (none)) else (none)) else (some false)) else (if 0 ≤ (wrap64 (t280 - 1)) then (if (wrap64 (t280 - 1)) < (t279.length : Int) then (if (rd t279 (wrap64 (t280 - 1))) = 0 then (some true) else ((impl_UnderOk.f kj8 t279 t280 (rd t279 (wrap64 (t280 - 1)))).bind fun t297 => (some t297))) else (none)) else (none)))) else (if 0 ≤ (wrap64 (t280 - 1)) then (if (wrap64 (t280 - 1)) < (t279.length : Int) then (if (rd t279 (wrap64 (t280 - 1))) = 0 then (some true) else ((impl_UnderOk.f kj8 t279 t280 (rd t279 (wrap64 (t280 - 1)))).bind fun t300 => (some t300))) else (none)) else (none))) else (some false))) = some r := H
              have A21 := Aside0.mk A210
              clear A210
              replace H := Option.bind_eq_some_iff.mp H
              obtain ⟨t290, A220, H⟩ := H
              replace H : (if t290 = true then (if t284 = true then ((impl_UnderOk.f kj8 t279 t281 t280).bind fun t291 => (if t291 = true then (if t280 = t281 then (if 0 ≤ (wrap64 (t280 - 1)) then (if (wrap64 (t280 - 1)) < (t279.length : Int) then (if (rd t279 (wrap64 (t280 - 1))) = 0 then (some true) else ((impl_UnderOk.f kj8 t279 t280 (rd t279 (wrap64 (t280 - 1)))).bind fun t294 => (some t294))) else (none)) else (none)) else (some false)) else (if 0 ≤ (wrap64 (t280 - 1)) then (if (wrap64 (t280 - 1)) < (t279.length : Int) then (if (rd t279 (wrap64 (t280 - 1))) = 0 then (some true) else ((impl_UnderOk.f kj8 t279 t280 (rd t279 (wrap64 (t280 - 1)))).bind fun t297 => (some t297))) else (none)) else (none)))) else (if 0 ≤ (wrap64 (t280 - 1)) then (if (wrap64 (t280 - 1)) < (t279.length : Int) then (if (rd t279 (wrap64 (t280 - 1))) = 0 then (some true) else ((impl_UnderOk.f kj8 t279 t280 (rd t279 (wrap64 (t280 - 1)))).bind fun t300 => (some t300))) else (none)) else (none))) else (some false)) = some r := H
              have A22 := Aside0.mk A220
              clear A220
              by_cases c23 : t290 = true
              · subst c23
                have H1 : (if t284 = true then ((impl_UnderOk.f kj8 t279 t281 t280).bind fun t291 => (if t291 = true then (if t280 = t281 then (if 0 ≤ (wrap64 (t280 - 1)) then (if (wrap64 (t280 - 1)) < (t279.length : Int) then (if (rd t279 (wrap64 (t280 - 1))) = 0 then (some true) else ((impl_UnderOk.f kj8 t279 t280 (rd t279 (wrap64 (t280 - 1)))).bind fun t294 => (some t294))) else (none)) else (none)) else (some false)) else (if 0 ≤ (wrap64 (t280 - 1)) then (if (wrap64 (t280 - 1)) < (t279.length : Int) then (if (rd t279 (wrap64 (t280 - 1))) = 0 then (some true) else ((impl_UnderOk.f kj8 t279 t280 (rd t279 (wrap64 (t280 - 1)))).bind fun t297 => (some t297))) else (none)) else (none)))) else (if 0 ≤ (wrap64 (t280 - 1)) then (if (wrap64 (t280 - 1)) < (t279.length : Int) then (if (rd t279 (wrap64 (t280 - 1))) = 0 then (some true) else ((impl_UnderOk.f kj8 t279 t280 (rd t279 (wrap64 (t280 - 1)))).bind fun t300 => (some t300))) else (none)) else (none))) = some r := by rw [if_pos rfl] at H; exact H
                clear H
                have H := H1
                clear H1
                by_cases c24 : t284 = true
                · subst c24
                  have H1 : ((impl_UnderOk.f kj8 t279 t281 t280).bind fun t291 => (if t291 = true then (if t280 = t281 then (if 0 ≤ (wrap64 (t280 - 1)) then (if (wrap64 (t280 - 1)) < (t279.length : Int) then (if (rd t279 (wrap64 (t280 - 1))) = 0 then (some true) else ((impl_UnderOk.f kj8 t279 t280 (rd t279 (wrap64 (t280 - 1)))).bind fun t294 => (some t294))) else (none)) else (none)) else (some false)) else (if 0 ≤ (wrap64 (t280 - 1)) then (if (wrap64 (t280 - 1)) < (t279.length : Int) then (if (rd t279 (wrap64 (t280 - 1))) = 0 then (some true) else ((impl_UnderOk.f kj8 t279 t280 (rd t279 (wrap64 (t280 - 1)))).bind fun t297 => (some t297))) else (none)) else (none)))) = some r := by rw [if_pos rfl] at H; exact H
                  clear H
                  have H := H1
                  clear H1
                  replace H := Option.bind_eq_some_iff.mp H
                  obtain ⟨t291, A250, H⟩ := H
                  replace H : (if t291 = true then (if t280 = t281 then (if 0 ≤ (wrap64 (t280 - 1)) then (if (wrap64 (t280 - 1)) < (t279.length : Int) then (if (rd t279 (wrap64 (t280 - 1))) = 0 then (some true) else ((impl_UnderOk.f kj8 t279 t280 (rd t279 (wrap64 (t280 - 1)))).bind fun t294 => (some t294))) else (none)) else (none)) else (some false)) else (if 0 ≤ (wrap64 (t280 - 1)) then (if (wrap64 (t280 - 1)) < (t279.length : Int) then (if (rd t279 (wrap64 (t280 - 1))) = 0 then (some true) else ((impl_UnderOk.f kj8 t279 t280 (rd t279 (wrap64 (t280 - 1)))).bind fun t297 => (some t297))) else (none)) else (none))) = some r := H
                  have A25 := Aside0.mk A250
                  clear A250
                  by_cases c26 : t291 = true
                  · subst c26
                    have H1 : (if t280 = t281 then (if 0 ≤ (wrap64 (t280 - 1)) then (if (wrap64 (t280 - 1)) < (t279.length : Int) then (if (rd t279 (wrap64 (t280 - 1))) = 0 then (some true) else ((impl_UnderOk.f kj8 t279 t280 (rd t279 (wrap64 (t280 - 1)))).bind fun t294 => (some t294))) else (none)) else (none)) else (some false)) = some r := by rw [if_pos rfl] at H; exact H
                    clear H
                    have H := H1
                    clear H1
                    by_cases c27 : t280 = t281
                    · rw [if_pos c27] at H
                      have c27b0 : (t280 == t281) = true := beq_iff_eq.mpr c27
                      have c27b1 : (t280 != t281) = false := bne_eq_false_iff_eq.mpr c27
                      clear c27
                      obtain ⟨ji28, hji28⟩ : ∃ j_ : Int, (wrap64 (t280 - 1)) = j_ := ⟨_, rfl⟩
                      replace H : (if 0 ≤ (ji28) then (if (ji28) < (t279.length : Int) then (if (rd t279 (ji28)) = 0 then (some true) else ((impl_UnderOk.f kj8 t279 t280 (rd t279 (ji28))).bind fun t294 => (some t294))) else (none)) else (none)) = some r := by first | (rw [hji28] at H; exact H) | (simp only [hji28] at H ⊢; exact H)
                      (try rw [hji28] at A19)
                      (try rw [hji28] at A21)
                      (try rw [hji28] at A22)
                      (try rw [hji28] at A25)
                      have hji28w : (IntKind.i64.wrap (t280 - 1)) = ji28 := (i64_w _).trans hji28
                      by_cases c29 : 0 ≤ (ji28)
                      · rw [if_pos c29] at H
                        have c29b0 : decide (0 ≤ (ji28)) = true := decide_eq_true c29
                        clear c29
                        by_cases c30 : (ji28) < (t279.length : Int)
                        · rw [if_pos c30] at H
                          have c30b0 : decide ((ji28) < (t279.length : Int)) = true := decide_eq_true c30
                          clear c30
                          by_cases c31 : (rd t279 (ji28)) = 0
                          · rw [if_pos c31] at H
                            have c31b0 : ((rd t279 (ji28)) == 0) = true := beq_iff_eq.mpr c31
                            have c31b1 : ((rd t279 (ji28)) != 0) = false := bne_eq_false_iff_eq.mpr c31
                            clear c31
                            obtain rfl := Option.some.inj H
                            go_wp2_with (first | ((with_reducible refine gate_callee (f := 39) rfl ?_); refine goesL_ (some 47) rfl rfl Try.func39 (by kernel_rfl) rfl #[.slice Ao11 t279.length co11, .int .i64 t280, .int .i64 t280] rfl (by (try simp only [List.map_toArray, List.map_cons, List.map_nil]); first | done | rfl | (simp only [List.length_drop, List.length_take]; rfl)) ?_; (with_reducible refine (impl_UnderOk.calls kj8 _ _ t279 t280 t280 true _ ?side1 ?side2 A19.out).mono ?_); (case side1 => repeat (first | exact (Kd.R_reads' HO_3.out).2.2 | (with_reducible refine Kd.C_alloc ?_ _) | (with_reducible refine Kd.C_drewN ?_ _) | (with_reducible refine Kd.C_drew ?_))); (case side2 => exact (Kd.R_reads' HO_3.out).2.1); rintro e w' ⟨rfl, ⟨nd, rfl⟩⟩; refine ⟨_, rfl, ?_⟩) | (go_at_call 34; (with_reducible refine (impl_RootOf.calls kj8 _ _ t279 t289 _ ?side1 ?side2 A21.out).mono ?_); (case side1 => repeat (first | exact (Kd.R_reads' HO_3.out).2.2 | (with_reducible refine Kd.C_alloc ?_ _) | (with_reducible refine Kd.C_drewN ?_ _) | (with_reducible refine Kd.C_drew ?_))); (case side2 => exact (Kd.R_reads' HO_3.out).2.1); rintro e w' ⟨rfl, ⟨nd, rfl⟩⟩) | (go_at_call 39; (with_reducible refine (impl_UnderOk.calls kj8 _ _ t279 t280 t289 true _ ?side1 ?side2 A22.out).mono ?_); (case side1 => repeat (first | exact (Kd.R_reads' HO_3.out).2.2 | (with_reducible refine Kd.C_alloc ?_ _) | (with_reducible refine Kd.C_drewN ?_ _) | (with_reducible refine Kd.C_drew ?_))); (case side2 => exact (Kd.R_reads' HO_3.out).2.1); rintro e w' ⟨rfl, ⟨nd, rfl⟩⟩) | (go_at_call 39; (with_reducible refine (impl_UnderOk.calls kj8 _ _ t279 t281 t280 true _ ?side1 ?side2 A25.out).mono ?_); (case side1 => repeat (first | exact (Kd.R_reads' HO_3.out).2.2 | (with_reducible refine Kd.C_alloc ?_ _) | (with_reducible refine Kd.C_drewN ?_ _) | (with_reducible refine Kd.C_drew ?_))); (case side2 => exact (Kd.R_reads' HO_3.out).2.1); rintro e w' ⟨rfl, ⟨nd, rfl⟩⟩; have p292 : 0 ≤ ((ji28) : Int) := of_decide_eq_true (by first | (with_reducible assumption) | assumption); have q292 : (ji28) < (t279.length : Int) := of_decide_eq_true (by first | (with_reducible assumption) | assumption); obtain ⟨ad292, e292, hx292_0⟩ := Kd.at_int (Kd.R_reads' HO_3.out).2.2 (ji28) p292 q292; cases e292; replace p292 := eq_true p292; replace q292 := eq_true q292))
                            go_ret
                            exact ⟨by first | rfl | (simp [errW_none, errW_some] <;> rfl) | (simp only [← hji28]; first | rfl | (simp [errW_none, errW_some] <;> rfl)) | (simp [*, errW_none, errW_some] <;> rfl), by repeat (first | (with_reducible first | exact HB.out | apply below_alloc | apply pw_below_drewN | apply below_drew1) | exact HB.out)⟩
                          · rw [if_neg c31] at H
                            have c31b0 : ((rd t279 (ji28)) == 0) = false := beq_eq_false_iff_ne.mpr c31
                            have c31b1 : ((rd t279 (ji28)) != 0) = true := bne_iff_ne.mpr c31
                            replace H := Option.bind_eq_some_iff.mp H
                            obtain ⟨t294, A320, H⟩ := H
                            replace H : (some t294) = some r := H
                            have A32 := Aside0.mk A320
                            clear A320
                            obtain rfl := Option.some.inj H
                            go_wp2_with (first | ((with_reducible refine gate_callee (f := 39) rfl ?_); refine goesL_ (some 47) rfl rfl Try.func39 (by kernel_rfl) rfl #[.slice Ao11 t279.length co11, .int .i64 t280, .int .i64 t280] rfl (by (try simp only [List.map_toArray, List.map_cons, List.map_nil]); first | done | rfl | (simp only [List.length_drop, List.length_take]; rfl)) ?_; (with_reducible refine (impl_UnderOk.calls kj8 _ _ t279 t280 t280 true _ ?side1 ?side2 A19.out).mono ?_); (case side1 => repeat (first | exact (Kd.R_reads' HO_3.out).2.2 | (with_reducible refine Kd.C_alloc ?_ _) | (with_reducible refine Kd.C_drewN ?_ _) | (with_reducible refine Kd.C_drew ?_))); (case side2 => exact (Kd.R_reads' HO_3.out).2.1); rintro e w' ⟨rfl, ⟨nd, rfl⟩⟩; refine ⟨_, rfl, ?_⟩) | (go_at_call 34; (with_reducible refine (impl_RootOf.calls kj8 _ _ t279 t289 _ ?side1 ?side2 A21.out).mono ?_); (case side1 => repeat (first | exact (Kd.R_reads' HO_3.out).2.2 | (with_reducible refine Kd.C_alloc ?_ _) | (with_reducible refine Kd.C_drewN ?_ _) | (with_reducible refine Kd.C_drew ?_))); (case side2 => exact (Kd.R_reads' HO_3.out).2.1); rintro e w' ⟨rfl, ⟨nd, rfl⟩⟩) | (go_at_call 39; (with_reducible refine (impl_UnderOk.calls kj8 _ _ t279 t280 t289 true _ ?side1 ?side2 A22.out).mono ?_); (case side1 => repeat (first | exact (Kd.R_reads' HO_3.out).2.2 | (with_reducible refine Kd.C_alloc ?_ _) | (with_reducible refine Kd.C_drewN ?_ _) | (with_reducible refine Kd.C_drew ?_))); (case side2 => exact (Kd.R_reads' HO_3.out).2.1); rintro e w' ⟨rfl, ⟨nd, rfl⟩⟩) | (go_at_call 39; (with_reducible refine (impl_UnderOk.calls kj8 _ _ t279 t281 t280 true _ ?side1 ?side2 A25.out).mono ?_); (case side1 => repeat (first | exact (Kd.R_reads' HO_3.out).2.2 | (with_reducible refine Kd.C_alloc ?_ _) | (with_reducible refine Kd.C_drewN ?_ _) | (with_reducible refine Kd.C_drew ?_))); (case side2 => exact (Kd.R_reads' HO_3.out).2.1); rintro e w' ⟨rfl, ⟨nd, rfl⟩⟩; have p292 : 0 ≤ ((ji28) : Int) := of_decide_eq_true (by first | (with_reducible assumption) | assumption); have q292 : (ji28) < (t279.length : Int) := of_decide_eq_true (by first | (with_reducible assumption) | assumption); obtain ⟨ad292, e292, hx292_0⟩ := Kd.at_int (Kd.R_reads' HO_3.out).2.2 (ji28) p292 q292; cases e292; replace p292 := eq_true p292; replace q292 := eq_true q292; have p293 : 0 ≤ ((ji28) : Int) := of_decide_eq_true (by first | (with_reducible assumption) | assumption); have q293 : (ji28) < (t279.length : Int) := of_decide_eq_true (by first | (with_reducible assumption) | assumption); obtain ⟨ad293, e293, hx293_0⟩ := Kd.at_int (Kd.R_reads' HO_3.out).2.2 (ji28) p293 q293; obtain rfl : ad292 = ad293 := (by injection e293); replace p293 := eq_true p293; replace q293 := eq_true q293) | (go_at_call 39; (with_reducible refine (impl_UnderOk.calls kj8 _ _ t279 t280 (rd t279 (ji28)) t294 _ ?side1 ?side2 A32.out).mono ?_); (case side1 => repeat (first | exact (Kd.R_reads' HO_3.out).2.2 | (with_reducible refine Kd.C_alloc ?_ _) | (with_reducible refine Kd.C_drewN ?_ _) | (with_reducible refine Kd.C_drew ?_))); (case side2 => exact (Kd.R_reads' HO_3.out).2.1); rintro e w' ⟨rfl, ⟨nd, rfl⟩⟩))
                            go_ret
                            exact ⟨by first | rfl | (simp [errW_none, errW_some] <;> rfl) | (simp only [← hji28]; first | rfl | (simp [errW_none, errW_some] <;> rfl)) | (simp [*, errW_none, errW_some] <;> rfl), by repeat (first | (with_reducible first | exact HB.out | apply below_alloc | apply pw_below_drewN | apply below_drew1) | exact HB.out)⟩
                        · rw [if_neg c30] at H
                          exact absurd H (by simp)
                      · rw [if_neg c29] at H
                        exact absurd H (by simp)
                    · rw [if_neg c27] at H
                      have c27b0 : (t280 == t281) = false := beq_eq_false_iff_ne.mpr c27
                      have c27b1 : (t280 != t281) = true := bne_iff_ne.mpr c27
                      obtain rfl := Option.some.inj H
                      go_wp2_with (first | ((with_reducible refine gate_callee (f := 39) rfl ?_); refine goesL_ (some 47) rfl rfl Try.func39 (by kernel_rfl) rfl #[.slice Ao11 t279.length co11, .int .i64 t280, .int .i64 t280] rfl (by (try simp only [List.map_toArray, List.map_cons, List.map_nil]); first | done | rfl | (simp only [List.length_drop, List.length_take]; rfl)) ?_; (with_reducible refine (impl_UnderOk.calls kj8 _ _ t279 t280 t280 true _ ?side1 ?side2 A19.out).mono ?_); (case side1 => repeat (first | exact (Kd.R_reads' HO_3.out).2.2 | (with_reducible refine Kd.C_alloc ?_ _) | (with_reducible refine Kd.C_drewN ?_ _) | (with_reducible refine Kd.C_drew ?_))); (case side2 => exact (Kd.R_reads' HO_3.out).2.1); rintro e w' ⟨rfl, ⟨nd, rfl⟩⟩; refine ⟨_, rfl, ?_⟩) | (go_at_call 34; (with_reducible refine (impl_RootOf.calls kj8 _ _ t279 t289 _ ?side1 ?side2 A21.out).mono ?_); (case side1 => repeat (first | exact (Kd.R_reads' HO_3.out).2.2 | (with_reducible refine Kd.C_alloc ?_ _) | (with_reducible refine Kd.C_drewN ?_ _) | (with_reducible refine Kd.C_drew ?_))); (case side2 => exact (Kd.R_reads' HO_3.out).2.1); rintro e w' ⟨rfl, ⟨nd, rfl⟩⟩) | (go_at_call 39; (with_reducible refine (impl_UnderOk.calls kj8 _ _ t279 t280 t289 true _ ?side1 ?side2 A22.out).mono ?_); (case side1 => repeat (first | exact (Kd.R_reads' HO_3.out).2.2 | (with_reducible refine Kd.C_alloc ?_ _) | (with_reducible refine Kd.C_drewN ?_ _) | (with_reducible refine Kd.C_drew ?_))); (case side2 => exact (Kd.R_reads' HO_3.out).2.1); rintro e w' ⟨rfl, ⟨nd, rfl⟩⟩) | (go_at_call 39; (with_reducible refine (impl_UnderOk.calls kj8 _ _ t279 t281 t280 true _ ?side1 ?side2 A25.out).mono ?_); (case side1 => repeat (first | exact (Kd.R_reads' HO_3.out).2.2 | (with_reducible refine Kd.C_alloc ?_ _) | (with_reducible refine Kd.C_drewN ?_ _) | (with_reducible refine Kd.C_drew ?_))); (case side2 => exact (Kd.R_reads' HO_3.out).2.1); rintro e w' ⟨rfl, ⟨nd, rfl⟩⟩))
                      go_ret
                      exact ⟨by first | rfl | (simp [errW_none, errW_some] <;> rfl) | (simp [*, errW_none, errW_some] <;> rfl), by repeat (first | (with_reducible first | exact HB.out | apply below_alloc | apply pw_below_drewN | apply below_drew1) | exact HB.out)⟩
                  · replace c26 := Bool.eq_false_iff.mpr c26
                    subst c26
                    have H1 : (if 0 ≤ (wrap64 (t280 - 1)) then (if (wrap64 (t280 - 1)) < (t279.length : Int) then (if (rd t279 (wrap64 (t280 - 1))) = 0 then (some true) else ((impl_UnderOk.f kj8 t279 t280 (rd t279 (wrap64 (t280 - 1)))).bind fun t297 => (some t297))) else (none)) else (none)) = some r := by rw [if_neg (show ¬ (false = true) by decide)] at H; exact H
                    clear H
                    have H := H1
                    clear H1
                    obtain ⟨ji33, hji33⟩ : ∃ j_ : Int, (wrap64 (t280 - 1)) = j_ := ⟨_, rfl⟩
                    replace H : (if 0 ≤ (ji33) then (if (ji33) < (t279.length : Int) then (if (rd t279 (ji33)) = 0 then (some true) else ((impl_UnderOk.f kj8 t279 t280 (rd t279 (ji33))).bind fun t297 => (some t297))) else (none)) else (none)) = some r := by first | (rw [hji33] at H; exact H) | (simp only [hji33] at H ⊢; exact H)
                    (try rw [hji33] at A19)
                    (try rw [hji33] at A21)
                    (try rw [hji33] at A22)
                    (try rw [hji33] at A25)
                    have hji33w : (IntKind.i64.wrap (t280 - 1)) = ji33 := (i64_w _).trans hji33
                    by_cases c34 : 0 ≤ (ji33)
                    · rw [if_pos c34] at H
                      have c34b0 : decide (0 ≤ (ji33)) = true := decide_eq_true c34
                      clear c34
                      by_cases c35 : (ji33) < (t279.length : Int)
                      · rw [if_pos c35] at H
                        have c35b0 : decide ((ji33) < (t279.length : Int)) = true := decide_eq_true c35
                        clear c35
                        by_cases c36 : (rd t279 (ji33)) = 0
                        · rw [if_pos c36] at H
                          have c36b0 : ((rd t279 (ji33)) == 0) = true := beq_iff_eq.mpr c36
                          have c36b1 : ((rd t279 (ji33)) != 0) = false := bne_eq_false_iff_eq.mpr c36
                          clear c36
                          obtain rfl := Option.some.inj H
                          go_wp2_with (first | ((with_reducible refine gate_callee (f := 39) rfl ?_); refine goesL_ (some 47) rfl rfl Try.func39 (by kernel_rfl) rfl #[.slice Ao11 t279.length co11, .int .i64 t280, .int .i64 t280] rfl (by (try simp only [List.map_toArray, List.map_cons, List.map_nil]); first | done | rfl | (simp only [List.length_drop, List.length_take]; rfl)) ?_; (with_reducible refine (impl_UnderOk.calls kj8 _ _ t279 t280 t280 true _ ?side1 ?side2 A19.out).mono ?_); (case side1 => repeat (first | exact (Kd.R_reads' HO_3.out).2.2 | (with_reducible refine Kd.C_alloc ?_ _) | (with_reducible refine Kd.C_drewN ?_ _) | (with_reducible refine Kd.C_drew ?_))); (case side2 => exact (Kd.R_reads' HO_3.out).2.1); rintro e w' ⟨rfl, ⟨nd, rfl⟩⟩; refine ⟨_, rfl, ?_⟩) | (go_at_call 34; (with_reducible refine (impl_RootOf.calls kj8 _ _ t279 t289 _ ?side1 ?side2 A21.out).mono ?_); (case side1 => repeat (first | exact (Kd.R_reads' HO_3.out).2.2 | (with_reducible refine Kd.C_alloc ?_ _) | (with_reducible refine Kd.C_drewN ?_ _) | (with_reducible refine Kd.C_drew ?_))); (case side2 => exact (Kd.R_reads' HO_3.out).2.1); rintro e w' ⟨rfl, ⟨nd, rfl⟩⟩) | (go_at_call 39; (with_reducible refine (impl_UnderOk.calls kj8 _ _ t279 t280 t289 true _ ?side1 ?side2 A22.out).mono ?_); (case side1 => repeat (first | exact (Kd.R_reads' HO_3.out).2.2 | (with_reducible refine Kd.C_alloc ?_ _) | (with_reducible refine Kd.C_drewN ?_ _) | (with_reducible refine Kd.C_drew ?_))); (case side2 => exact (Kd.R_reads' HO_3.out).2.1); rintro e w' ⟨rfl, ⟨nd, rfl⟩⟩) | (go_at_call 39; (with_reducible refine (impl_UnderOk.calls kj8 _ _ t279 t281 t280 false _ ?side1 ?side2 A25.out).mono ?_); (case side1 => repeat (first | exact (Kd.R_reads' HO_3.out).2.2 | (with_reducible refine Kd.C_alloc ?_ _) | (with_reducible refine Kd.C_drewN ?_ _) | (with_reducible refine Kd.C_drew ?_))); (case side2 => exact (Kd.R_reads' HO_3.out).2.1); rintro e w' ⟨rfl, ⟨nd, rfl⟩⟩; have p295 : 0 ≤ ((ji33) : Int) := of_decide_eq_true (by first | (with_reducible assumption) | assumption); have q295 : (ji33) < (t279.length : Int) := of_decide_eq_true (by first | (with_reducible assumption) | assumption); obtain ⟨ad295, e295, hx295_0⟩ := Kd.at_int (Kd.R_reads' HO_3.out).2.2 (ji33) p295 q295; cases e295; replace p295 := eq_true p295; replace q295 := eq_true q295))
                          go_ret
                          exact ⟨by first | rfl | (simp [errW_none, errW_some] <;> rfl) | (simp only [← hji33]; first | rfl | (simp [errW_none, errW_some] <;> rfl)) | (simp [*, errW_none, errW_some] <;> rfl), by repeat (first | (with_reducible first | exact HB.out | apply below_alloc | apply pw_below_drewN | apply below_drew1) | exact HB.out)⟩
                        · rw [if_neg c36] at H
                          have c36b0 : ((rd t279 (ji33)) == 0) = false := beq_eq_false_iff_ne.mpr c36
                          have c36b1 : ((rd t279 (ji33)) != 0) = true := bne_iff_ne.mpr c36
                          replace H := Option.bind_eq_some_iff.mp H
                          obtain ⟨t297, A370, H⟩ := H
                          replace H : (some t297) = some r := H
                          have A37 := Aside0.mk A370
                          clear A370
                          obtain rfl := Option.some.inj H
                          go_wp2_with (first | ((with_reducible refine gate_callee (f := 39) rfl ?_); refine goesL_ (some 47) rfl rfl Try.func39 (by kernel_rfl) rfl #[.slice Ao11 t279.length co11, .int .i64 t280, .int .i64 t280] rfl (by (try simp only [List.map_toArray, List.map_cons, List.map_nil]); first | done | rfl | (simp only [List.length_drop, List.length_take]; rfl)) ?_; (with_reducible refine (impl_UnderOk.calls kj8 _ _ t279 t280 t280 true _ ?side1 ?side2 A19.out).mono ?_); (case side1 => repeat (first | exact (Kd.R_reads' HO_3.out).2.2 | (with_reducible refine Kd.C_alloc ?_ _) | (with_reducible refine Kd.C_drewN ?_ _) | (with_reducible refine Kd.C_drew ?_))); (case side2 => exact (Kd.R_reads' HO_3.out).2.1); rintro e w' ⟨rfl, ⟨nd, rfl⟩⟩; refine ⟨_, rfl, ?_⟩) | (go_at_call 34; (with_reducible refine (impl_RootOf.calls kj8 _ _ t279 t289 _ ?side1 ?side2 A21.out).mono ?_); (case side1 => repeat (first | exact (Kd.R_reads' HO_3.out).2.2 | (with_reducible refine Kd.C_alloc ?_ _) | (with_reducible refine Kd.C_drewN ?_ _) | (with_reducible refine Kd.C_drew ?_))); (case side2 => exact (Kd.R_reads' HO_3.out).2.1); rintro e w' ⟨rfl, ⟨nd, rfl⟩⟩) | (go_at_call 39; (with_reducible refine (impl_UnderOk.calls kj8 _ _ t279 t280 t289 true _ ?side1 ?side2 A22.out).mono ?_); (case side1 => repeat (first | exact (Kd.R_reads' HO_3.out).2.2 | (with_reducible refine Kd.C_alloc ?_ _) | (with_reducible refine Kd.C_drewN ?_ _) | (with_reducible refine Kd.C_drew ?_))); (case side2 => exact (Kd.R_reads' HO_3.out).2.1); rintro e w' ⟨rfl, ⟨nd, rfl⟩⟩) | (go_at_call 39; (with_reducible refine (impl_UnderOk.calls kj8 _ _ t279 t281 t280 false _ ?side1 ?side2 A25.out).mono ?_); (case side1 => repeat (first | exact (Kd.R_reads' HO_3.out).2.2 | (with_reducible refine Kd.C_alloc ?_ _) | (with_reducible refine Kd.C_drewN ?_ _) | (with_reducible refine Kd.C_drew ?_))); (case side2 => exact (Kd.R_reads' HO_3.out).2.1); rintro e w' ⟨rfl, ⟨nd, rfl⟩⟩; have p295 : 0 ≤ ((ji33) : Int) := of_decide_eq_true (by first | (with_reducible assumption) | assumption); have q295 : (ji33) < (t279.length : Int) := of_decide_eq_true (by first | (with_reducible assumption) | assumption); obtain ⟨ad295, e295, hx295_0⟩ := Kd.at_int (Kd.R_reads' HO_3.out).2.2 (ji33) p295 q295; cases e295; replace p295 := eq_true p295; replace q295 := eq_true q295; have p296 : 0 ≤ ((ji33) : Int) := of_decide_eq_true (by first | (with_reducible assumption) | assumption); have q296 : (ji33) < (t279.length : Int) := of_decide_eq_true (by first | (with_reducible assumption) | assumption); obtain ⟨ad296, e296, hx296_0⟩ := Kd.at_int (Kd.R_reads' HO_3.out).2.2 (ji33) p296 q296; obtain rfl : ad295 = ad296 := (by injection e296); replace p296 := eq_true p296; replace q296 := eq_true q296) | (go_at_call 39; (with_reducible refine (impl_UnderOk.calls kj8 _ _ t279 t280 (rd t279 (ji33)) t297 _ ?side1 ?side2 A37.out).mono ?_); (case side1 => repeat (first | exact (Kd.R_reads' HO_3.out).2.2 | (with_reducible refine Kd.C_alloc ?_ _) | (with_reducible refine Kd.C_drewN ?_ _) | (with_reducible refine Kd.C_drew ?_))); (case side2 => exact (Kd.R_reads' HO_3.out).2.1); rintro e w' ⟨rfl, ⟨nd, rfl⟩⟩))
                          go_ret
                          exact ⟨by first | rfl | (simp [errW_none, errW_some] <;> rfl) | (simp only [← hji33]; first | rfl | (simp [errW_none, errW_some] <;> rfl)) | (simp [*, errW_none, errW_some] <;> rfl), by repeat (first | (with_reducible first | exact HB.out | apply below_alloc | apply pw_below_drewN | apply below_drew1) | exact HB.out)⟩
                      · rw [if_neg c35] at H
                        exact absurd H (by simp)
                    · rw [if_neg c34] at H
                      exact absurd H (by simp)
                · replace c24 := Bool.eq_false_iff.mpr c24
                  subst c24
                  have H1 : (if 0 ≤ (wrap64 (t280 - 1)) then (if (wrap64 (t280 - 1)) < (t279.length : Int) then (if (rd t279 (wrap64 (t280 - 1))) = 0 then (some true) else ((impl_UnderOk.f kj8 t279 t280 (rd t279 (wrap64 (t280 - 1)))).bind fun t300 => (some t300))) else (none)) else (none)) = some r := by rw [if_neg (show ¬ (false = true) by decide)] at H; exact H
                  clear H
                  have H := H1
                  clear H1
                  obtain ⟨ji38, hji38⟩ : ∃ j_ : Int, (wrap64 (t280 - 1)) = j_ := ⟨_, rfl⟩
                  replace H : (if 0 ≤ (ji38) then (if (ji38) < (t279.length : Int) then (if (rd t279 (ji38)) = 0 then (some true) else ((impl_UnderOk.f kj8 t279 t280 (rd t279 (ji38))).bind fun t300 => (some t300))) else (none)) else (none)) = some r := by first | (rw [hji38] at H; exact H) | (simp only [hji38] at H ⊢; exact H)
                  (try rw [hji38] at A19)
                  (try rw [hji38] at A21)
                  (try rw [hji38] at A22)
                  have hji38w : (IntKind.i64.wrap (t280 - 1)) = ji38 := (i64_w _).trans hji38
                  by_cases c39 : 0 ≤ (ji38)
                  · rw [if_pos c39] at H
                    have c39b0 : decide (0 ≤ (ji38)) = true := decide_eq_true c39
                    clear c39
                    by_cases c40 : (ji38) < (t279.length : Int)
                    · rw [if_pos c40] at H
                      have c40b0 : decide ((ji38) < (t279.length : Int)) = true := decide_eq_true c40
                      clear c40
                      by_cases c41 : (rd t279 (ji38)) = 0
                      · rw [if_pos c41] at H
                        have c41b0 : ((rd t279 (ji38)) == 0) = true := beq_iff_eq.mpr c41
                        have c41b1 : ((rd t279 (ji38)) != 0) = false := bne_eq_false_iff_eq.mpr c41
                        clear c41
                        obtain rfl := Option.some.inj H
                        go_wp2_with (first | ((with_reducible refine gate_callee (f := 39) rfl ?_); refine goesL_ (some 47) rfl rfl Try.func39 (by kernel_rfl) rfl #[.slice Ao11 t279.length co11, .int .i64 t280, .int .i64 t280] rfl (by (try simp only [List.map_toArray, List.map_cons, List.map_nil]); first | done | rfl | (simp only [List.length_drop, List.length_take]; rfl)) ?_; (with_reducible refine (impl_UnderOk.calls kj8 _ _ t279 t280 t280 true _ ?side1 ?side2 A19.out).mono ?_); (case side1 => repeat (first | exact (Kd.R_reads' HO_3.out).2.2 | (with_reducible refine Kd.C_alloc ?_ _) | (with_reducible refine Kd.C_drewN ?_ _) | (with_reducible refine Kd.C_drew ?_))); (case side2 => exact (Kd.R_reads' HO_3.out).2.1); rintro e w' ⟨rfl, ⟨nd, rfl⟩⟩; refine ⟨_, rfl, ?_⟩) | (go_at_call 34; (with_reducible refine (impl_RootOf.calls kj8 _ _ t279 t289 _ ?side1 ?side2 A21.out).mono ?_); (case side1 => repeat (first | exact (Kd.R_reads' HO_3.out).2.2 | (with_reducible refine Kd.C_alloc ?_ _) | (with_reducible refine Kd.C_drewN ?_ _) | (with_reducible refine Kd.C_drew ?_))); (case side2 => exact (Kd.R_reads' HO_3.out).2.1); rintro e w' ⟨rfl, ⟨nd, rfl⟩⟩) | (go_at_call 39; (with_reducible refine (impl_UnderOk.calls kj8 _ _ t279 t280 t289 true _ ?side1 ?side2 A22.out).mono ?_); (case side1 => repeat (first | exact (Kd.R_reads' HO_3.out).2.2 | (with_reducible refine Kd.C_alloc ?_ _) | (with_reducible refine Kd.C_drewN ?_ _) | (with_reducible refine Kd.C_drew ?_))); (case side2 => exact (Kd.R_reads' HO_3.out).2.1); rintro e w' ⟨rfl, ⟨nd, rfl⟩⟩; have p298 : 0 ≤ ((ji38) : Int) := of_decide_eq_true (by first | (with_reducible assumption) | assumption); have q298 : (ji38) < (t279.length : Int) := of_decide_eq_true (by first | (with_reducible assumption) | assumption); obtain ⟨ad298, e298, hx298_0⟩ := Kd.at_int (Kd.R_reads' HO_3.out).2.2 (ji38) p298 q298; cases e298; replace p298 := eq_true p298; replace q298 := eq_true q298))
                        go_ret
                        exact ⟨by first | rfl | (simp [errW_none, errW_some] <;> rfl) | (simp only [← hji38]; first | rfl | (simp [errW_none, errW_some] <;> rfl)) | (simp [*, errW_none, errW_some] <;> rfl), by repeat (first | (with_reducible first | exact HB.out | apply below_alloc | apply pw_below_drewN | apply below_drew1) | exact HB.out)⟩
                      · rw [if_neg c41] at H
                        have c41b0 : ((rd t279 (ji38)) == 0) = false := beq_eq_false_iff_ne.mpr c41
                        have c41b1 : ((rd t279 (ji38)) != 0) = true := bne_iff_ne.mpr c41
                        replace H := Option.bind_eq_some_iff.mp H
                        obtain ⟨t300, A420, H⟩ := H
                        replace H : (some t300) = some r := H
                        have A42 := Aside0.mk A420
                        clear A420
                        obtain rfl := Option.some.inj H
                        go_wp2_with (first | ((with_reducible refine gate_callee (f := 39) rfl ?_); refine goesL_ (some 47) rfl rfl Try.func39 (by kernel_rfl) rfl #[.slice Ao11 t279.length co11, .int .i64 t280, .int .i64 t280] rfl (by (try simp only [List.map_toArray, List.map_cons, List.map_nil]); first | done | rfl | (simp only [List.length_drop, List.length_take]; rfl)) ?_; (with_reducible refine (impl_UnderOk.calls kj8 _ _ t279 t280 t280 true _ ?side1 ?side2 A19.out).mono ?_); (case side1 => repeat (first | exact (Kd.R_reads' HO_3.out).2.2 | (with_reducible refine Kd.C_alloc ?_ _) | (with_reducible refine Kd.C_drewN ?_ _) | (with_reducible refine Kd.C_drew ?_))); (case side2 => exact (Kd.R_reads' HO_3.out).2.1); rintro e w' ⟨rfl, ⟨nd, rfl⟩⟩; refine ⟨_, rfl, ?_⟩) | (go_at_call 34; (with_reducible refine (impl_RootOf.calls kj8 _ _ t279 t289 _ ?side1 ?side2 A21.out).mono ?_); (case side1 => repeat (first | exact (Kd.R_reads' HO_3.out).2.2 | (with_reducible refine Kd.C_alloc ?_ _) | (with_reducible refine Kd.C_drewN ?_ _) | (with_reducible refine Kd.C_drew ?_))); (case side2 => exact (Kd.R_reads' HO_3.out).2.1); rintro e w' ⟨rfl, ⟨nd, rfl⟩⟩) | (go_at_call 39; (with_reducible refine (impl_UnderOk.calls kj8 _ _ t279 t280 t289 true _ ?side1 ?side2 A22.out).mono ?_); (case side1 => repeat (first | exact (Kd.R_reads' HO_3.out).2.2 | (with_reducible refine Kd.C_alloc ?_ _) | (with_reducible refine Kd.C_drewN ?_ _) | (with_reducible refine Kd.C_drew ?_))); (case side2 => exact (Kd.R_reads' HO_3.out).2.1); rintro e w' ⟨rfl, ⟨nd, rfl⟩⟩; have p298 : 0 ≤ ((ji38) : Int) := of_decide_eq_true (by first | (with_reducible assumption) | assumption); have q298 : (ji38) < (t279.length : Int) := of_decide_eq_true (by first | (with_reducible assumption) | assumption); obtain ⟨ad298, e298, hx298_0⟩ := Kd.at_int (Kd.R_reads' HO_3.out).2.2 (ji38) p298 q298; cases e298; replace p298 := eq_true p298; replace q298 := eq_true q298; have p299 : 0 ≤ ((ji38) : Int) := of_decide_eq_true (by first | (with_reducible assumption) | assumption); have q299 : (ji38) < (t279.length : Int) := of_decide_eq_true (by first | (with_reducible assumption) | assumption); obtain ⟨ad299, e299, hx299_0⟩ := Kd.at_int (Kd.R_reads' HO_3.out).2.2 (ji38) p299 q299; obtain rfl : ad298 = ad299 := (by injection e299); replace p299 := eq_true p299; replace q299 := eq_true q299) | (go_at_call 39; (with_reducible refine (impl_UnderOk.calls kj8 _ _ t279 t280 (rd t279 (ji38)) t300 _ ?side1 ?side2 A42.out).mono ?_); (case side1 => repeat (first | exact (Kd.R_reads' HO_3.out).2.2 | (with_reducible refine Kd.C_alloc ?_ _) | (with_reducible refine Kd.C_drewN ?_ _) | (with_reducible refine Kd.C_drew ?_))); (case side2 => exact (Kd.R_reads' HO_3.out).2.1); rintro e w' ⟨rfl, ⟨nd, rfl⟩⟩))
                        go_ret
                        exact ⟨by first | rfl | (simp [errW_none, errW_some] <;> rfl) | (simp only [← hji38]; first | rfl | (simp [errW_none, errW_some] <;> rfl)) | (simp [*, errW_none, errW_some] <;> rfl), by repeat (first | (with_reducible first | exact HB.out | apply below_alloc | apply pw_below_drewN | apply below_drew1) | exact HB.out)⟩
                    · rw [if_neg c40] at H
                      exact absurd H (by simp)
                  · rw [if_neg c39] at H
                    exact absurd H (by simp)
              · replace c23 := Bool.eq_false_iff.mpr c23
                subst c23
                have H1 : (some false) = some r := by rw [if_neg (show ¬ (false = true) by decide)] at H; exact H
                clear H
                have H := H1
                clear H1
                obtain rfl := Option.some.inj H
                go_wp2_with (first | ((with_reducible refine gate_callee (f := 39) rfl ?_); refine goesL_ (some 47) rfl rfl Try.func39 (by kernel_rfl) rfl #[.slice Ao11 t279.length co11, .int .i64 t280, .int .i64 t280] rfl (by (try simp only [List.map_toArray, List.map_cons, List.map_nil]); first | done | rfl | (simp only [List.length_drop, List.length_take]; rfl)) ?_; (with_reducible refine (impl_UnderOk.calls kj8 _ _ t279 t280 t280 true _ ?side1 ?side2 A19.out).mono ?_); (case side1 => repeat (first | exact (Kd.R_reads' HO_3.out).2.2 | (with_reducible refine Kd.C_alloc ?_ _) | (with_reducible refine Kd.C_drewN ?_ _) | (with_reducible refine Kd.C_drew ?_))); (case side2 => exact (Kd.R_reads' HO_3.out).2.1); rintro e w' ⟨rfl, ⟨nd, rfl⟩⟩; refine ⟨_, rfl, ?_⟩) | (go_at_call 34; (with_reducible refine (impl_RootOf.calls kj8 _ _ t279 t289 _ ?side1 ?side2 A21.out).mono ?_); (case side1 => repeat (first | exact (Kd.R_reads' HO_3.out).2.2 | (with_reducible refine Kd.C_alloc ?_ _) | (with_reducible refine Kd.C_drewN ?_ _) | (with_reducible refine Kd.C_drew ?_))); (case side2 => exact (Kd.R_reads' HO_3.out).2.1); rintro e w' ⟨rfl, ⟨nd, rfl⟩⟩) | (go_at_call 39; (with_reducible refine (impl_UnderOk.calls kj8 _ _ t279 t280 t289 false _ ?side1 ?side2 A22.out).mono ?_); (case side1 => repeat (first | exact (Kd.R_reads' HO_3.out).2.2 | (with_reducible refine Kd.C_alloc ?_ _) | (with_reducible refine Kd.C_drewN ?_ _) | (with_reducible refine Kd.C_drew ?_))); (case side2 => exact (Kd.R_reads' HO_3.out).2.1); rintro e w' ⟨rfl, ⟨nd, rfl⟩⟩))
                go_ret
                exact ⟨by first | rfl | (simp [errW_none, errW_some] <;> rfl) | (simp [*, errW_none, errW_some] <;> rfl), by repeat (first | (with_reducible first | exact HB.out | apply below_alloc | apply pw_below_drewN | apply below_drew1) | exact HB.out)⟩
            · replace c20 := Bool.eq_false_iff.mpr c20
              subst c20
              have H1 : (some false) = some r := by rw [if_neg (show ¬ (false = true) by decide)] at H; exact H
              clear H
              have H := H1
              clear H1
              obtain rfl := Option.some.inj H
              go_wp2_with (first | ((with_reducible refine gate_callee (f := 39) rfl ?_); refine goesL_ (some 47) rfl rfl Try.func39 (by kernel_rfl) rfl #[.slice Ao11 t279.length co11, .int .i64 t280, .int .i64 t280] rfl (by (try simp only [List.map_toArray, List.map_cons, List.map_nil]); first | done | rfl | (simp only [List.length_drop, List.length_take]; rfl)) ?_; (with_reducible refine (impl_UnderOk.calls kj8 _ _ t279 t280 t280 false _ ?side1 ?side2 A19.out).mono ?_); (case side1 => repeat (first | exact (Kd.R_reads' HO_3.out).2.2 | (with_reducible refine Kd.C_alloc ?_ _) | (with_reducible refine Kd.C_drewN ?_ _) | (with_reducible refine Kd.C_drew ?_))); (case side2 => exact (Kd.R_reads' HO_3.out).2.1); rintro e w' ⟨rfl, ⟨nd, rfl⟩⟩; refine ⟨_, rfl, ?_⟩))
              go_ret
              exact ⟨by first | rfl | (simp [errW_none, errW_some] <;> rfl) | (simp [*, errW_none, errW_some] <;> rfl), by repeat (first | (with_reducible first | exact HB.out | apply below_alloc | apply pw_below_drewN | apply below_drew1) | exact HB.out)⟩

/-- THE ONE PURE STATEMENT of laws_FnUnderOk: yours. -/
def laws_FnUnderOk.Pure : Prop := ∀ (l0 : List Int), l0.length ≤ maxLen → l0.length * 1 ≤ 140737488351232 → (∀ x ∈ l0, (Lit.int .u8 x).wf = true) → ∃ k, laws_FnUnderOk.f k l0 = some true
theorem laws_FnUnderOk.walk (P : laws_FnUnderOk.Pure) (a0 : Option Addr) (len0 cap0 : Nat) (z0 : List Int) (w : World) (w0 : (a0 = none ∧ len0 = 0 ∧ cap0 = 0 ∧ z0 = []) ∨ ∃ x, a0 = some x ∧ len0 ≤ cap0 ∧ cap0 ≤ maxLen ∧ z0.length = cap0 ∧ (∀ i, i < z0.length → w.cell? (x.add i) = some (.int .u8 (z0.getD i 0))) ∧ ∀ n ∈ z0, (Lit.int .u8 n).wf = true) (y0 : len0 * 1 ≤ 140737488351232) :
    Calls Try.prog 10 #[.slice a0 len0 cap0] w fun e w' => e = .returned (.bool true) ∧ Below w.heap.size w w' := by
  obtain ⟨l0, rfl, hr0, hm0, hw0, hc0⟩ := ReadsInt.ofRowC w0
  obtain ⟨k, h⟩ := P l0 hm0 y0 hw0
  refine (laws_FnUnderOk.calls k _ _ l0 true w (Kd.C_of_reads (d := (0 : Int)) (h1 := fun _ => rfl) hr0) hc0 h).mono ?_
  rintro e w' ⟨rfl, hd⟩
  exact ⟨rfl, hd⟩

end Go.Proofs.Ytaclehflljpfgaa.PFnUnderOk
