/- The statement FnExactRowsOf: a text of this session, written by a program of its own after the kit's print of these functions. -/
import Derived.Test.YtdckgafgidfplaaQFnExactRowsOfx1
import Derived.Test.YtdckgafgidfplaaQFnExactRowsOfx1
import Derived.Test.YtdckgafgidfplaaQFnExactRowsOfx1
import Derived.Test.YtdckgafgidfplaaQFnExactRowsOfx4
import Derived.Test.YtdckgafgidfplaaQFnExactRowsOfx0
import Derived.Test.YtdckgafgidfplaaQFnExactRowsOfx1
import Derived.Test.YtdckgafgidfplaaQFnExactRowsOfx4
import Derived.Test.YtdckgafgidfplaaQFnExactRowsOfx5
namespace Go.Proofs.Ytdckgafgidfplaa.QFnExactRowsOf
open Go.RowKit Go.Proofs.YtdckgafgidfplaaW.PrintWords Go.Proofs.YtdckgafgidfplaaW.PrintLast Go.Proofs.YtdckgafgidfplaaW.PrintMore
attribute [local go_sem] max2_int min2_int max_two min_two max_three min_three max_four min_four   -- for this text's walks alone
set_option linter.unusedVariables false
set_option linter.unusedSimpArgs false

/-! ### impl_RowsOf: function 37 -/
def impl_RowsOf.l0 : Nat → List (List Int) → List Int → Int → Int → Option ((List (List Int)))
 | 0, _, _, _, _ => none
 | k + 1, x5, x12, x13, x14 => if x14 < x13 then (if 0 ≤ x14 then (if x14 < (x12.length : Int) then (if (x5.length : Int) > 0 then (if 0 ≤ (wrap64 ((x5.length : Int) - 1)) then (if (wrap64 ((x5.length : Int) - 1)) < (x5.length : Int) then (if 1 < ((rd_L1 x5 (wrap64 ((x5.length : Int) - 1))).length : Int) then (if (rd (rd_L1 x5 (wrap64 ((x5.length : Int) - 1))) 1) = (wrap64 ((rd x12 x14) - 1)) then (impl_RowsOf.l0 k (x5.set ((wrap64 ((x5.length : Int) - 1)) : Int).toNat ((rd_L1 x5 (wrap64 ((x5.length : Int) - 1))).set (1 : Int).toNat (rd x12 x14))) x12 x13 (wrap64 (x14 + 1))) else (if x5.length < 5864062014805 then (impl_RowsOf.l0 k (x5 ++ [(([rd x12 x14, rd x12 x14] : List Int))]) x12 x13 (wrap64 (x14 + 1))) else (none))) else (none)) else (none)) else (none)) else (if x5.length < 5864062014805 then (impl_RowsOf.l0 k (x5 ++ [(([rd x12 x14, rd x12 x14] : List Int))]) x12 x13 (wrap64 (x14 + 1))) else (none))) else (none)) else (none)) else ((slices_Clip_int_int.f x5).bind fun t207 => (some t207))
def impl_RowsOf.f (k : Nat) (l0 : List Int) (a1 : Int) : Option ((List (List Int))) := (impl_YieldOf.f k l0 a1).bind fun t185 => (impl_RowsOf.l0 k (([] : List (List Int))) t185 (t185.length : Int) 0)
set_option maxHeartbeats 8000000 in
set_option maxRecDepth 100000 in
theorem impl_RowsOf.calls (k : Nat) (A0 : Option Addr) (c0 : Nat) (l0 : List Int) (a1 : Int) (r : List (List Int)) (w : World) (hr0 : Kd.C (Kd.int .i64) w A0 l0.length l0) (hc0 : l0.length ≤ c0) (h : impl_RowsOf.f k l0 a1 = some r) :
  Calls Try.prog 37 #[.slice A0 l0.length c0, .int .i64 a1] w fun e w' => ∃ v0_ : Value, e = .returned (v0_) ∧ Kd.V (Kd.slice 3 (Kd.int .i64)) 29 w' w.heap.size (fun k_ => (w.heap.size ≤ k_)) v0_ r ∧ Below w.heap.size w w' := by
 have HR0 := Aside0.mk hr0
 have HC0 := Aside0.mk hc0
 clear hr0 hc0
 have HB := Aside0.mk (Below.refl w.heap.size w)
 have H : ((impl_YieldOf.f k l0 a1).bind fun t185 => (impl_RowsOf.l0 k (([] : List (List Int))) t185 (t185.length : Int) 0)) = some r := h
 clear h
 obtain ⟨y182, hy182⟩ : ∃ y_ : List (List Int), y_ = (([] : List (List Int))) := ⟨_, rfl⟩
 replace H : ((impl_YieldOf.f k l0 a1).bind fun t185 => (impl_RowsOf.l0 k y182 t185 (t185.length : Int) 0)) = some r := by first | (rw [hy182]; with_reducible exact H) | (have H2_ := (Option.bind_some _ _).symm.trans H; rw [hy182]; with_reducible exact H2_) | (have H2_ := (Option.bind_some _ _).symm.trans H; with_reducible exact H2_) | with_reducible exact H | (rw [hy182]; exact H) | exact H
 have Ny182 := Aside0.mk hy182
 clear hy182
 replace H := Option.bind_eq_some_iff.mp H
 obtain ⟨t185, A30, H⟩ := H
 replace H : (impl_RowsOf.l0 k y182 t185 (t185.length : Int) 0) = some r := H
 have A3 := Aside0.mk A30
 clear A30
 have H' := Aside0.mk H
 clear H
 go_enter Try.func37, Try.ntmps37
 go_wp2_with (first | ((with_reducible refine gate_dst (N := 9) rfl ?_); refine Kd.S_lit (Kd.slice 3 (Kd.int .i64)) _ 29 ?hg (N := 9) ?hd (xs := ([] : List (List Int))) (inner := []) (ok := fun _ => True) (okp := fun _ => True) ?hr ?hp (fun _ hk => hk) trivial (Below.refl _ _) (Nat.le_refl _) (by simp) ?_; (case hd => rfl); (case hg => rfl); (case hr => first | (go_simp; done) | (go_simp; rfl)); (case hp => exact (Reps.none _ _)); intro v183 w4 ho5 hb hg_ hnew_; clear hg_ hnew_; (first | rw [← Ny182.out] at ho5 | (simp only [Int.reduceToNat] at ho5; rw [← Ny182.out] at ho5)); have n0_ := Aside0.mk (Kd.S_lower (Kd.S_newM (M := fun k_ => (w.heap.size ≤ k_)) ho5 (below_size (by repeat (first | (with_reducible first | exact HB.out | apply below_alloc | apply pw_below_drewN | apply below_drew1) | exact HB.out))) (fun k_ h_ => h_)) (below_size (by repeat (first | (with_reducible first | exact HB.out | apply below_alloc | apply pw_below_drewN | apply below_drew1) | exact HB.out)))); have n1_ := Aside0.mk (below_step (by repeat (first | (with_reducible first | exact HB.out | apply below_alloc | apply pw_below_drewN | apply below_drew1) | exact HB.out)) hb); clear HB; have HO184 := n0_; have HB := n1_; clear n0_ n1_; clear hb ho5) | ((with_reducible refine gate_callee (f := 43) rfl ?_); refine goesL_ (some 12) rfl rfl Try.func43 (by kernel_rfl) rfl #[.slice A0 l0.length c0, .int .i64 a1] rfl (by (try simp only [List.map_toArray, List.map_cons, List.map_nil]); first | done | rfl | (simp only [List.length_drop, List.length_take]; rfl)) ?_; (with_reducible refine (impl_YieldOf.calls k _ _ l0 a1 t185 _ ?side1 ?side2 A3.out).mono ?_); (case side1 => repeat (first | exact (Kd.C_below HR0.out HB.out) | (with_reducible refine Kd.C_alloc ?_ _) | (with_reducible refine Kd.C_drewN ?_ _) | (with_reducible refine Kd.C_drew ?_))); (case side2 => exact HC0.out); rintro e w6 ⟨v186, rfl, ho0, hb⟩; refine ⟨_, rfl, ?_⟩; have n0_ := Aside0.mk (Kd.S_elder' (by (with_reducible repeat (first | apply Kd.S_alloc | apply Kd.S_drewN | apply Kd.S_drew)); exact HO184.out) (Kd.R_base ho0) hb); have n1_ := Aside0.mk (Kd.R_lower (Kd.R_newM (M := fun k_ => (w.heap.size ≤ k_)) ho0 (below_size (by repeat (first | (with_reducible first | exact HB.out | apply below_alloc | apply pw_below_drewN | apply below_drew1) | exact HB.out))) (fun k_ h_ => h_)) (below_size (by repeat (first | (with_reducible first | exact HB.out | apply below_alloc | apply pw_below_drewN | apply below_drew1) | exact HB.out)))); have n2_ := Aside0.mk (below_step (by repeat (first | (with_reducible first | exact HB.out | apply below_alloc | apply pw_below_drewN | apply below_drew1) | exact HB.out)) hb); clear HO184; clear HB; have HO184 := n0_; have HO187 := n1_; have HB := n2_; clear n0_ n1_ n2_; (try clear hb); (try clear hb2); (try clear hk); (try clear hi); (try clear ho0); obtain ⟨Ao7, co7, eo7⟩ := Kd.R_slice HO187.out; subst eo7))
 go_loopg [5, 14] k (fun kq v5 v14 w' => ∃ (x5_1 : List (List Int)) (x12_1 : List Int) (x14_1 : Int), v14 = .int .i64 x14_1 ∧ Aside0 (impl_RowsOf.l0 kq x5_1 x12_1 (t185.length : Int) x14_1 = some r) ∧ Aside0 (kq ≤ k) ∧ Aside0 (Kd.S (Kd.slice 3 (Kd.int .i64)) 29 w' w.heap.size (fun k_ => (w.heap.size ≤ k_) ∧ some k_ ≠ ((.slice Ao7 t185.length co7) : Value).ownBlock) v5 x5_1) ∧ Aside0 (Kd.R (Kd.int .i64) 3 w' w.heap.size (fun k_ => (w.heap.size ≤ k_)) (.slice Ao7 t185.length co7) x12_1) ∧ Aside0 (Below w.heap.size w w'))
 case atStart => exact ⟨(y182), (t185), (0), (by first | rfl | (simp; done) | (simp [*]; done)), H', ⟨Nat.le_refl _⟩, ⟨by (with_reducible repeat (first | apply Kd.S_alloc | apply Kd.S_drewN | apply Kd.S_drew)); exact Kd.S_mono HO184.out (fun _ hk => ⟨hk.1.1, hk.2⟩)⟩, ⟨by (with_reducible repeat (first | apply Kd.R_alloc | apply Kd.R_drewN | apply Kd.R_drew)); exact Kd.R_mono HO187.out (fun _ hk => hk.1)⟩, ⟨by repeat (first | (with_reducible first | exact HB.out | apply below_alloc | apply pw_below_drewN | apply below_drew1) | exact HB.out)⟩⟩
 case round =>
  clear H'
  try clear p2
  try clear c3
  try clear c4
  obtain ⟨x5_1, x12_1, x14_1, rfl, HA, HK1, HO_5, HO_12, HB⟩ := hrel
  have hl12_1 := (Kd.R_reads' HO_12.out).1
  rw [hl12_1] at HO_12
  (try simp only [hl12_1])
  (try simp only [hl12_1] at HO_5)
  cases gk with
  | zero => exact absurd HA.out (by simp [impl_RowsOf.l0])
  | succ k1 =>
   have H := HA.out
   clear HA
   simp only [impl_RowsOf.l0] at H
   by_cases c8 : x14_1 < (t185.length : Int)
   ·rw [if_pos c8] at H
    have c8b0 : decide (x14_1 < (t185.length : Int)) = true := decide_eq_true c8
    clear c8
    by_cases c9 : 0 ≤ x14_1
    ·rw [if_pos c9] at H
     have c9b0 : decide (0 ≤ x14_1) = true := decide_eq_true c9
     clear c9
     by_cases c10 : x14_1 < (x12_1.length : Int)
     ·rw [if_pos c10] at H
      have c10b0 : decide (x14_1 < (x12_1.length : Int)) = true := decide_eq_true c10
      clear c10
      by_cases c11 : (x5_1.length : Int) > 0
      ·rw [if_pos c11] at H
       have c11b0 : decide (0 < (x5_1.length : Int)) = true := decide_eq_true c11
       have c11b1 : decide (0 < x5_1.length) = true := decide_eq_true (by omega)
       clear c11
       obtain ⟨ji12, hji12⟩ : ∃ j_ : Int, (wrap64 ((x5_1.length : Int) - 1)) = j_ := ⟨_, rfl⟩
       replace H : (if 0 ≤ (ji12) then (if (ji12) < (x5_1.length : Int) then (if 1 < ((rd_L1 x5_1 (ji12)).length : Int) then (if (rd (rd_L1 x5_1 (ji12)) 1) = (wrap64 ((rd x12_1 x14_1) - 1)) then (impl_RowsOf.l0 k1 (x5_1.set ((ji12) : Int).toNat ((rd_L1 x5_1 (ji12)).set (1 : Int).toNat (rd x12_1 x14_1))) x12_1 (t185.length : Int) (wrap64 (x14_1 + 1))) else (if x5_1.length < 5864062014805 then (impl_RowsOf.l0 k1 (x5_1 ++ [(([rd x12_1 x14_1, rd x12_1 x14_1] : List Int))]) x12_1 (t185.length : Int) (wrap64 (x14_1 + 1))) else (none))) else (none)) else (none)) else (none)) = some r := by first | (rw [hji12] at H; exact H) | (simp only [hji12] at H ⊢; exact H)
       have hji12w : (IntKind.i64.wrap ((x5_1.length : Int) - 1)) = ji12 := (i64_w _).trans hji12
       by_cases c13 : 0 ≤ (ji12)
       ·rw [if_pos c13] at H
        have c13b0 : decide (0 ≤ (ji12)) = true := decide_eq_true c13
        clear c13
        by_cases c14 : (ji12) < (x5_1.length : Int)
        ·rw [if_pos c14] at H
         have c14b0 : decide ((ji12) < (x5_1.length : Int)) = true := decide_eq_true c14
         clear c14
         by_cases c15 : 1 < ((rd_L1 x5_1 (ji12)).length : Int)
         ·rw [if_pos c15] at H
          have c15b0 : decide (1 < ((rd_L1 x5_1 (ji12)).length : Int)) = true := decide_eq_true c15
          have c15b1 : decide (1 < (rd_L1 x5_1 (ji12)).length) = true := decide_eq_true (by omega)
          clear c15
          by_cases c16 : (rd (rd_L1 x5_1 (ji12)) 1) = (wrap64 ((rd x12_1 x14_1) - 1))
          ·rw [if_pos c16] at H
           have c16b0 : ((rd (rd_L1 x5_1 (ji12)) 1) == (wrap64 ((rd x12_1 x14_1) - 1))) = true := beq_iff_eq.mpr c16
           have c16b1 : ((rd (rd_L1 x5_1 (ji12)) 1) != (wrap64 ((rd x12_1 x14_1) - 1))) = false := bne_eq_false_iff_eq.mpr c16
           clear c16
           obtain ⟨y192, hy192⟩ : ∃ y_ : List Int, y_ = ((rd_L1 x5_1 (ji12)).set (1 : Int).toNat (rd x12_1 x14_1)) := ⟨_, rfl⟩
           replace H : (impl_RowsOf.l0 k1 (x5_1.set ((ji12) : Int).toNat y192) x12_1 (t185.length : Int) (wrap64 (x14_1 + 1))) = some r := by first | (rw [hy192]; with_reducible exact H) | (have H2_ := (Option.bind_some _ _).symm.trans H; rw [hy192]; with_reducible exact H2_) | (have H2_ := (Option.bind_some _ _).symm.trans H; with_reducible exact H2_) | with_reducible exact H | (rw [hy192]; exact H) | exact H
           have Ny192 := Aside0.mk hy192
           clear hy192
           obtain ⟨y194, hy194⟩ : ∃ y_ : List (List Int), y_ = (x5_1.set ((ji12) : Int).toNat y192) := ⟨_, rfl⟩
           replace H : (impl_RowsOf.l0 k1 y194 x12_1 (t185.length : Int) (wrap64 (x14_1 + 1))) = some r := by first | (rw [hy194]; with_reducible exact H) | (have H2_ := (Option.bind_some _ _).symm.trans H; rw [hy194]; with_reducible exact H2_) | (have H2_ := (Option.bind_some _ _).symm.trans H; with_reducible exact H2_) | with_reducible exact H | (rw [hy194]; exact H) | exact H
           have Ny194 := Aside0.mk hy194
           clear hy194
           have H' := Aside0.mk H
           clear H
           have p188 : 0 ≤ (x14_1 : Int) := of_decide_eq_true (by first | (with_reducible assumption) | assumption)
           have q188 : x14_1 < (x12_1.length : Int) := of_decide_eq_true (by first | (with_reducible assumption) | assumption)
           obtain ⟨ad188, e188, hx188_0⟩ := Kd.at_int (Kd.R_reads' HO_12.out).2.2 x14_1 p188 q188
           cases e188
           replace p188 := eq_true p188
           replace q188 := eq_true q188
           obtain ⟨Ao18, co18, eo18⟩ := Kd.S_slice HO_5.out
           subst eo18
           have p189 : 0 ≤ ((ji12) : Int) := of_decide_eq_true (by first | (with_reducible assumption) | assumption)
           have q189 : (ji12) < (x5_1.length : Int) := of_decide_eq_true (by first | (with_reducible assumption) | assumption)
           obtain ⟨ad189, A189_0, c189_0, e189, hx189_0, hl189_0, hi189_0⟩ := at_L1 (Kd.S_reads' HO_5.out).2.2 (ji12) p189 q189
           cases e189
           obtain ⟨ce189, hce189, hMe189, hcc189⟩ := Kd.S_get HO_5.out [] (ji12) p189 (by first | exact q189 | exact of_decide_eq_true (by first | (with_reducible assumption) | assumption) | (have e_ := (Kd.S_reads' HO_5.out).1; omega))
           obtain ⟨ve189_0, rfl, ge189_0⟩ := hMe189
           have hv189_0 := hcc189 0 _ rfl
           rw [Nat.add_zero, show ((Kd.slice 3 (Kd.int .i64))).sz = 1 from rfl, Nat.mul_one] at hv189_0
           replace hv189_0 := Option.some.inj (hv189_0.symm.trans hx189_0)
           rw [hv189_0] at ge189_0
           have HL189_0 := Aside0.mk (show Kd.R (Kd.int .i64) 3 _ _ _ _ (rd_L1 x5_1 (ji12)) from ge189_0)
           clear hv189_0 ge189_0
           have HX189_0 := Aside0.mk hx189_0
           clear hcc189 hce189
           have HR189_0 := Aside0.mk hi189_0
           have HC189_0 := Aside0.mk hl189_0
           clear hi189_0 hl189_0
           replace p189 := eq_true p189
           replace q189 := eq_true q189
           have p190 : 0 ≤ (1 : Int) := (by omega)
           have q190 : 1 < ((rd_L1 x5_1 (ji12)).length : Int) := of_decide_eq_true (by first | (with_reducible assumption) | assumption)
           obtain ⟨ad190, e190, hx190_0⟩ := Kd.at_int (by repeat (first | (with_reducible exact HR189_0.out) | (with_reducible refine Kd.C_alloc ?_ _) | (with_reducible refine Kd.C_drewN ?_ _) | (with_reducible refine Kd.C_drew ?_) | exact HR189_0.out)) 1 p190 q190
           cases e190
           (try simp only [show (1 : Int).toNat = 1 from rfl, Nat.reduceMul, Nat.reduceEqDiff, Go.Addr.add, ↓reduceIte] at hx190_0)
           have qi190 : (1 < (rd_L1 x5_1 (ji12)).length) = True := eq_true (by omega)
           (try rw [show ((1 : Int)).toNat = 1 from rfl] at hx190_0)
           replace p190 := eq_true p190
           replace q190 := eq_true q190
           have p191 : 0 ≤ ((ji12) : Int) := of_decide_eq_true (by first | (with_reducible assumption) | assumption)
           have q191 : (ji12) < (x5_1.length : Int) := of_decide_eq_true (by first | (with_reducible assumption) | assumption)
           obtain ⟨ad191, A191_0, c191_0, e191, hx191_0, hl191_0, hi191_0⟩ := at_L1 (Kd.S_reads' HO_5.out).2.2 (ji12) p191 q191
           obtain rfl : ad189 = ad191 := (by injection e191)
           obtain ⟨ce191, hce191, hMe191, hcc191⟩ := Kd.S_get HO_5.out [] (ji12) p191 (by first | exact q191 | exact of_decide_eq_true (by first | (with_reducible assumption) | assumption) | (have e_ := (Kd.S_reads' HO_5.out).1; omega))
           obtain ⟨ve191_0, rfl, ge191_0⟩ := hMe191
           have hv191_0 := hcc191 0 _ rfl
           rw [Nat.add_zero, show ((Kd.slice 3 (Kd.int .i64))).sz = 1 from rfl, Nat.mul_one] at hv191_0
           replace hv191_0 := Option.some.inj (hv191_0.symm.trans hx191_0)
           rw [hv191_0] at ge191_0
           have HL191_0 := Aside0.mk (show Kd.R (Kd.int .i64) 3 _ _ _ _ (rd_L1 x5_1 (ji12)) from ge191_0)
           clear hv191_0 ge191_0
           have HX191_0 := Aside0.mk hx191_0
           clear hcc191 hce191
           have HR191_0 := Aside0.mk hi191_0
           have HC191_0 := Aside0.mk hl191_0
           clear hi191_0 hl191_0
           replace p191 := eq_true p191
           replace q191 := eq_true q191
           have ea_ := Option.some.inj (hx189_0.symm.trans hx191_0)
           injection ea_ with ea_ en_ ec_
           subst ea_
           subst ec_
           clear en_
           have p17 : 0 ≤ (1 : Int) := (by omega)
           have q17 : (1 : Int) < (((rd_L1 x5_1 (ji12)).length : Int) : Int) := of_decide_eq_true (by first | (with_reducible assumption) | assumption)
           have qi17 : (1 < (rd_L1 x5_1 (ji12)).length) = True := eq_true (by omega)
           obtain ⟨go17, co17, eo17, gb17, gl17, cl17, HG17⟩ := Kd.R_form HL191_0.out (by omega)
           (first | cases eo17 | (injection eo17 with ea_ en_ ec_; (first | subst ea_ | (injection ea_ with ea_; subst ea_)); subst ec_; clear en_))
           have GB17 := Aside0.mk gb17
           have GG17 := Aside0.mk HG17
           clear gb17 gl17 HG17
           (first | simp only [add_plain] at hx190_0 | skip)
           obtain ⟨hx17_0, hf17_0⟩ := Kd.R_celln 0 HL191_0.out (1 : Int) p17 q17
           (try rw [show ((1 : Int)).toNat = 1 from rfl] at hx17_0)
           (try simp only [Nat.reduceMul, Nat.zero_mul, Nat.zero_add, Nat.reduceAdd] at hx17_0)
           (try rw [show ((1 : Int)).toNat = 1 from rfl] at hf17_0)
           (try simp only [Nat.reduceMul, Nat.zero_mul, Nat.zero_add, Nat.reduceAdd] at hf17_0)
           replace p17 := eq_true p17
           replace q17 := eq_true q17
           have hq19 : ((ji12) : Int) < (x5_1.length : Int) := (by have h_ : ((ji12) : Int) < ((x5_1.length : Int) : Int) := of_decide_eq_true (by first | (with_reducible assumption) | assumption); first | exact h_ | (have e_ := (Kd.S_reads' HO_5.out).1; omega) | simpa only [List.length_set, List.length_set] using h_)
           obtain ⟨oki19, ce19, hcl19, hM19, hcc19, hok19, hbk19⟩ := Kd.S_borrow HO_5.out [] ((ji12) : Int) (of_decide_eq_true (by first | (with_reducible assumption) | assumption)) hq19
           obtain ⟨ve19_0, rfl, ge19_0⟩ := hM19
           have hv19 := hcc19 0 _ rfl
           rw [Nat.add_zero, show ((Kd.slice 3 (Kd.int .i64))).sz = 1 from rfl, Nat.mul_one] at hv19
           replace hv19 := Option.some.inj (hv19.symm.trans HX191_0.out)
           subst hv19
           clear hcc19 hcl19
           replace ge19_0 := (show Kd.R (Kd.int .i64) 3 _ _ _ _ (rd_L1 x5_1 (ji12)) from ge19_0)
           have HP19 := Kd.R_putg ge19_0 (1 : Int) (rd x12_1 x14_1)
           go_wp2_with (first | ((with_reducible refine gate_store (t := 3) (p := 40) rfl ?_); refine store_event (t := 3) (p := 40) (v := ?vo_w20) (w1 := (wr.setCell ⟨go17, 1, none⟩ (.int .i64 (rd x12_1 x14_1)))) ?hg ?ho ?hn ?hr ?_; (case ho => rfl); (case hg => rfl); (case hn => rfl); (case hr => first | (go_simp; done) | (go_simp; rfl)); intro w20 hw; have hg : wr.grownBy w20 (some go17) := (by rw [hw]; exact HP19.2); have hz_ : Kd.R (Kd.int .i64) 3 w20 w.heap.size oki19 (.slice (some ⟨go17, 0, none⟩) (rd_L1 x5_1 (ji12)).length c189_0) y192 := (by rw [hw, Ny192.out]; exact HP19.1); have hp_ : Kd.S (Kd.slice 3 (Kd.int .i64)) 29 w20 w.heap.size (fun k_ => (w.heap.size ≤ k_) ∧ some k_ ≠ (.slice (some ad188) x12_1.length co7 : Value).ownBlock) (.slice (some ad189) x5_1.length co18) y194 := (by rw [Ny194.out]; exact hbk19 hg (fun k_ e_ => by injection e_ with e_; subst e_; exact ge19_0.1 _ rfl) (Kd.M_row hz_)); have hm_ := Kd.R_mono hz_ hok19; clear HP19 hbk19; have n0_ := Aside0.mk (hp_); have n1_ := Aside0.mk (Kd.R_grown1 (by (with_reducible repeat (first | apply Kd.R_alloc | apply Kd.R_drewN | apply Kd.R_drew)); exact HO_12.out) rfl hg ((HL191_0.out.1 _ rfl).1.2)); have n2_ := Aside0.mk ((by rw [hw]; exact below_set (HB.out) GB17.out : Below w.heap.size w w20)); have n3_ := Aside0.mk (hm_); have n4_ := Aside0.mk ((Kd.R_reads' hm_).2.1); clear HO_5; clear HO_12; clear HB; clear HL189_0; clear HL191_0; have HO_5 := n0_; have HO_12 := n1_; have HB := n2_; have HL210 := n3_; have HC193 := n4_; clear n0_ n1_ n2_ n3_ n4_; clear hg hw hp_ hz_ hm_ hok19))
           (try simp only [← hl12_1])
           go_roundg k1
           case measure => have := HK1.out; omega
           case rel => exact ⟨(y194), (x12_1), (wrap64 (x14_1 + 1)), (by first | rfl | (simp; done) | (simp [*]; done)), H', ⟨by have := HK1.out; omega⟩, ⟨by (try simp only [hl12_1]); (with_reducible repeat (first | apply Kd.S_alloc | apply Kd.S_drewN | apply Kd.S_drew)); exact HO_5.out⟩, ⟨by (try simp only [hl12_1]); (with_reducible repeat (first | apply Kd.R_alloc | apply Kd.R_drewN | apply Kd.R_drew)); exact HO_12.out⟩, ⟨by repeat (first | (with_reducible first | exact HB.out | apply below_alloc | apply pw_below_drewN | apply below_drew1) | exact HB.out)⟩⟩
          ·rw [if_neg c16] at H
           have c16b0 : ((rd (rd_L1 x5_1 (ji12)) 1) == (wrap64 ((rd x12_1 x14_1) - 1))) = false := beq_eq_false_iff_ne.mpr c16
           have c16b1 : ((rd (rd_L1 x5_1 (ji12)) 1) != (wrap64 ((rd x12_1 x14_1) - 1))) = true := bne_iff_ne.mpr c16
           obtain ⟨y195, hy195⟩ : ∃ y_ : List Int, y_ = (([rd x12_1 x14_1, rd x12_1 x14_1] : List Int)) := ⟨_, rfl⟩
           replace H : (if x5_1.length < 5864062014805 then (impl_RowsOf.l0 k1 (x5_1 ++ [y195]) x12_1 (t185.length : Int) (wrap64 (x14_1 + 1))) else (none)) = some r := by first | (rw [hy195]; with_reducible exact H) | (have H2_ := (Option.bind_some _ _).symm.trans H; rw [hy195]; with_reducible exact H2_) | (have H2_ := (Option.bind_some _ _).symm.trans H; with_reducible exact H2_) | with_reducible exact H | (rw [hy195]; exact H) | exact H
           have Ny195 := Aside0.mk hy195
           clear hy195
           by_cases c21 : x5_1.length < 5864062014805
           ·rw [if_pos c21] at H
            have LMc21 := Aside0.mk c21
            clear c21
            obtain ⟨y198, hy198⟩ : ∃ y_ : List (List Int), y_ = (x5_1 ++ [y195]) := ⟨_, rfl⟩
            replace H : (impl_RowsOf.l0 k1 y198 x12_1 (t185.length : Int) (wrap64 (x14_1 + 1))) = some r := by first | (rw [hy198]; with_reducible exact H) | (have H2_ := (Option.bind_some _ _).symm.trans H; rw [hy198]; with_reducible exact H2_) | (have H2_ := (Option.bind_some _ _).symm.trans H; with_reducible exact H2_) | with_reducible exact H | (rw [hy198]; exact H) | exact H
            have Ny198 := Aside0.mk hy198
            clear hy198
            have H' := Aside0.mk H
            clear H
            have p188 : 0 ≤ (x14_1 : Int) := of_decide_eq_true (by first | (with_reducible assumption) | assumption)
            have q188 : x14_1 < (x12_1.length : Int) := of_decide_eq_true (by first | (with_reducible assumption) | assumption)
            obtain ⟨ad188, e188, hx188_0⟩ := Kd.at_int (Kd.R_reads' HO_12.out).2.2 x14_1 p188 q188
            cases e188
            replace p188 := eq_true p188
            replace q188 := eq_true q188
            obtain ⟨Ao22, co22, eo22⟩ := Kd.S_slice HO_5.out
            subst eo22
            have p189 : 0 ≤ ((ji12) : Int) := of_decide_eq_true (by first | (with_reducible assumption) | assumption)
            have q189 : (ji12) < (x5_1.length : Int) := of_decide_eq_true (by first | (with_reducible assumption) | assumption)
            obtain ⟨ad189, A189_0, c189_0, e189, hx189_0, hl189_0, hi189_0⟩ := at_L1 (Kd.S_reads' HO_5.out).2.2 (ji12) p189 q189
            cases e189
            obtain ⟨ce189, hce189, hMe189, hcc189⟩ := Kd.S_get HO_5.out [] (ji12) p189 (by first | exact q189 | exact of_decide_eq_true (by first | (with_reducible assumption) | assumption) | (have e_ := (Kd.S_reads' HO_5.out).1; omega))
            obtain ⟨ve189_0, rfl, ge189_0⟩ := hMe189
            have hv189_0 := hcc189 0 _ rfl
            rw [Nat.add_zero, show ((Kd.slice 3 (Kd.int .i64))).sz = 1 from rfl, Nat.mul_one] at hv189_0
            replace hv189_0 := Option.some.inj (hv189_0.symm.trans hx189_0)
            rw [hv189_0] at ge189_0
            have HL189_0 := Aside0.mk (show Kd.R (Kd.int .i64) 3 _ _ _ _ (rd_L1 x5_1 (ji12)) from ge189_0)
            clear hv189_0 ge189_0
            have HX189_0 := Aside0.mk hx189_0
            clear hcc189 hce189
            have HR189_0 := Aside0.mk hi189_0
            have HC189_0 := Aside0.mk hl189_0
            clear hi189_0 hl189_0
            replace p189 := eq_true p189
            replace q189 := eq_true q189
            have p190 : 0 ≤ (1 : Int) := (by omega)
            have q190 : 1 < ((rd_L1 x5_1 (ji12)).length : Int) := of_decide_eq_true (by first | (with_reducible assumption) | assumption)
            obtain ⟨ad190, e190, hx190_0⟩ := Kd.at_int (by repeat (first | (with_reducible exact HR189_0.out) | (with_reducible refine Kd.C_alloc ?_ _) | (with_reducible refine Kd.C_drewN ?_ _) | (with_reducible refine Kd.C_drew ?_) | exact HR189_0.out)) 1 p190 q190
            cases e190
            (try simp only [show (1 : Int).toNat = 1 from rfl, Nat.reduceMul, Nat.reduceEqDiff, Go.Addr.add, ↓reduceIte] at hx190_0)
            have qi190 : (1 < (rd_L1 x5_1 (ji12)).length) = True := eq_true (by omega)
            (try rw [show ((1 : Int)).toNat = 1 from rfl] at hx190_0)
            replace p190 := eq_true p190
            replace q190 := eq_true q190
            go_wp2_with (first | ((with_reducible refine gate_dst (N := 44) rfl ?_); refine Kd.R_lit (Kd.int .i64) _ 3 ?hg (N := 44) ?hd (xs := ([rd x12_1 x14_1, rd x12_1 x14_1] : List Int)) (inner := [.int .i64 (rd x12_1 x14_1), .int .i64 (rd x12_1 x14_1)]) (ok := fun _ => True) (okp := fun _ => True) ?hr ?hp (fun _ hk => hk) trivial (Below.refl _ _) (Nat.le_refl _) (by simp) ?_; (case hd => rfl); (case hg => rfl); (case hr => first | (go_simp; done) | (go_simp; rfl)); (case hp => exact (Reps.one (show Kd.M (Kd.int .i64) _ _ _ (rd x12_1 x14_1) [.int .i64 (rd x12_1 x14_1)] from rfl) (Reps.one (show Kd.M (Kd.int .i64) _ _ _ (rd x12_1 x14_1) [.int .i64 (rd x12_1 x14_1)] from rfl) (Reps.none _ _)))); intro v196 w23 ho24 hb hg_ hnew_; clear hg_ hnew_; (first | rw [← Ny195.out] at ho24 | (simp only [Int.reduceToNat] at ho24; rw [← Ny195.out] at ho24)); have n0_ := Aside0.mk (Kd.S_elder' (by (with_reducible repeat (first | apply Kd.S_alloc | apply Kd.S_drewN | apply Kd.S_drew)); exact HO_5.out) (Kd.R_base ho24) hb); have n1_ := Aside0.mk (Kd.R_elder' (by (with_reducible repeat (first | apply Kd.R_alloc | apply Kd.R_drewN | apply Kd.R_drew)); exact HO_12.out) (Kd.R_base ho24) hb); have n2_ := Aside0.mk (Kd.R_elder' (by (with_reducible repeat (first | apply Kd.R_alloc | apply Kd.R_drewN | apply Kd.R_drew)); exact HL189_0.out) (Kd.R_base ho24) hb); have n3_ := Aside0.mk (Kd.R_lower (Kd.R_new' (Kd.R_new' (Kd.R_newM (M := fun k_ => (w.heap.size ≤ k_)) ho24 (below_size (by repeat (first | (with_reducible first | exact HB.out | apply below_alloc | apply pw_below_drewN | apply below_drew1) | exact HB.out))) (fun k_ h_ => h_)) (Kd.R_lt (by (with_reducible repeat (first | apply Kd.R_alloc | apply Kd.R_drewN | apply Kd.R_drew)); exact HO_12.out))) (Kd.R_lt (by (with_reducible repeat (first | apply Kd.R_alloc | apply Kd.R_drewN | apply Kd.R_drew)); exact HL189_0.out))) (below_size (by repeat (first | (with_reducible first | exact HB.out | apply below_alloc | apply pw_below_drewN | apply below_drew1) | exact HB.out)))); have n4_ := Aside0.mk (Kd.C_below (by repeat (first | (with_reducible exact HR189_0.out) | (with_reducible refine Kd.C_alloc ?_ _) | (with_reducible refine Kd.C_drewN ?_ _) | (with_reducible refine Kd.C_drew ?_) | exact HR189_0.out)) hb); have n5_ := Aside0.mk (pw_cell_below hb HX189_0.out); have n6_ := Aside0.mk (below_step (by repeat (first | (with_reducible first | exact HB.out | apply below_alloc | apply pw_below_drewN | apply below_drew1) | exact HB.out)) hb); clear HO_5; clear HO_12; clear HL189_0; clear HR189_0; clear HX189_0; clear HB; have HO_5 := n0_; have HO_12 := n1_; have HL189_0 := n2_; have HO197 := n3_; have HR189_0 := n4_; have HX189_0 := n5_; have HB := n6_; clear n0_ n1_ n2_ n3_ n4_ n5_ n6_; clear hb ho24; obtain ⟨Ao26, co26, eo26⟩ := Kd.R_slice HO197.out; subst eo26) | ((with_reducible refine gate_builtin (b := .append) (xs := #[.tmp 41, .tmp 45]) rfl ?_); at_builtin; refine Kd.S_append (Kd.slice 3 (Kd.int .i64)) (w0 := w) w.heap.size rfl (.tmp 41) (.tmp 45) 39 29 (.slice none 0 0) 24 rfl Try.underlying39 info29 rfl (by decide) (by omega) (.slice (some ad189) x5_1.length co22) x5_1 y195 [.slice Ao26 y195.length co26] (fun k_ => (w.heap.size ≤ k_) ∧ some k_ ≠ (.slice (some ad188) x12_1.length co7 : Value).ownBlock) (fun k_ => some k_ = (.slice Ao26 y195.length co26 : Value).ownBlock) rfl rfl ?aP (fun k_ hk_ => ((Kd.R_mono (ok' := fun k_ => ((fun k_ => (w.heap.size ≤ k_) ∧ some k_ ≠ (.slice (some ad188) x12_1.length co7 : Value).ownBlock)) k_ ∧ some k_ ≠ (.slice (some ad189) x5_1.length co22 : Value).ownBlock) (Kd.R_apart' (HO197.out) (Kd.S_typed HO_5.out) (by decide)) (fun k_ hk => ⟨⟨hk.1.1.1.1, hk.1.1.2⟩, hk.2⟩))).1 k_ hk_.symm) ?aF ?aO ?aB ?aS ?aL ?_; (case aP => exact Kd.M_row (Kd.R_mono (Kd.R_tight rfl (Kd.R_mono (ok' := fun k_ => ((fun k_ => (w.heap.size ≤ k_) ∧ some k_ ≠ (.slice (some ad188) x12_1.length co7 : Value).ownBlock)) k_ ∧ some k_ ≠ (.slice (some ad189) x5_1.length co22 : Value).ownBlock) (Kd.R_apart' (HO197.out) (Kd.S_typed HO_5.out) (by decide)) (fun k_ hk => ⟨⟨hk.1.1.1.1, hk.1.1.2⟩, hk.2⟩))) (fun _ h_ => h_))); (case aB => exact (by repeat (first | (with_reducible first | exact HB.out | apply below_alloc | apply pw_below_drewN | apply below_drew1) | exact HB.out))); (case aF => exact (fun k_ hk => ⟨(Nat.le_trans (below_size (by repeat (first | (with_reducible first | exact HB.out | apply below_alloc | apply pw_below_drewN | apply below_drew1) | exact HB.out))) hk), Kd.fresh' (Kd.R_lt (by (with_reducible repeat (first | apply Kd.R_alloc | apply Kd.R_drewN | apply Kd.R_drew)); exact HO_12.out)) k_ hk⟩)); (case aO => exact (by (with_reducible repeat (first | apply Kd.S_alloc | apply Kd.S_drewN | apply Kd.S_drew)); exact Kd.S_mono HO_5.out (fun k_ hk => ⟨⟨hk.1.1, hk.1.2⟩, fun e_ => hk.2 e_⟩))); (case aS => exact (below_size (by repeat (first | (with_reducible first | exact HB.out | apply below_alloc | apply pw_below_drewN | apply below_drew1) | exact HB.out)))); (case aL => have := LMc21.out; omega); intro v199 w25 ho hb hg hat; rw [← Ny198.out] at ho; have n0_ := Aside0.mk (Kd.R_over' (by (with_reducible repeat (first | apply Kd.R_alloc | apply Kd.R_drewN | apply Kd.R_drew)); exact HO_12.out) (Kd.S_typed (by (with_reducible repeat (first | apply Kd.S_alloc | apply Kd.S_drewN | apply Kd.S_drew)); exact HO_5.out)) (by decide) hg); have n1_ := Aside0.mk (Kd.R_after (ok := (fun k_ => (w.heap.size ≤ k_) ∧ some k_ ≠ (.slice (some ad188) x12_1.length co7 : Value).ownBlock ∧ some k_ ≠ (.slice Ao26 y195.length co26 : Value).ownBlock)) (by (with_reducible repeat (first | apply Kd.R_alloc | apply Kd.R_drewN | apply Kd.R_drew)); exact Kd.R_mono HL189_0.out (fun _ hk => ⟨⟨hk.1.1.1, ⟨hk.1.1.2, hk.2⟩⟩, hk.1.2⟩)) hg hat); have n2_ := Aside0.mk (hb); have n3_ := Aside0.mk (ho); clear HO_12; clear HL189_0; clear HB; clear HO_5; clear HO197; have HO_12 := n0_; have HL189_0 := n1_; have HB := n2_; have HO200 := n3_; clear n0_ n1_ n2_ n3_; clear ho hb hg hat))
            (try simp only [← hl12_1])
            go_roundg k1
            case measure => have := HK1.out; omega
            case rel => exact ⟨(y198), (x12_1), (wrap64 (x14_1 + 1)), (by first | rfl | (simp; done) | (simp [*]; done)), H', ⟨by have := HK1.out; omega⟩, ⟨by (try simp only [hl12_1]); (with_reducible repeat (first | apply Kd.S_alloc | apply Kd.S_drewN | apply Kd.S_drew)); exact HO200.out⟩, ⟨by (try simp only [hl12_1]); (with_reducible repeat (first | apply Kd.R_alloc | apply Kd.R_drewN | apply Kd.R_drew)); exact Kd.R_mono HO_12.out (fun _ hk => hk.1)⟩, ⟨by repeat (first | (with_reducible first | exact HB.out | apply below_alloc | apply pw_below_drewN | apply below_drew1) | exact HB.out)⟩⟩
           ·rw [if_neg c21] at H
            exact absurd H (by simp)
         ·rw [if_neg c15] at H
          exact absurd H (by simp)
        ·rw [if_neg c14] at H
         exact absurd H (by simp)
       ·rw [if_neg c13] at H
        exact absurd H (by simp)
      ·rw [if_neg c11] at H
       have c11b0 : decide (0 < (x5_1.length : Int)) = false := decide_eq_false c11
       have c11b1 : decide (0 < x5_1.length) = false := decide_eq_false (by omega)
       clear c11
       obtain ⟨y201, hy201⟩ : ∃ y_ : List Int, y_ = (([rd x12_1 x14_1, rd x12_1 x14_1] : List Int)) := ⟨_, rfl⟩
       replace H : (if x5_1.length < 5864062014805 then (impl_RowsOf.l0 k1 (x5_1 ++ [y201]) x12_1 (t185.length : Int) (wrap64 (x14_1 + 1))) else (none)) = some r := by first | (rw [hy201]; with_reducible exact H) | (have H2_ := (Option.bind_some _ _).symm.trans H; rw [hy201]; with_reducible exact H2_) | (have H2_ := (Option.bind_some _ _).symm.trans H; with_reducible exact H2_) | with_reducible exact H | (rw [hy201]; exact H) | exact H
       have Ny201 := Aside0.mk hy201
       clear hy201
       by_cases c27 : x5_1.length < 5864062014805
       ·rw [if_pos c27] at H
        have LMc27 := Aside0.mk c27
        clear c27
        obtain ⟨y204, hy204⟩ : ∃ y_ : List (List Int), y_ = (x5_1 ++ [y201]) := ⟨_, rfl⟩
        replace H : (impl_RowsOf.l0 k1 y204 x12_1 (t185.length : Int) (wrap64 (x14_1 + 1))) = some r := by first | (rw [hy204]; with_reducible exact H) | (have H2_ := (Option.bind_some _ _).symm.trans H; rw [hy204]; with_reducible exact H2_) | (have H2_ := (Option.bind_some _ _).symm.trans H; with_reducible exact H2_) | with_reducible exact H | (rw [hy204]; exact H) | exact H
        have Ny204 := Aside0.mk hy204
        clear hy204
        have H' := Aside0.mk H
        clear H
        have p188 : 0 ≤ (x14_1 : Int) := of_decide_eq_true (by first | (with_reducible assumption) | assumption)
        have q188 : x14_1 < (x12_1.length : Int) := of_decide_eq_true (by first | (with_reducible assumption) | assumption)
        obtain ⟨ad188, e188, hx188_0⟩ := Kd.at_int (Kd.R_reads' HO_12.out).2.2 x14_1 p188 q188
        cases e188
        replace p188 := eq_true p188
        replace q188 := eq_true q188
        obtain ⟨Ao28, co28, eo28⟩ := Kd.S_slice HO_5.out
        subst eo28
        go_wp2_with (first | ((with_reducible refine gate_dst (N := 44) rfl ?_); refine Kd.R_lit (Kd.int .i64) _ 3 ?hg (N := 44) ?hd (xs := ([rd x12_1 x14_1, rd x12_1 x14_1] : List Int)) (inner := [.int .i64 (rd x12_1 x14_1), .int .i64 (rd x12_1 x14_1)]) (ok := fun _ => True) (okp := fun _ => True) ?hr ?hp (fun _ hk => hk) trivial (Below.refl _ _) (Nat.le_refl _) (by simp) ?_; (case hd => rfl); (case hg => rfl); (case hr => first | (go_simp; done) | (go_simp; rfl)); (case hp => exact (Reps.one (show Kd.M (Kd.int .i64) _ _ _ (rd x12_1 x14_1) [.int .i64 (rd x12_1 x14_1)] from rfl) (Reps.one (show Kd.M (Kd.int .i64) _ _ _ (rd x12_1 x14_1) [.int .i64 (rd x12_1 x14_1)] from rfl) (Reps.none _ _)))); intro v202 w29 ho30 hb hg_ hnew_; clear hg_ hnew_; (first | rw [← Ny201.out] at ho30 | (simp only [Int.reduceToNat] at ho30; rw [← Ny201.out] at ho30)); have n0_ := Aside0.mk (Kd.S_elder' (by (with_reducible repeat (first | apply Kd.S_alloc | apply Kd.S_drewN | apply Kd.S_drew)); exact HO_5.out) (Kd.R_base ho30) hb); have n1_ := Aside0.mk (Kd.R_elder' (by (with_reducible repeat (first | apply Kd.R_alloc | apply Kd.R_drewN | apply Kd.R_drew)); exact HO_12.out) (Kd.R_base ho30) hb); have n2_ := Aside0.mk (Kd.R_lower (Kd.R_new' (Kd.R_newM (M := fun k_ => (w.heap.size ≤ k_)) ho30 (below_size (by repeat (first | (with_reducible first | exact HB.out | apply below_alloc | apply pw_below_drewN | apply below_drew1) | exact HB.out))) (fun k_ h_ => h_)) (Kd.R_lt (by (with_reducible repeat (first | apply Kd.R_alloc | apply Kd.R_drewN | apply Kd.R_drew)); exact HO_12.out))) (below_size (by repeat (first | (with_reducible first | exact HB.out | apply below_alloc | apply pw_below_drewN | apply below_drew1) | exact HB.out)))); have n3_ := Aside0.mk (below_step (by repeat (first | (with_reducible first | exact HB.out | apply below_alloc | apply pw_below_drewN | apply below_drew1) | exact HB.out)) hb); clear HO_5; clear HO_12; clear HB; have HO_5 := n0_; have HO_12 := n1_; have HO203 := n2_; have HB := n3_; clear n0_ n1_ n2_ n3_; clear hb ho30; obtain ⟨Ao32, co32, eo32⟩ := Kd.R_slice HO203.out; subst eo32) | ((with_reducible refine gate_builtin (b := .append) (xs := #[.tmp 41, .tmp 45]) rfl ?_); at_builtin; refine Kd.S_append (Kd.slice 3 (Kd.int .i64)) (w0 := w) w.heap.size rfl (.tmp 41) (.tmp 45) 39 29 (.slice none 0 0) 24 rfl Try.underlying39 info29 rfl (by decide) (by omega) (.slice Ao28 x5_1.length co28) x5_1 y201 [.slice Ao32 y201.length co32] (fun k_ => (w.heap.size ≤ k_) ∧ some k_ ≠ (.slice (some ad188) x12_1.length co7 : Value).ownBlock) (fun k_ => some k_ = (.slice Ao32 y201.length co32 : Value).ownBlock) rfl rfl ?aP (fun k_ hk_ => ((Kd.R_mono (ok' := fun k_ => ((fun k_ => (w.heap.size ≤ k_) ∧ some k_ ≠ (.slice (some ad188) x12_1.length co7 : Value).ownBlock)) k_ ∧ some k_ ≠ (.slice Ao28 x5_1.length co28 : Value).ownBlock) (Kd.R_apart' (HO203.out) (Kd.S_typed HO_5.out) (by decide)) (fun k_ hk => ⟨⟨hk.1.1.1, hk.1.2⟩, hk.2⟩))).1 k_ hk_.symm) ?aF ?aO ?aB ?aS ?aL ?_; (case aP => exact Kd.M_row (Kd.R_mono (Kd.R_tight rfl (Kd.R_mono (ok' := fun k_ => ((fun k_ => (w.heap.size ≤ k_) ∧ some k_ ≠ (.slice (some ad188) x12_1.length co7 : Value).ownBlock)) k_ ∧ some k_ ≠ (.slice Ao28 x5_1.length co28 : Value).ownBlock) (Kd.R_apart' (HO203.out) (Kd.S_typed HO_5.out) (by decide)) (fun k_ hk => ⟨⟨hk.1.1.1, hk.1.2⟩, hk.2⟩))) (fun _ h_ => h_))); (case aB => exact (by repeat (first | (with_reducible first | exact HB.out | apply below_alloc | apply pw_below_drewN | apply below_drew1) | exact HB.out))); (case aF => exact (fun k_ hk => ⟨(Nat.le_trans (below_size (by repeat (first | (with_reducible first | exact HB.out | apply below_alloc | apply pw_below_drewN | apply below_drew1) | exact HB.out))) hk), Kd.fresh' (Kd.R_lt (by (with_reducible repeat (first | apply Kd.R_alloc | apply Kd.R_drewN | apply Kd.R_drew)); exact HO_12.out)) k_ hk⟩)); (case aO => exact (by (with_reducible repeat (first | apply Kd.S_alloc | apply Kd.S_drewN | apply Kd.S_drew)); exact Kd.S_mono HO_5.out (fun k_ hk => ⟨⟨hk.1.1, hk.1.2⟩, fun e_ => hk.2 e_⟩))); (case aS => exact (below_size (by repeat (first | (with_reducible first | exact HB.out | apply below_alloc | apply pw_below_drewN | apply below_drew1) | exact HB.out)))); (case aL => have := LMc27.out; omega); intro v205 w31 ho hb hg hat; rw [← Ny204.out] at ho; have n0_ := Aside0.mk (Kd.R_over' (by (with_reducible repeat (first | apply Kd.R_alloc | apply Kd.R_drewN | apply Kd.R_drew)); exact HO_12.out) (Kd.S_typed (by (with_reducible repeat (first | apply Kd.S_alloc | apply Kd.S_drewN | apply Kd.S_drew)); exact HO_5.out)) (by decide) hg); have n1_ := Aside0.mk (hb); have n2_ := Aside0.mk (ho); clear HO_12; clear HB; clear HO_5; clear HO203; have HO_12 := n0_; have HB := n1_; have HO206 := n2_; clear n0_ n1_ n2_; clear ho hb hg hat))
        (try simp only [← hl12_1])
        go_roundg k1
        case measure => have := HK1.out; omega
        case rel => exact ⟨(y204), (x12_1), (wrap64 (x14_1 + 1)), (by first | rfl | (simp; done) | (simp [*]; done)), H', ⟨by have := HK1.out; omega⟩, ⟨by (try simp only [hl12_1]); (with_reducible repeat (first | apply Kd.S_alloc | apply Kd.S_drewN | apply Kd.S_drew)); exact HO206.out⟩, ⟨by (try simp only [hl12_1]); (with_reducible repeat (first | apply Kd.R_alloc | apply Kd.R_drewN | apply Kd.R_drew)); exact Kd.R_mono HO_12.out (fun _ hk => hk.1)⟩, ⟨by repeat (first | (with_reducible first | exact HB.out | apply below_alloc | apply pw_below_drewN | apply below_drew1) | exact HB.out)⟩⟩
       ·rw [if_neg c27] at H
        exact absurd H (by simp)
     ·rw [if_neg c10] at H
      exact absurd H (by simp)
    ·rw [if_neg c9] at H
     exact absurd H (by simp)
   ·rw [if_neg c8] at H
    have c8b0 : decide (x14_1 < (t185.length : Int)) = false := decide_eq_false c8
    rw [hl12_1] at c8b0
    clear c8
    replace H := Option.bind_eq_some_iff.mp H
    obtain ⟨t207, A330, H⟩ := H
    replace H : (some t207) = some r := H
    have A33 := Aside0.mk A330
    clear A330
    obtain rfl := Option.some.inj H
    obtain ⟨Ao34, co34, eo34⟩ := Kd.S_slice HO_5.out
    subst eo34
    go_wp2_with (first | ((with_reducible refine gate_callee (f := 65) rfl ?_); refine goesL_ (some 49) rfl rfl Try.func65 (by kernel_rfl) rfl #[.slice Ao34 x5_1.length co34] rfl (by (try simp only [List.map_toArray, List.map_cons, List.map_nil]); first | done | rfl | (simp only [List.length_drop, List.length_take]; rfl)) ?_; (with_reducible refine (slices_Clip_int_int.calls (fun k_ => ((w.heap.size ≤ k_) ∧ some k_ ≠ (.slice Ao7 x12_1.length co7 : Value).ownBlock)) _ _ x5_1 t207 _ ?side1 A33.out).mono ?_); (case side1 => exact Kd.S_V (HO_5.out)); rintro e w35 ⟨v208, rfl, ho0, hb⟩; refine ⟨_, rfl, ?_⟩; have n0_ := Aside0.mk (Kd.S_below (by (with_reducible repeat (first | apply Kd.S_alloc | apply Kd.S_drewN | apply Kd.S_drew)); exact HO_5.out) hb); have n1_ := Aside0.mk (Kd.R_below (by (with_reducible repeat (first | apply Kd.R_alloc | apply Kd.R_drewN | apply Kd.R_drew)); exact HO_12.out) hb); have n2_ := Aside0.mk (Kd.V_lower (Kd.V_mono (ok' := fun k_ => (w.heap.size ≤ k_) ∧ some k_ ≠ (.slice Ao7 x12_1.length co7 : Value).ownBlock) ho0 (fun k_ hk_ => ⟨Or.elim hk_ (fun hs_ => hs_.1) (fun hn_ => (Nat.le_trans (below_size (by repeat (first | (with_reducible first | exact HB.out | apply below_alloc | apply pw_below_drewN | apply below_drew1) | exact HB.out))) hn_)), Or.elim hk_ (fun hs_ => hs_.2) (fun hn_ => (Kd.fresh' (Kd.R_lt (by (with_reducible repeat (first | apply Kd.R_alloc | apply Kd.R_drewN | apply Kd.R_drew)); exact HO_12.out)) k_ hn_))⟩)) (below_size (by repeat (first | (with_reducible first | exact HB.out | apply below_alloc | apply pw_below_drewN | apply below_drew1) | exact HB.out)))); have n3_ := Aside0.mk (below_step (by repeat (first | (with_reducible first | exact HB.out | apply below_alloc | apply pw_below_drewN | apply below_drew1) | exact HB.out)) hb); clear HO_5; clear HO_12; clear HB; have HO_5 := n0_; have HO_12 := n1_; have HO209 := n2_; have HB := n3_; clear n0_ n1_ n2_ n3_; (try clear hb); (try clear hb2); (try clear hk); (try clear hi); (try clear ho0)))
    go_ret
    exact ⟨_, by first | rfl | (simp [errW_none, errW_some] <;> rfl) | (simp [*, errW_none, errW_some] <;> rfl), by (with_reducible repeat (first | apply Kd.V_alloc | apply Kd.V_drewN | apply Kd.V_drew)); exact Kd.V_mono HO209.out (fun _ hk => hk.1), by repeat (first | (with_reducible first | exact HB.out | apply below_alloc | apply pw_below_drewN | apply below_drew1) | exact HB.out)⟩
set_option maxHeartbeats 8000000 in
set_option maxRecDepth 100000 in
theorem impl_RowsOf.clip (A : Option Addr) (n c : Nat) (hc : n ≤ c) (w : World) : Calls Try.prog 65 #[.slice A n c] w fun e w' => e = .returned (.slice A n n) ∧ w' = w := by
 have hb : (n : Int) ≤ (n : Int) := Int.le_refl _
 have h0 : (0 : Int) ≤ (n : Int) := by omega
 obtain ⟨i05, hi05, _, hsz5, _⟩ := info_parts info29
 have hcut5 := slices_Clip_int_int_run (P := Try.prog) 39 29 Try.underlying39 hi05 A n c (n : Int) h0 hb hc
 rw [Int.toNat_natCast] at hcut5
 clear hi05 hsz5
 go_enter Try.func65, Try.ntmps65
 go_wp2
 go_ret
 exact ⟨rfl, rfl⟩
set_option maxHeartbeats 8000000 in
set_option maxRecDepth 100000 in
theorem impl_RowsOf.strong (k : Nat) (A0 : Option Addr) (c0 : Nat) (l0 : List Int) (a1 : Int) (r : List (List Int)) (w : World) (hr0 : Kd.C (Kd.int .i64) w A0 l0.length l0) (hc0 : l0.length ≤ c0) (h : impl_RowsOf.f k l0 a1 = some r) :
  Calls Try.prog 37 #[.slice A0 l0.length c0, .int .i64 a1] w fun e w' => ∃ (A_ : Option Addr) (c_ : Nat), e = .returned (.slice A_ r.length r.length) ∧ Kd.S (Kd.slice 3 (Kd.int .i64)) 29 w' w.heap.size (fun k_ => (w.heap.size ≤ k_)) (.slice A_ r.length c_) r ∧ Below w.heap.size w w' := by
 have HR0 := Aside0.mk hr0
 have HC0 := Aside0.mk hc0
 clear hr0 hc0
 have HB := Aside0.mk (Below.refl w.heap.size w)
 have H : ((impl_YieldOf.f k l0 a1).bind fun t185 => (impl_RowsOf.l0 k (([] : List (List Int))) t185 (t185.length : Int) 0)) = some r := h
 clear h
 obtain ⟨y182, hy182⟩ : ∃ y_ : List (List Int), y_ = (([] : List (List Int))) := ⟨_, rfl⟩
 replace H : ((impl_YieldOf.f k l0 a1).bind fun t185 => (impl_RowsOf.l0 k y182 t185 (t185.length : Int) 0)) = some r := by first | (rw [hy182]; with_reducible exact H) | (have H2_ := (Option.bind_some _ _).symm.trans H; rw [hy182]; with_reducible exact H2_) | (have H2_ := (Option.bind_some _ _).symm.trans H; with_reducible exact H2_) | with_reducible exact H | (rw [hy182]; exact H) | exact H
 have Ny182 := Aside0.mk hy182
 clear hy182
 replace H := Option.bind_eq_some_iff.mp H
 obtain ⟨t185, A30, H⟩ := H
 replace H : (impl_RowsOf.l0 k y182 t185 (t185.length : Int) 0) = some r := H
 have A3 := Aside0.mk A30
 clear A30
 have H' := Aside0.mk H
 clear H
 go_enter Try.func37, Try.ntmps37
 go_wp2_with (first | ((with_reducible refine gate_dst (N := 9) rfl ?_); refine Kd.S_lit (Kd.slice 3 (Kd.int .i64)) _ 29 ?hg (N := 9) ?hd (xs := ([] : List (List Int))) (inner := []) (ok := fun _ => True) (okp := fun _ => True) ?hr ?hp (fun _ hk => hk) trivial (Below.refl _ _) (Nat.le_refl _) (by simp) ?_; (case hd => rfl); (case hg => rfl); (case hr => first | (go_simp; done) | (go_simp; rfl)); (case hp => exact (Reps.none _ _)); intro v183 w4 ho5 hb hg_ hnew_; clear hg_ hnew_; (first | rw [← Ny182.out] at ho5 | (simp only [Int.reduceToNat] at ho5; rw [← Ny182.out] at ho5)); have n0_ := Aside0.mk (Kd.S_lower (Kd.S_newM (M := fun k_ => (w.heap.size ≤ k_)) ho5 (below_size (by repeat (first | (with_reducible first | exact HB.out | apply below_alloc | apply pw_below_drewN | apply below_drew1) | exact HB.out))) (fun k_ h_ => h_)) (below_size (by repeat (first | (with_reducible first | exact HB.out | apply below_alloc | apply pw_below_drewN | apply below_drew1) | exact HB.out)))); have n1_ := Aside0.mk (below_step (by repeat (first | (with_reducible first | exact HB.out | apply below_alloc | apply pw_below_drewN | apply below_drew1) | exact HB.out)) hb); clear HB; have HO184 := n0_; have HB := n1_; clear n0_ n1_; clear hb ho5) | ((with_reducible refine gate_callee (f := 43) rfl ?_); refine goesL_ (some 12) rfl rfl Try.func43 (by kernel_rfl) rfl #[.slice A0 l0.length c0, .int .i64 a1] rfl (by (try simp only [List.map_toArray, List.map_cons, List.map_nil]); first | done | rfl | (simp only [List.length_drop, List.length_take]; rfl)) ?_; (with_reducible refine (impl_YieldOf.calls k _ _ l0 a1 t185 _ ?side1 ?side2 A3.out).mono ?_); (case side1 => repeat (first | exact (Kd.C_below HR0.out HB.out) | (with_reducible refine Kd.C_alloc ?_ _) | (with_reducible refine Kd.C_drewN ?_ _) | (with_reducible refine Kd.C_drew ?_))); (case side2 => exact HC0.out); rintro e w6 ⟨v186, rfl, ho0, hb⟩; refine ⟨_, rfl, ?_⟩; have n0_ := Aside0.mk (Kd.S_elder' (by (with_reducible repeat (first | apply Kd.S_alloc | apply Kd.S_drewN | apply Kd.S_drew)); exact HO184.out) (Kd.R_base ho0) hb); have n1_ := Aside0.mk (Kd.R_lower (Kd.R_newM (M := fun k_ => (w.heap.size ≤ k_)) ho0 (below_size (by repeat (first | (with_reducible first | exact HB.out | apply below_alloc | apply pw_below_drewN | apply below_drew1) | exact HB.out))) (fun k_ h_ => h_)) (below_size (by repeat (first | (with_reducible first | exact HB.out | apply below_alloc | apply pw_below_drewN | apply below_drew1) | exact HB.out)))); have n2_ := Aside0.mk (below_step (by repeat (first | (with_reducible first | exact HB.out | apply below_alloc | apply pw_below_drewN | apply below_drew1) | exact HB.out)) hb); clear HO184; clear HB; have HO184 := n0_; have HO187 := n1_; have HB := n2_; clear n0_ n1_ n2_; (try clear hb); (try clear hb2); (try clear hk); (try clear hi); (try clear ho0); obtain ⟨Ao7, co7, eo7⟩ := Kd.R_slice HO187.out; subst eo7))
 go_loopg [5, 14] k (fun kq v5 v14 w' => ∃ (x5_1 : List (List Int)) (x12_1 : List Int) (x14_1 : Int), v14 = .int .i64 x14_1 ∧ Aside0 (impl_RowsOf.l0 kq x5_1 x12_1 (t185.length : Int) x14_1 = some r) ∧ Aside0 (kq ≤ k) ∧ Aside0 (Kd.S (Kd.slice 3 (Kd.int .i64)) 29 w' w.heap.size (fun k_ => (w.heap.size ≤ k_) ∧ some k_ ≠ ((.slice Ao7 t185.length co7) : Value).ownBlock) v5 x5_1) ∧ Aside0 (Kd.R (Kd.int .i64) 3 w' w.heap.size (fun k_ => (w.heap.size ≤ k_)) (.slice Ao7 t185.length co7) x12_1) ∧ Aside0 (Below w.heap.size w w'))
 case atStart => exact ⟨(y182), (t185), (0), (by first | rfl | (simp; done) | (simp [*]; done)), H', ⟨Nat.le_refl _⟩, ⟨by (with_reducible repeat (first | apply Kd.S_alloc | apply Kd.S_drewN | apply Kd.S_drew)); exact Kd.S_mono HO184.out (fun _ hk => ⟨hk.1.1, hk.2⟩)⟩, ⟨by (with_reducible repeat (first | apply Kd.R_alloc | apply Kd.R_drewN | apply Kd.R_drew)); exact Kd.R_mono HO187.out (fun _ hk => hk.1)⟩, ⟨by repeat (first | (with_reducible first | exact HB.out | apply below_alloc | apply pw_below_drewN | apply below_drew1) | exact HB.out)⟩⟩
 case round =>
  clear H'
  try clear p2
  try clear c3
  try clear c4
  obtain ⟨x5_1, x12_1, x14_1, rfl, HA, HK1, HO_5, HO_12, HB⟩ := hrel
  have hl12_1 := (Kd.R_reads' HO_12.out).1
  rw [hl12_1] at HO_12
  (try simp only [hl12_1])
  (try simp only [hl12_1] at HO_5)
  cases gk with
  | zero => exact absurd HA.out (by simp [impl_RowsOf.l0])
  | succ k1 =>
   have H := HA.out
   clear HA
   simp only [impl_RowsOf.l0] at H
   by_cases c8 : x14_1 < (t185.length : Int)
   ·rw [if_pos c8] at H
    have c8b0 : decide (x14_1 < (t185.length : Int)) = true := decide_eq_true c8
    clear c8
    by_cases c9 : 0 ≤ x14_1
    ·rw [if_pos c9] at H
     have c9b0 : decide (0 ≤ x14_1) = true := decide_eq_true c9
     clear c9
     by_cases c10 : x14_1 < (x12_1.length : Int)
     ·rw [if_pos c10] at H
      have c10b0 : decide (x14_1 < (x12_1.length : Int)) = true := decide_eq_true c10
      clear c10
      by_cases c11 : (x5_1.length : Int) > 0
      ·rw [if_pos c11] at H
       have c11b0 : decide (0 < (x5_1.length : Int)) = true := decide_eq_true c11
       have c11b1 : decide (0 < x5_1.length) = true := decide_eq_true (by omega)
       clear c11
       obtain ⟨ji12, hji12⟩ : ∃ j_ : Int, (wrap64 ((x5_1.length : Int) - 1)) = j_ := ⟨_, rfl⟩
       replace H : (if 0 ≤ (ji12) then (if (ji12) < (x5_1.length : Int) then (if 1 < ((rd_L1 x5_1 (ji12)).length : Int) then (if (rd (rd_L1 x5_1 (ji12)) 1) = (wrap64 ((rd x12_1 x14_1) - 1)) then (impl_RowsOf.l0 k1 (x5_1.set ((ji12) : Int).toNat ((rd_L1 x5_1 (ji12)).set (1 : Int).toNat (rd x12_1 x14_1))) x12_1 (t185.length : Int) (wrap64 (x14_1 + 1))) else (if x5_1.length < 5864062014805 then (impl_RowsOf.l0 k1 (x5_1 ++ [(([rd x12_1 x14_1, rd x12_1 x14_1] : List Int))]) x12_1 (t185.length : Int) (wrap64 (x14_1 + 1))) else (none))) else (none)) else (none)) else (none)) = some r := by first | (rw [hji12] at H; exact H) | (simp only [hji12] at H ⊢; exact H)
       have hji12w : (IntKind.i64.wrap ((x5_1.length : Int) - 1)) = ji12 := (i64_w _).trans hji12
       by_cases c13 : 0 ≤ (ji12)
       ·rw [if_pos c13] at H
        have c13b0 : decide (0 ≤ (ji12)) = true := decide_eq_true c13
        clear c13
        by_cases c14 : (ji12) < (x5_1.length : Int)
        ·rw [if_pos c14] at H
         have c14b0 : decide ((ji12) < (x5_1.length : Int)) = true := decide_eq_true c14
         clear c14
         by_cases c15 : 1 < ((rd_L1 x5_1 (ji12)).length : Int)
         ·rw [if_pos c15] at H
          have c15b0 : decide (1 < ((rd_L1 x5_1 (ji12)).length : Int)) = true := decide_eq_true c15
          have c15b1 : decide (1 < (rd_L1 x5_1 (ji12)).length) = true := decide_eq_true (by omega)
          clear c15
          by_cases c16 : (rd (rd_L1 x5_1 (ji12)) 1) = (wrap64 ((rd x12_1 x14_1) - 1))
          ·rw [if_pos c16] at H
           have c16b0 : ((rd (rd_L1 x5_1 (ji12)) 1) == (wrap64 ((rd x12_1 x14_1) - 1))) = true := beq_iff_eq.mpr c16
           have c16b1 : ((rd (rd_L1 x5_1 (ji12)) 1) != (wrap64 ((rd x12_1 x14_1) - 1))) = false := bne_eq_false_iff_eq.mpr c16
           clear c16
           obtain ⟨y192, hy192⟩ : ∃ y_ : List Int, y_ = ((rd_L1 x5_1 (ji12)).set (1 : Int).toNat (rd x12_1 x14_1)) := ⟨_, rfl⟩
           replace H : (impl_RowsOf.l0 k1 (x5_1.set ((ji12) : Int).toNat y192) x12_1 (t185.length : Int) (wrap64 (x14_1 + 1))) = some r := by first | (rw [hy192]; with_reducible exact H) | (have H2_ := (Option.bind_some _ _).symm.trans H; rw [hy192]; with_reducible exact H2_) | (have H2_ := (Option.bind_some _ _).symm.trans H; with_reducible exact H2_) | with_reducible exact H | (rw [hy192]; exact H) | exact H
           have Ny192 := Aside0.mk hy192
           clear hy192
           obtain ⟨y194, hy194⟩ : ∃ y_ : List (List Int), y_ = (x5_1.set ((ji12) : Int).toNat y192) := ⟨_, rfl⟩
           replace H : (impl_RowsOf.l0 k1 y194 x12_1 (t185.length : Int) (wrap64 (x14_1 + 1))) = some r := by first | (rw [hy194]; with_reducible exact H) | (have H2_ := (Option.bind_some _ _).symm.trans H; rw [hy194]; with_reducible exact H2_) | (have H2_ := (Option.bind_some _ _).symm.trans H; with_reducible exact H2_) | with_reducible exact H | (rw [hy194]; exact H) | exact H
           have Ny194 := Aside0.mk hy194
           clear hy194
           have H' := Aside0.mk H
           clear H
           have p188 : 0 ≤ (x14_1 : Int) := of_decide_eq_true (by first | (with_reducible assumption) | assumption)
           have q188 : x14_1 < (x12_1.length : Int) := of_decide_eq_true (by first | (with_reducible assumption) | assumption)
           obtain ⟨ad188, e188, hx188_0⟩ := Kd.at_int (Kd.R_reads' HO_12.out).2.2 x14_1 p188 q188
           cases e188
           replace p188 := eq_true p188
           replace q188 := eq_true q188
           obtain ⟨Ao18, co18, eo18⟩ := Kd.S_slice HO_5.out
           subst eo18
           have p189 : 0 ≤ ((ji12) : Int) := of_decide_eq_true (by first | (with_reducible assumption) | assumption)
           have q189 : (ji12) < (x5_1.length : Int) := of_decide_eq_true (by first | (with_reducible assumption) | assumption)
           obtain ⟨ad189, A189_0, c189_0, e189, hx189_0, hl189_0, hi189_0⟩ := at_L1 (Kd.S_reads' HO_5.out).2.2 (ji12) p189 q189
           cases e189
           obtain ⟨ce189, hce189, hMe189, hcc189⟩ := Kd.S_get HO_5.out [] (ji12) p189 (by first | exact q189 | exact of_decide_eq_true (by first | (with_reducible assumption) | assumption) | (have e_ := (Kd.S_reads' HO_5.out).1; omega))
           obtain ⟨ve189_0, rfl, ge189_0⟩ := hMe189
           have hv189_0 := hcc189 0 _ rfl
           rw [Nat.add_zero, show ((Kd.slice 3 (Kd.int .i64))).sz = 1 from rfl, Nat.mul_one] at hv189_0
           replace hv189_0 := Option.some.inj (hv189_0.symm.trans hx189_0)
           rw [hv189_0] at ge189_0
           have HL189_0 := Aside0.mk (show Kd.R (Kd.int .i64) 3 _ _ _ _ (rd_L1 x5_1 (ji12)) from ge189_0)
           clear hv189_0 ge189_0
           have HX189_0 := Aside0.mk hx189_0
           clear hcc189 hce189
           have HR189_0 := Aside0.mk hi189_0
           have HC189_0 := Aside0.mk hl189_0
           clear hi189_0 hl189_0
           replace p189 := eq_true p189
           replace q189 := eq_true q189
           have p190 : 0 ≤ (1 : Int) := (by omega)
           have q190 : 1 < ((rd_L1 x5_1 (ji12)).length : Int) := of_decide_eq_true (by first | (with_reducible assumption) | assumption)
           obtain ⟨ad190, e190, hx190_0⟩ := Kd.at_int (by repeat (first | (with_reducible exact HR189_0.out) | (with_reducible refine Kd.C_alloc ?_ _) | (with_reducible refine Kd.C_drewN ?_ _) | (with_reducible refine Kd.C_drew ?_) | exact HR189_0.out)) 1 p190 q190
           cases e190
           (try simp only [show (1 : Int).toNat = 1 from rfl, Nat.reduceMul, Nat.reduceEqDiff, Go.Addr.add, ↓reduceIte] at hx190_0)
           have qi190 : (1 < (rd_L1 x5_1 (ji12)).length) = True := eq_true (by omega)
           (try rw [show ((1 : Int)).toNat = 1 from rfl] at hx190_0)
           replace p190 := eq_true p190
           replace q190 := eq_true q190
           have p191 : 0 ≤ ((ji12) : Int) := of_decide_eq_true (by first | (with_reducible assumption) | assumption)
           have q191 : (ji12) < (x5_1.length : Int) := of_decide_eq_true (by first | (with_reducible assumption) | assumption)
           obtain ⟨ad191, A191_0, c191_0, e191, hx191_0, hl191_0, hi191_0⟩ := at_L1 (Kd.S_reads' HO_5.out).2.2 (ji12) p191 q191
           obtain rfl : ad189 = ad191 := (by injection e191)
           obtain ⟨ce191, hce191, hMe191, hcc191⟩ := Kd.S_get HO_5.out [] (ji12) p191 (by first | exact q191 | exact of_decide_eq_true (by first | (with_reducible assumption) | assumption) | (have e_ := (Kd.S_reads' HO_5.out).1; omega))
           obtain ⟨ve191_0, rfl, ge191_0⟩ := hMe191
           have hv191_0 := hcc191 0 _ rfl
           rw [Nat.add_zero, show ((Kd.slice 3 (Kd.int .i64))).sz = 1 from rfl, Nat.mul_one] at hv191_0
           replace hv191_0 := Option.some.inj (hv191_0.symm.trans hx191_0)
           rw [hv191_0] at ge191_0
           have HL191_0 := Aside0.mk (show Kd.R (Kd.int .i64) 3 _ _ _ _ (rd_L1 x5_1 (ji12)) from ge191_0)
           clear hv191_0 ge191_0
           have HX191_0 := Aside0.mk hx191_0
           clear hcc191 hce191
           have HR191_0 := Aside0.mk hi191_0
           have HC191_0 := Aside0.mk hl191_0
           clear hi191_0 hl191_0
           replace p191 := eq_true p191
           replace q191 := eq_true q191
           have ea_ := Option.some.inj (hx189_0.symm.trans hx191_0)
           injection ea_ with ea_ en_ ec_
           subst ea_
           subst ec_
           clear en_
           have p17 : 0 ≤ (1 : Int) := (by omega)
           have q17 : (1 : Int) < (((rd_L1 x5_1 (ji12)).length : Int) : Int) := of_decide_eq_true (by first | (with_reducible assumption) | assumption)
           have qi17 : (1 < (rd_L1 x5_1 (ji12)).length) = True := eq_true (by omega)
           obtain ⟨go17, co17, eo17, gb17, gl17, cl17, HG17⟩ := Kd.R_form HL191_0.out (by omega)
           (first | cases eo17 | (injection eo17 with ea_ en_ ec_; (first | subst ea_ | (injection ea_ with ea_; subst ea_)); subst ec_; clear en_))
           have GB17 := Aside0.mk gb17
           have GG17 := Aside0.mk HG17
           clear gb17 gl17 HG17
           (first | simp only [add_plain] at hx190_0 | skip)
           obtain ⟨hx17_0, hf17_0⟩ := Kd.R_celln 0 HL191_0.out (1 : Int) p17 q17
           (try rw [show ((1 : Int)).toNat = 1 from rfl] at hx17_0)
           (try simp only [Nat.reduceMul, Nat.zero_mul, Nat.zero_add, Nat.reduceAdd] at hx17_0)
           (try rw [show ((1 : Int)).toNat = 1 from rfl] at hf17_0)
           (try simp only [Nat.reduceMul, Nat.zero_mul, Nat.zero_add, Nat.reduceAdd] at hf17_0)
           replace p17 := eq_true p17
           replace q17 := eq_true q17
           have hq19 : ((ji12) : Int) < (x5_1.length : Int) := (by have h_ : ((ji12) : Int) < ((x5_1.length : Int) : Int) := of_decide_eq_true (by first | (with_reducible assumption) | assumption); first | exact h_ | (have e_ := (Kd.S_reads' HO_5.out).1; omega) | simpa only [List.length_set, List.length_set] using h_)
           obtain ⟨oki19, ce19, hcl19, hM19, hcc19, hok19, hbk19⟩ := Kd.S_borrow HO_5.out [] ((ji12) : Int) (of_decide_eq_true (by first | (with_reducible assumption) | assumption)) hq19
           obtain ⟨ve19_0, rfl, ge19_0⟩ := hM19
           have hv19 := hcc19 0 _ rfl
           rw [Nat.add_zero, show ((Kd.slice 3 (Kd.int .i64))).sz = 1 from rfl, Nat.mul_one] at hv19
           replace hv19 := Option.some.inj (hv19.symm.trans HX191_0.out)
           subst hv19
           clear hcc19 hcl19
           replace ge19_0 := (show Kd.R (Kd.int .i64) 3 _ _ _ _ (rd_L1 x5_1 (ji12)) from ge19_0)
           have HP19 := Kd.R_putg ge19_0 (1 : Int) (rd x12_1 x14_1)
           go_wp2_with (first | ((with_reducible refine gate_store (t := 3) (p := 40) rfl ?_); refine store_event (t := 3) (p := 40) (v := ?vo_w20) (w1 := (wr.setCell ⟨go17, 1, none⟩ (.int .i64 (rd x12_1 x14_1)))) ?hg ?ho ?hn ?hr ?_; (case ho => rfl); (case hg => rfl); (case hn => rfl); (case hr => first | (go_simp; done) | (go_simp; rfl)); intro w20 hw; have hg : wr.grownBy w20 (some go17) := (by rw [hw]; exact HP19.2); have hz_ : Kd.R (Kd.int .i64) 3 w20 w.heap.size oki19 (.slice (some ⟨go17, 0, none⟩) (rd_L1 x5_1 (ji12)).length c189_0) y192 := (by rw [hw, Ny192.out]; exact HP19.1); have hp_ : Kd.S (Kd.slice 3 (Kd.int .i64)) 29 w20 w.heap.size (fun k_ => (w.heap.size ≤ k_) ∧ some k_ ≠ (.slice (some ad188) x12_1.length co7 : Value).ownBlock) (.slice (some ad189) x5_1.length co18) y194 := (by rw [Ny194.out]; exact hbk19 hg (fun k_ e_ => by injection e_ with e_; subst e_; exact ge19_0.1 _ rfl) (Kd.M_row hz_)); have hm_ := Kd.R_mono hz_ hok19; clear HP19 hbk19; have n0_ := Aside0.mk (hp_); have n1_ := Aside0.mk (Kd.R_grown1 (by (with_reducible repeat (first | apply Kd.R_alloc | apply Kd.R_drewN | apply Kd.R_drew)); exact HO_12.out) rfl hg ((HL191_0.out.1 _ rfl).1.2)); have n2_ := Aside0.mk ((by rw [hw]; exact below_set (HB.out) GB17.out : Below w.heap.size w w20)); have n3_ := Aside0.mk (hm_); have n4_ := Aside0.mk ((Kd.R_reads' hm_).2.1); clear HO_5; clear HO_12; clear HB; clear HL189_0; clear HL191_0; have HO_5 := n0_; have HO_12 := n1_; have HB := n2_; have HL210 := n3_; have HC193 := n4_; clear n0_ n1_ n2_ n3_ n4_; clear hg hw hp_ hz_ hm_ hok19))
           (try simp only [← hl12_1])
           go_roundg k1
           case measure => have := HK1.out; omega
           case rel => exact ⟨(y194), (x12_1), (wrap64 (x14_1 + 1)), (by first | rfl | (simp; done) | (simp [*]; done)), H', ⟨by have := HK1.out; omega⟩, ⟨by (try simp only [hl12_1]); (with_reducible repeat (first | apply Kd.S_alloc | apply Kd.S_drewN | apply Kd.S_drew)); exact HO_5.out⟩, ⟨by (try simp only [hl12_1]); (with_reducible repeat (first | apply Kd.R_alloc | apply Kd.R_drewN | apply Kd.R_drew)); exact HO_12.out⟩, ⟨by repeat (first | (with_reducible first | exact HB.out | apply below_alloc | apply pw_below_drewN | apply below_drew1) | exact HB.out)⟩⟩
          ·rw [if_neg c16] at H
           have c16b0 : ((rd (rd_L1 x5_1 (ji12)) 1) == (wrap64 ((rd x12_1 x14_1) - 1))) = false := beq_eq_false_iff_ne.mpr c16
           have c16b1 : ((rd (rd_L1 x5_1 (ji12)) 1) != (wrap64 ((rd x12_1 x14_1) - 1))) = true := bne_iff_ne.mpr c16
           obtain ⟨y195, hy195⟩ : ∃ y_ : List Int, y_ = (([rd x12_1 x14_1, rd x12_1 x14_1] : List Int)) := ⟨_, rfl⟩
           replace H : (if x5_1.length < 5864062014805 then (impl_RowsOf.l0 k1 (x5_1 ++ [y195]) x12_1 (t185.length : Int) (wrap64 (x14_1 + 1))) else (none)) = some r := by first | (rw [hy195]; with_reducible exact H) | (have H2_ := (Option.bind_some _ _).symm.trans H; rw [hy195]; with_reducible exact H2_) | (have H2_ := (Option.bind_some _ _).symm.trans H; with_reducible exact H2_) | with_reducible exact H | (rw [hy195]; exact H) | exact H
           have Ny195 := Aside0.mk hy195
           clear hy195
           by_cases c21 : x5_1.length < 5864062014805
           ·rw [if_pos c21] at H
            have LMc21 := Aside0.mk c21
            clear c21
            obtain ⟨y198, hy198⟩ : ∃ y_ : List (List Int), y_ = (x5_1 ++ [y195]) := ⟨_, rfl⟩
            replace H : (impl_RowsOf.l0 k1 y198 x12_1 (t185.length : Int) (wrap64 (x14_1 + 1))) = some r := by first | (rw [hy198]; with_reducible exact H) | (have H2_ := (Option.bind_some _ _).symm.trans H; rw [hy198]; with_reducible exact H2_) | (have H2_ := (Option.bind_some _ _).symm.trans H; with_reducible exact H2_) | with_reducible exact H | (rw [hy198]; exact H) | exact H
            have Ny198 := Aside0.mk hy198
            clear hy198
            have H' := Aside0.mk H
            clear H
            have p188 : 0 ≤ (x14_1 : Int) := of_decide_eq_true (by first | (with_reducible assumption) | assumption)
            have q188 : x14_1 < (x12_1.length : Int) := of_decide_eq_true (by first | (with_reducible assumption) | assumption)
            obtain ⟨ad188, e188, hx188_0⟩ := Kd.at_int (Kd.R_reads' HO_12.out).2.2 x14_1 p188 q188
            cases e188
            replace p188 := eq_true p188
            replace q188 := eq_true q188
            obtain ⟨Ao22, co22, eo22⟩ := Kd.S_slice HO_5.out
            subst eo22
            have p189 : 0 ≤ ((ji12) : Int) := of_decide_eq_true (by first | (with_reducible assumption) | assumption)
            have q189 : (ji12) < (x5_1.length : Int) := of_decide_eq_true (by first | (with_reducible assumption) | assumption)
            obtain ⟨ad189, A189_0, c189_0, e189, hx189_0, hl189_0, hi189_0⟩ := at_L1 (Kd.S_reads' HO_5.out).2.2 (ji12) p189 q189
            cases e189
            obtain ⟨ce189, hce189, hMe189, hcc189⟩ := Kd.S_get HO_5.out [] (ji12) p189 (by first | exact q189 | exact of_decide_eq_true (by first | (with_reducible assumption) | assumption) | (have e_ := (Kd.S_reads' HO_5.out).1; omega))
            obtain ⟨ve189_0, rfl, ge189_0⟩ := hMe189
            have hv189_0 := hcc189 0 _ rfl
            rw [Nat.add_zero, show ((Kd.slice 3 (Kd.int .i64))).sz = 1 from rfl, Nat.mul_one] at hv189_0
            replace hv189_0 := Option.some.inj (hv189_0.symm.trans hx189_0)
            rw [hv189_0] at ge189_0
            have HL189_0 := Aside0.mk (show Kd.R (Kd.int .i64) 3 _ _ _ _ (rd_L1 x5_1 (ji12)) from ge189_0)
            clear hv189_0 ge189_0
            have HX189_0 := Aside0.mk hx189_0
            clear hcc189 hce189
            have HR189_0 := Aside0.mk hi189_0
            have HC189_0 := Aside0.mk hl189_0
            clear hi189_0 hl189_0
            replace p189 := eq_true p189
            replace q189 := eq_true q189
            have p190 : 0 ≤ (1 : Int) := (by omega)
            have q190 : 1 < ((rd_L1 x5_1 (ji12)).length : Int) := of_decide_eq_true (by first | (with_reducible assumption) | assumption)
            obtain ⟨ad190, e190, hx190_0⟩ := Kd.at_int (by repeat (first | (with_reducible exact HR189_0.out) | (with_reducible refine Kd.C_alloc ?_ _) | (with_reducible refine Kd.C_drewN ?_ _) | (with_reducible refine Kd.C_drew ?_) | exact HR189_0.out)) 1 p190 q190
            cases e190
            (try simp only [show (1 : Int).toNat = 1 from rfl, Nat.reduceMul, Nat.reduceEqDiff, Go.Addr.add, ↓reduceIte] at hx190_0)
            have qi190 : (1 < (rd_L1 x5_1 (ji12)).length) = True := eq_true (by omega)
            (try rw [show ((1 : Int)).toNat = 1 from rfl] at hx190_0)
            replace p190 := eq_true p190
            replace q190 := eq_true q190
            go_wp2_with (first | ((with_reducible refine gate_dst (N := 44) rfl ?_); refine Kd.R_lit (Kd.int .i64) _ 3 ?hg (N := 44) ?hd (xs := ([rd x12_1 x14_1, rd x12_1 x14_1] : List Int)) (inner := [.int .i64 (rd x12_1 x14_1), .int .i64 (rd x12_1 x14_1)]) (ok := fun _ => True) (okp := fun _ => True) ?hr ?hp (fun _ hk => hk) trivial (Below.refl _ _) (Nat.le_refl _) (by simp) ?_; (case hd => rfl); (case hg => rfl); (case hr => first | (go_simp; done) | (go_simp; rfl)); (case hp => exact (Reps.one (show Kd.M (Kd.int .i64) _ _ _ (rd x12_1 x14_1) [.int .i64 (rd x12_1 x14_1)] from rfl) (Reps.one (show Kd.M (Kd.int .i64) _ _ _ (rd x12_1 x14_1) [.int .i64 (rd x12_1 x14_1)] from rfl) (Reps.none _ _)))); intro v196 w23 ho24 hb hg_ hnew_; clear hg_ hnew_; (first | rw [← Ny195.out] at ho24 | (simp only [Int.reduceToNat] at ho24; rw [← Ny195.out] at ho24)); have n0_ := Aside0.mk (Kd.S_elder' (by (with_reducible repeat (first | apply Kd.S_alloc | apply Kd.S_drewN | apply Kd.S_drew)); exact HO_5.out) (Kd.R_base ho24) hb); have n1_ := Aside0.mk (Kd.R_elder' (by (with_reducible repeat (first | apply Kd.R_alloc | apply Kd.R_drewN | apply Kd.R_drew)); exact HO_12.out) (Kd.R_base ho24) hb); have n2_ := Aside0.mk (Kd.R_elder' (by (with_reducible repeat (first | apply Kd.R_alloc | apply Kd.R_drewN | apply Kd.R_drew)); exact HL189_0.out) (Kd.R_base ho24) hb); have n3_ := Aside0.mk (Kd.R_lower (Kd.R_new' (Kd.R_new' (Kd.R_newM (M := fun k_ => (w.heap.size ≤ k_)) ho24 (below_size (by repeat (first | (with_reducible first | exact HB.out | apply below_alloc | apply pw_below_drewN | apply below_drew1) | exact HB.out))) (fun k_ h_ => h_)) (Kd.R_lt (by (with_reducible repeat (first | apply Kd.R_alloc | apply Kd.R_drewN | apply Kd.R_drew)); exact HO_12.out))) (Kd.R_lt (by (with_reducible repeat (first | apply Kd.R_alloc | apply Kd.R_drewN | apply Kd.R_drew)); exact HL189_0.out))) (below_size (by repeat (first | (with_reducible first | exact HB.out | apply below_alloc | apply pw_below_drewN | apply below_drew1) | exact HB.out)))); have n4_ := Aside0.mk (Kd.C_below (by repeat (first | (with_reducible exact HR189_0.out) | (with_reducible refine Kd.C_alloc ?_ _) | (with_reducible refine Kd.C_drewN ?_ _) | (with_reducible refine Kd.C_drew ?_) | exact HR189_0.out)) hb); have n5_ := Aside0.mk (pw_cell_below hb HX189_0.out); have n6_ := Aside0.mk (below_step (by repeat (first | (with_reducible first | exact HB.out | apply below_alloc | apply pw_below_drewN | apply below_drew1) | exact HB.out)) hb); clear HO_5; clear HO_12; clear HL189_0; clear HR189_0; clear HX189_0; clear HB; have HO_5 := n0_; have HO_12 := n1_; have HL189_0 := n2_; have HO197 := n3_; have HR189_0 := n4_; have HX189_0 := n5_; have HB := n6_; clear n0_ n1_ n2_ n3_ n4_ n5_ n6_; clear hb ho24; obtain ⟨Ao26, co26, eo26⟩ := Kd.R_slice HO197.out; subst eo26) | ((with_reducible refine gate_builtin (b := .append) (xs := #[.tmp 41, .tmp 45]) rfl ?_); at_builtin; refine Kd.S_append (Kd.slice 3 (Kd.int .i64)) (w0 := w) w.heap.size rfl (.tmp 41) (.tmp 45) 39 29 (.slice none 0 0) 24 rfl Try.underlying39 info29 rfl (by decide) (by omega) (.slice (some ad189) x5_1.length co22) x5_1 y195 [.slice Ao26 y195.length co26] (fun k_ => (w.heap.size ≤ k_) ∧ some k_ ≠ (.slice (some ad188) x12_1.length co7 : Value).ownBlock) (fun k_ => some k_ = (.slice Ao26 y195.length co26 : Value).ownBlock) rfl rfl ?aP (fun k_ hk_ => ((Kd.R_mono (ok' := fun k_ => ((fun k_ => (w.heap.size ≤ k_) ∧ some k_ ≠ (.slice (some ad188) x12_1.length co7 : Value).ownBlock)) k_ ∧ some k_ ≠ (.slice (some ad189) x5_1.length co22 : Value).ownBlock) (Kd.R_apart' (HO197.out) (Kd.S_typed HO_5.out) (by decide)) (fun k_ hk => ⟨⟨hk.1.1.1.1, hk.1.1.2⟩, hk.2⟩))).1 k_ hk_.symm) ?aF ?aO ?aB ?aS ?aL ?_; (case aP => exact Kd.M_row (Kd.R_mono (Kd.R_tight rfl (Kd.R_mono (ok' := fun k_ => ((fun k_ => (w.heap.size ≤ k_) ∧ some k_ ≠ (.slice (some ad188) x12_1.length co7 : Value).ownBlock)) k_ ∧ some k_ ≠ (.slice (some ad189) x5_1.length co22 : Value).ownBlock) (Kd.R_apart' (HO197.out) (Kd.S_typed HO_5.out) (by decide)) (fun k_ hk => ⟨⟨hk.1.1.1.1, hk.1.1.2⟩, hk.2⟩))) (fun _ h_ => h_))); (case aB => exact (by repeat (first | (with_reducible first | exact HB.out | apply below_alloc | apply pw_below_drewN | apply below_drew1) | exact HB.out))); (case aF => exact (fun k_ hk => ⟨(Nat.le_trans (below_size (by repeat (first | (with_reducible first | exact HB.out | apply below_alloc | apply pw_below_drewN | apply below_drew1) | exact HB.out))) hk), Kd.fresh' (Kd.R_lt (by (with_reducible repeat (first | apply Kd.R_alloc | apply Kd.R_drewN | apply Kd.R_drew)); exact HO_12.out)) k_ hk⟩)); (case aO => exact (by (with_reducible repeat (first | apply Kd.S_alloc | apply Kd.S_drewN | apply Kd.S_drew)); exact Kd.S_mono HO_5.out (fun k_ hk => ⟨⟨hk.1.1, hk.1.2⟩, fun e_ => hk.2 e_⟩))); (case aS => exact (below_size (by repeat (first | (with_reducible first | exact HB.out | apply below_alloc | apply pw_below_drewN | apply below_drew1) | exact HB.out)))); (case aL => have := LMc21.out; omega); intro v199 w25 ho hb hg hat; rw [← Ny198.out] at ho; have n0_ := Aside0.mk (Kd.R_over' (by (with_reducible repeat (first | apply Kd.R_alloc | apply Kd.R_drewN | apply Kd.R_drew)); exact HO_12.out) (Kd.S_typed (by (with_reducible repeat (first | apply Kd.S_alloc | apply Kd.S_drewN | apply Kd.S_drew)); exact HO_5.out)) (by decide) hg); have n1_ := Aside0.mk (Kd.R_after (ok := (fun k_ => (w.heap.size ≤ k_) ∧ some k_ ≠ (.slice (some ad188) x12_1.length co7 : Value).ownBlock ∧ some k_ ≠ (.slice Ao26 y195.length co26 : Value).ownBlock)) (by (with_reducible repeat (first | apply Kd.R_alloc | apply Kd.R_drewN | apply Kd.R_drew)); exact Kd.R_mono HL189_0.out (fun _ hk => ⟨⟨hk.1.1.1, ⟨hk.1.1.2, hk.2⟩⟩, hk.1.2⟩)) hg hat); have n2_ := Aside0.mk (hb); have n3_ := Aside0.mk (ho); clear HO_12; clear HL189_0; clear HB; clear HO_5; clear HO197; have HO_12 := n0_; have HL189_0 := n1_; have HB := n2_; have HO200 := n3_; clear n0_ n1_ n2_ n3_; clear ho hb hg hat))
            (try simp only [← hl12_1])
            go_roundg k1
            case measure => have := HK1.out; omega
            case rel => exact ⟨(y198), (x12_1), (wrap64 (x14_1 + 1)), (by first | rfl | (simp; done) | (simp [*]; done)), H', ⟨by have := HK1.out; omega⟩, ⟨by (try simp only [hl12_1]); (with_reducible repeat (first | apply Kd.S_alloc | apply Kd.S_drewN | apply Kd.S_drew)); exact HO200.out⟩, ⟨by (try simp only [hl12_1]); (with_reducible repeat (first | apply Kd.R_alloc | apply Kd.R_drewN | apply Kd.R_drew)); exact Kd.R_mono HO_12.out (fun _ hk => hk.1)⟩, ⟨by repeat (first | (with_reducible first | exact HB.out | apply below_alloc | apply pw_below_drewN | apply below_drew1) | exact HB.out)⟩⟩
           ·rw [if_neg c21] at H
            exact absurd H (by simp)
         ·rw [if_neg c15] at H
          exact absurd H (by simp)
        ·rw [if_neg c14] at H
         exact absurd H (by simp)
       ·rw [if_neg c13] at H
        exact absurd H (by simp)
      ·rw [if_neg c11] at H
       have c11b0 : decide (0 < (x5_1.length : Int)) = false := decide_eq_false c11
       have c11b1 : decide (0 < x5_1.length) = false := decide_eq_false (by omega)
       clear c11
       obtain ⟨y201, hy201⟩ : ∃ y_ : List Int, y_ = (([rd x12_1 x14_1, rd x12_1 x14_1] : List Int)) := ⟨_, rfl⟩
       replace H : (if x5_1.length < 5864062014805 then (impl_RowsOf.l0 k1 (x5_1 ++ [y201]) x12_1 (t185.length : Int) (wrap64 (x14_1 + 1))) else (none)) = some r := by first | (rw [hy201]; with_reducible exact H) | (have H2_ := (Option.bind_some _ _).symm.trans H; rw [hy201]; with_reducible exact H2_) | (have H2_ := (Option.bind_some _ _).symm.trans H; with_reducible exact H2_) | with_reducible exact H | (rw [hy201]; exact H) | exact H
       have Ny201 := Aside0.mk hy201
       clear hy201
       by_cases c27 : x5_1.length < 5864062014805
       ·rw [if_pos c27] at H
        have LMc27 := Aside0.mk c27
        clear c27
        obtain ⟨y204, hy204⟩ : ∃ y_ : List (List Int), y_ = (x5_1 ++ [y201]) := ⟨_, rfl⟩
        replace H : (impl_RowsOf.l0 k1 y204 x12_1 (t185.length : Int) (wrap64 (x14_1 + 1))) = some r := by first | (rw [hy204]; with_reducible exact H) | (have H2_ := (Option.bind_some _ _).symm.trans H; rw [hy204]; with_reducible exact H2_) | (have H2_ := (Option.bind_some _ _).symm.trans H; with_reducible exact H2_) | with_reducible exact H | (rw [hy204]; exact H) | exact H
        have Ny204 := Aside0.mk hy204
        clear hy204
        have H' := Aside0.mk H
        clear H
        have p188 : 0 ≤ (x14_1 : Int) := of_decide_eq_true (by first | (with_reducible assumption) | assumption)
        have q188 : x14_1 < (x12_1.length : Int) := of_decide_eq_true (by first | (with_reducible assumption) | assumption)
        obtain ⟨ad188, e188, hx188_0⟩ := Kd.at_int (Kd.R_reads' HO_12.out).2.2 x14_1 p188 q188
        cases e188
        replace p188 := eq_true p188
        replace q188 := eq_true q188
        obtain ⟨Ao28, co28, eo28⟩ := Kd.S_slice HO_5.out
        subst eo28
        go_wp2_with (first | ((with_reducible refine gate_dst (N := 44) rfl ?_); refine Kd.R_lit (Kd.int .i64) _ 3 ?hg (N := 44) ?hd (xs := ([rd x12_1 x14_1, rd x12_1 x14_1] : List Int)) (inner := [.int .i64 (rd x12_1 x14_1), .int .i64 (rd x12_1 x14_1)]) (ok := fun _ => True) (okp := fun _ => True) ?hr ?hp (fun _ hk => hk) trivial (Below.refl _ _) (Nat.le_refl _) (by simp) ?_; (case hd => rfl); (case hg => rfl); (case hr => first | (go_simp; done) | (go_simp; rfl)); (case hp => exact (Reps.one (show Kd.M (Kd.int .i64) _ _ _ (rd x12_1 x14_1) [.int .i64 (rd x12_1 x14_1)] from rfl) (Reps.one (show Kd.M (Kd.int .i64) _ _ _ (rd x12_1 x14_1) [.int .i64 (rd x12_1 x14_1)] from rfl) (Reps.none _ _)))); intro v202 w29 ho30 hb hg_ hnew_; clear hg_ hnew_; (first | rw [← Ny201.out] at ho30 | (simp only [Int.reduceToNat] at ho30; rw [← Ny201.out] at ho30)); have n0_ := Aside0.mk (Kd.S_elder' (by (with_reducible repeat (first | apply Kd.S_alloc | apply Kd.S_drewN | apply Kd.S_drew)); exact HO_5.out) (Kd.R_base ho30) hb); have n1_ := Aside0.mk (Kd.R_elder' (by (with_reducible repeat (first | apply Kd.R_alloc | apply Kd.R_drewN | apply Kd.R_drew)); exact HO_12.out) (Kd.R_base ho30) hb); have n2_ := Aside0.mk (Kd.R_lower (Kd.R_new' (Kd.R_newM (M := fun k_ => (w.heap.size ≤ k_)) ho30 (below_size (by repeat (first | (with_reducible first | exact HB.out | apply below_alloc | apply pw_below_drewN | apply below_drew1) | exact HB.out))) (fun k_ h_ => h_)) (Kd.R_lt (by (with_reducible repeat (first | apply Kd.R_alloc | apply Kd.R_drewN | apply Kd.R_drew)); exact HO_12.out))) (below_size (by repeat (first | (with_reducible first | exact HB.out | apply below_alloc | apply pw_below_drewN | apply below_drew1) | exact HB.out)))); have n3_ := Aside0.mk (below_step (by repeat (first | (with_reducible first | exact HB.out | apply below_alloc | apply pw_below_drewN | apply below_drew1) | exact HB.out)) hb); clear HO_5; clear HO_12; clear HB; have HO_5 := n0_; have HO_12 := n1_; have HO203 := n2_; have HB := n3_; clear n0_ n1_ n2_ n3_; clear hb ho30; obtain ⟨Ao32, co32, eo32⟩ := Kd.R_slice HO203.out; subst eo32) | ((with_reducible refine gate_builtin (b := .append) (xs := #[.tmp 41, .tmp 45]) rfl ?_); at_builtin; refine Kd.S_append (Kd.slice 3 (Kd.int .i64)) (w0 := w) w.heap.size rfl (.tmp 41) (.tmp 45) 39 29 (.slice none 0 0) 24 rfl Try.underlying39 info29 rfl (by decide) (by omega) (.slice Ao28 x5_1.length co28) x5_1 y201 [.slice Ao32 y201.length co32] (fun k_ => (w.heap.size ≤ k_) ∧ some k_ ≠ (.slice (some ad188) x12_1.length co7 : Value).ownBlock) (fun k_ => some k_ = (.slice Ao32 y201.length co32 : Value).ownBlock) rfl rfl ?aP (fun k_ hk_ => ((Kd.R_mono (ok' := fun k_ => ((fun k_ => (w.heap.size ≤ k_) ∧ some k_ ≠ (.slice (some ad188) x12_1.length co7 : Value).ownBlock)) k_ ∧ some k_ ≠ (.slice Ao28 x5_1.length co28 : Value).ownBlock) (Kd.R_apart' (HO203.out) (Kd.S_typed HO_5.out) (by decide)) (fun k_ hk => ⟨⟨hk.1.1.1, hk.1.2⟩, hk.2⟩))).1 k_ hk_.symm) ?aF ?aO ?aB ?aS ?aL ?_; (case aP => exact Kd.M_row (Kd.R_mono (Kd.R_tight rfl (Kd.R_mono (ok' := fun k_ => ((fun k_ => (w.heap.size ≤ k_) ∧ some k_ ≠ (.slice (some ad188) x12_1.length co7 : Value).ownBlock)) k_ ∧ some k_ ≠ (.slice Ao28 x5_1.length co28 : Value).ownBlock) (Kd.R_apart' (HO203.out) (Kd.S_typed HO_5.out) (by decide)) (fun k_ hk => ⟨⟨hk.1.1.1, hk.1.2⟩, hk.2⟩))) (fun _ h_ => h_))); (case aB => exact (by repeat (first | (with_reducible first | exact HB.out | apply below_alloc | apply pw_below_drewN | apply below_drew1) | exact HB.out))); (case aF => exact (fun k_ hk => ⟨(Nat.le_trans (below_size (by repeat (first | (with_reducible first | exact HB.out | apply below_alloc | apply pw_below_drewN | apply below_drew1) | exact HB.out))) hk), Kd.fresh' (Kd.R_lt (by (with_reducible repeat (first | apply Kd.R_alloc | apply Kd.R_drewN | apply Kd.R_drew)); exact HO_12.out)) k_ hk⟩)); (case aO => exact (by (with_reducible repeat (first | apply Kd.S_alloc | apply Kd.S_drewN | apply Kd.S_drew)); exact Kd.S_mono HO_5.out (fun k_ hk => ⟨⟨hk.1.1, hk.1.2⟩, fun e_ => hk.2 e_⟩))); (case aS => exact (below_size (by repeat (first | (with_reducible first | exact HB.out | apply below_alloc | apply pw_below_drewN | apply below_drew1) | exact HB.out)))); (case aL => have := LMc27.out; omega); intro v205 w31 ho hb hg hat; rw [← Ny204.out] at ho; have n0_ := Aside0.mk (Kd.R_over' (by (with_reducible repeat (first | apply Kd.R_alloc | apply Kd.R_drewN | apply Kd.R_drew)); exact HO_12.out) (Kd.S_typed (by (with_reducible repeat (first | apply Kd.S_alloc | apply Kd.S_drewN | apply Kd.S_drew)); exact HO_5.out)) (by decide) hg); have n1_ := Aside0.mk (hb); have n2_ := Aside0.mk (ho); clear HO_12; clear HB; clear HO_5; clear HO203; have HO_12 := n0_; have HB := n1_; have HO206 := n2_; clear n0_ n1_ n2_; clear ho hb hg hat))
        (try simp only [← hl12_1])
        go_roundg k1
        case measure => have := HK1.out; omega
        case rel => exact ⟨(y204), (x12_1), (wrap64 (x14_1 + 1)), (by first | rfl | (simp; done) | (simp [*]; done)), H', ⟨by have := HK1.out; omega⟩, ⟨by (try simp only [hl12_1]); (with_reducible repeat (first | apply Kd.S_alloc | apply Kd.S_drewN | apply Kd.S_drew)); exact HO206.out⟩, ⟨by (try simp only [hl12_1]); (with_reducible repeat (first | apply Kd.R_alloc | apply Kd.R_drewN | apply Kd.R_drew)); exact Kd.R_mono HO_12.out (fun _ hk => hk.1)⟩, ⟨by repeat (first | (with_reducible first | exact HB.out | apply below_alloc | apply pw_below_drewN | apply below_drew1) | exact HB.out)⟩⟩
       ·rw [if_neg c27] at H
        exact absurd H (by simp)
     ·rw [if_neg c10] at H
      exact absurd H (by simp)
    ·rw [if_neg c9] at H
     exact absurd H (by simp)
   ·rw [if_neg c8] at H
    have c8b0 : decide (x14_1 < (t185.length : Int)) = false := decide_eq_false c8
    rw [hl12_1] at c8b0
    clear c8
    replace H := Option.bind_eq_some_iff.mp H
    obtain ⟨t207, A330, H⟩ := H
    replace H : (some t207) = some r := H
    have A33 := Aside0.mk A330
    clear A330
    obtain rfl := Option.some.inj H
    obtain ⟨Ao34, co34, eo34⟩ := Kd.S_slice HO_5.out
    subst eo34
    have e_ := A33.out
    unfold slices_Clip_int_int.f at e_
    rw [if_pos (by omega), if_pos (Int.le_refl _), Int.toNat_natCast, List.take_length] at e_
    obtain rfl := Option.some.inj e_
    have HCC_ := Aside0.mk (Kd.S_reads' HO_5.out).2.1
    go_wp2_with (first | ((with_reducible refine gate_callee (f := 65) rfl ?_); refine goesL_ (some 49) rfl rfl Try.func65 (by kernel_rfl) rfl #[.slice Ao34 x5_1.length co34] rfl (by (try simp only [List.map_toArray, List.map_cons, List.map_nil]); first | done | rfl | (simp only [List.length_drop, List.length_take]; rfl)) ?_; (with_reducible refine (impl_RowsOf.clip _ _ _ HCC_.out _).mono ?_); rintro e w35 ⟨rfl, rfl⟩; refine ⟨_, rfl, ?_⟩))
    go_ret
    exact ⟨Ao34, by first | rfl | (simp [errW_none, errW_some] <;> rfl) | (simp [*, errW_none, errW_some] <;> rfl), by exact ⟨co34, Kd.S_mono HO_5.out (fun _ hk => hk.1)⟩, by repeat (first | (with_reducible first | exact HB.out | apply below_alloc | apply pw_below_drewN | apply below_drew1) | exact HB.out)⟩

/-! ### laws_eqIntSS: function 38 -/
def laws_eqIntSS.l0 : Nat → List (List Int) → List (List Int) → Int → Option (Bool)
 | 0, _, _, _ => none
 | k + 1, x0, x1, x5 => if x5 < (x0.length : Int) then (if 0 ≤ x5 then (if x5 < (x1.length : Int) then ((laws_eqIntS.f k (rd_L1 x0 x5) (rd_L1 x1 x5)).bind fun t213 => (if t213 = true then (laws_eqIntSS.l0 k x0 x1 (wrap64 (x5 + 1))) else (some false))) else (none)) else (none)) else (some true)
def laws_eqIntSS.f (k : Nat) (l0 : List (List Int)) (l1 : List (List Int)) : Option (Bool) := if (l0.length : Int) = (l1.length : Int) then (laws_eqIntSS.l0 k l0 l1 0) else (some false)
set_option maxHeartbeats 8000000 in
set_option maxRecDepth 100000 in
theorem laws_eqIntSS.calls (k : Nat) (A0 : Option Addr) (c0 : Nat) (l0 : List (List Int)) (A1 : Option Addr) (c1 : Nat) (l1 : List (List Int)) (r : Bool) (w : World) (hr0 : Kd.C (Kd.slice 3 (Kd.int .i64)) w A0 l0.length l0) (hc0 : l0.length ≤ c0) (hr1 : Kd.C (Kd.slice 3 (Kd.int .i64)) w A1 l1.length l1) (hc1 : l1.length ≤ c1) (h : laws_eqIntSS.f k l0 l1 = some r) :
  Calls Try.prog 38 #[.slice A0 l0.length c0, .slice A1 l1.length c1] w fun e w' => e = .returned (.bool r) ∧ Drawn0 w w' := by
 have HR0 := Aside0.mk hr0
 have HC0 := Aside0.mk hc0
 clear hr0 hc0
 have HR1 := Aside0.mk hr1
 have HC1 := Aside0.mk hc1
 clear hr1 hc1
 have H : (if (l0.length : Int) = (l1.length : Int) then (laws_eqIntSS.l0 k l0 l1 0) else (some false)) = some r := h
 clear h
 by_cases c3 : (l0.length : Int) = (l1.length : Int)
 ·rw [if_pos c3] at H
  have c3b0 : ((l0.length : Int) == (l1.length : Int)) = true := beq_iff_eq.mpr c3
  have c3b1 : ((l0.length : Int) != (l1.length : Int)) = false := bne_eq_false_iff_eq.mpr c3
  have c3b2 : (l0.length == l1.length) = true := by first | simpa using c3 | (simp at c3 ⊢; omega)
  clear c3
  have H' := Aside0.mk H
  clear H
  go_enter Try.func38, Try.ntmps38
  go_wp2
  repeat (go_quiet (fail); try go_wp2)
  go_loopg [5] k (fun kq v5 w' => ∃ (x5_1 : Int), v5 = .int .i64 x5_1 ∧ Aside0 (laws_eqIntSS.l0 kq l0 l1 x5_1 = some r) ∧ Aside0 (kq ≤ k) ∧ Drawn0 w w')
  case atStart => exact ⟨(0), (by first | rfl | (simp; done) | (simp [*]; done)), H', ⟨Nat.le_refl _⟩, by repeat (first | exact Drawn0.refl _ | apply Drawn0.step)⟩
  case round =>
   clear H'
   try clear c1
   try clear p2
   try clear c3
   try clear c3b0
   try clear c3b1
   try clear c3b2
   obtain ⟨x5_1, rfl, HA, HK1, ⟨m1, rfl⟩⟩ := hrel
   cases gk with
   | zero => exact absurd HA.out (by simp [laws_eqIntSS.l0])
   | succ k1 =>
    have H := HA.out
    clear HA
    simp only [laws_eqIntSS.l0] at H
    by_cases c4 : x5_1 < (l0.length : Int)
    ·rw [if_pos c4] at H
     have c4b0 : decide (x5_1 < (l0.length : Int)) = true := decide_eq_true c4
     clear c4
     by_cases c5 : 0 ≤ x5_1
     ·rw [if_pos c5] at H
      have c5b0 : decide (0 ≤ x5_1) = true := decide_eq_true c5
      clear c5
      by_cases c6 : x5_1 < (l1.length : Int)
      ·rw [if_pos c6] at H
       have c6b0 : decide (x5_1 < (l1.length : Int)) = true := decide_eq_true c6
       clear c6
       replace H := Option.bind_eq_some_iff.mp H
       obtain ⟨t213, A70, H⟩ := H
       replace H : (if t213 = true then (laws_eqIntSS.l0 k1 l0 l1 (wrap64 (x5_1 + 1))) else (some false)) = some r := H
       have A7 := Aside0.mk A70
       clear A70
       by_cases c8 : t213 = true
       ·subst c8
        have H1 : (laws_eqIntSS.l0 k1 l0 l1 (wrap64 (x5_1 + 1))) = some r := by rw [if_pos rfl] at H; exact H
        clear H
        have H := H1
        clear H1
        have H' := Aside0.mk H
        clear H
        have p211 : 0 ≤ (x5_1 : Int) := of_decide_eq_true (by first | (with_reducible assumption) | assumption)
        have q211 : x5_1 < (l0.length : Int) := of_decide_eq_true (by first | (with_reducible assumption) | assumption)
        obtain ⟨ad211, A211_0, c211_0, e211, hx211_0, hl211_0, hi211_0⟩ := at_L1 HR0.out x5_1 p211 q211
        cases e211
        have HR211_0 := Aside0.mk hi211_0
        have HC211_0 := Aside0.mk hl211_0
        clear hi211_0 hl211_0
        replace p211 := eq_true p211
        replace q211 := eq_true q211
        have p212 : 0 ≤ (x5_1 : Int) := of_decide_eq_true (by first | (with_reducible assumption) | assumption)
        have q212 : x5_1 < (l1.length : Int) := of_decide_eq_true (by first | (with_reducible assumption) | assumption)
        obtain ⟨ad212, A212_0, c212_0, e212, hx212_0, hl212_0, hi212_0⟩ := at_L1 HR1.out x5_1 p212 q212
        cases e212
        have HR212_0 := Aside0.mk hi212_0
        have HC212_0 := Aside0.mk hl212_0
        clear hi212_0 hl212_0
        replace p212 := eq_true p212
        replace q212 := eq_true q212
        go_wp2_with (first | (go_at_call 21; (with_reducible refine (laws_eqIntS.calls k1 _ _ (rd_L1 l0 x5_1) _ _ (rd_L1 l1 x5_1) true _ ?side1 ?side2 ?side3 ?side4 A7.out).mono ?_); (case side1 => repeat (first | exact HR211_0.out | (with_reducible refine Kd.C_alloc ?_ _) | (with_reducible refine Kd.C_drewN ?_ _) | (with_reducible refine Kd.C_drew ?_))); (case side2 => exact HC211_0.out); (case side3 => repeat (first | exact HR212_0.out | (with_reducible refine Kd.C_alloc ?_ _) | (with_reducible refine Kd.C_drewN ?_ _) | (with_reducible refine Kd.C_drew ?_))); (case side4 => exact HC212_0.out); rintro e w' ⟨rfl, ⟨nd, rfl⟩⟩; (try first | exact ⟨rfl, _, World.drewN_drewN _ _ _⟩ | exact ⟨rfl, _, Eq.trans (World.drewN_drewN _ _ _) (congrArg (World.drewN _) (Nat.add_assoc _ _ _))⟩)))
        repeat (go_quiet (first | (go_at_call 21; (with_reducible refine (laws_eqIntS.calls k1 _ _ (rd_L1 l0 x5_1) _ _ (rd_L1 l1 x5_1) true _ ?side1 ?side2 ?side3 ?side4 A7.out).mono ?_); (case side1 => repeat (first | exact HR211_0.out | (with_reducible refine Kd.C_alloc ?_ _) | (with_reducible refine Kd.C_drewN ?_ _) | (with_reducible refine Kd.C_drew ?_))); (case side2 => exact HC211_0.out); (case side3 => repeat (first | exact HR212_0.out | (with_reducible refine Kd.C_alloc ?_ _) | (with_reducible refine Kd.C_drewN ?_ _) | (with_reducible refine Kd.C_drew ?_))); (case side4 => exact HC212_0.out); rintro e w' ⟨rfl, ⟨nd, rfl⟩⟩; (try first | exact ⟨rfl, _, World.drewN_drewN _ _ _⟩ | exact ⟨rfl, _, Eq.trans (World.drewN_drewN _ _ _) (congrArg (World.drewN _) (Nat.add_assoc _ _ _))⟩))); try go_wp2_with (first | (go_at_call 21; (with_reducible refine (laws_eqIntS.calls k1 _ _ (rd_L1 l0 x5_1) _ _ (rd_L1 l1 x5_1) true _ ?side1 ?side2 ?side3 ?side4 A7.out).mono ?_); (case side1 => repeat (first | exact HR211_0.out | (with_reducible refine Kd.C_alloc ?_ _) | (with_reducible refine Kd.C_drewN ?_ _) | (with_reducible refine Kd.C_drew ?_))); (case side2 => exact HC211_0.out); (case side3 => repeat (first | exact HR212_0.out | (with_reducible refine Kd.C_alloc ?_ _) | (with_reducible refine Kd.C_drewN ?_ _) | (with_reducible refine Kd.C_drew ?_))); (case side4 => exact HC212_0.out); rintro e w' ⟨rfl, ⟨nd, rfl⟩⟩; (try first | exact ⟨rfl, _, World.drewN_drewN _ _ _⟩ | exact ⟨rfl, _, Eq.trans (World.drewN_drewN _ _ _) (congrArg (World.drewN _) (Nat.add_assoc _ _ _))⟩))))
        go_roundg k1
        case measure => have := HK1.out; omega
        case rel => exact ⟨(wrap64 (x5_1 + 1)), (by first | rfl | (simp; done) | (simp [*]; done)), H', ⟨by have := HK1.out; omega⟩, by repeat (first | exact Drawn0.refl _ | apply Drawn0.step)⟩
       ·replace c8 := Bool.eq_false_iff.mpr c8
        subst c8
        have H1 : (some false) = some r := by rw [if_neg (show ¬ (false = true) by decide)] at H; exact H
        clear H
        have H := H1
        clear H1
        obtain rfl := Option.some.inj H
        have p211 : 0 ≤ (x5_1 : Int) := of_decide_eq_true (by first | (with_reducible assumption) | assumption)
        have q211 : x5_1 < (l0.length : Int) := of_decide_eq_true (by first | (with_reducible assumption) | assumption)
        obtain ⟨ad211, A211_0, c211_0, e211, hx211_0, hl211_0, hi211_0⟩ := at_L1 HR0.out x5_1 p211 q211
        cases e211
        have HR211_0 := Aside0.mk hi211_0
        have HC211_0 := Aside0.mk hl211_0
        clear hi211_0 hl211_0
        replace p211 := eq_true p211
        replace q211 := eq_true q211
        have p212 : 0 ≤ (x5_1 : Int) := of_decide_eq_true (by first | (with_reducible assumption) | assumption)
        have q212 : x5_1 < (l1.length : Int) := of_decide_eq_true (by first | (with_reducible assumption) | assumption)
        obtain ⟨ad212, A212_0, c212_0, e212, hx212_0, hl212_0, hi212_0⟩ := at_L1 HR1.out x5_1 p212 q212
        cases e212
        have HR212_0 := Aside0.mk hi212_0
        have HC212_0 := Aside0.mk hl212_0
        clear hi212_0 hl212_0
        replace p212 := eq_true p212
        replace q212 := eq_true q212
        go_wp2_with (first | (go_at_call 21; (with_reducible refine (laws_eqIntS.calls k1 _ _ (rd_L1 l0 x5_1) _ _ (rd_L1 l1 x5_1) false _ ?side1 ?side2 ?side3 ?side4 A7.out).mono ?_); (case side1 => repeat (first | exact HR211_0.out | (with_reducible refine Kd.C_alloc ?_ _) | (with_reducible refine Kd.C_drewN ?_ _) | (with_reducible refine Kd.C_drew ?_))); (case side2 => exact HC211_0.out); (case side3 => repeat (first | exact HR212_0.out | (with_reducible refine Kd.C_alloc ?_ _) | (with_reducible refine Kd.C_drewN ?_ _) | (with_reducible refine Kd.C_drew ?_))); (case side4 => exact HC212_0.out); rintro e w' ⟨rfl, ⟨nd, rfl⟩⟩; (try first | exact ⟨rfl, _, World.drewN_drewN _ _ _⟩ | exact ⟨rfl, _, Eq.trans (World.drewN_drewN _ _ _) (congrArg (World.drewN _) (Nat.add_assoc _ _ _))⟩)))
        repeat (go_quiet (first | (go_at_call 21; (with_reducible refine (laws_eqIntS.calls k1 _ _ (rd_L1 l0 x5_1) _ _ (rd_L1 l1 x5_1) false _ ?side1 ?side2 ?side3 ?side4 A7.out).mono ?_); (case side1 => repeat (first | exact HR211_0.out | (with_reducible refine Kd.C_alloc ?_ _) | (with_reducible refine Kd.C_drewN ?_ _) | (with_reducible refine Kd.C_drew ?_))); (case side2 => exact HC211_0.out); (case side3 => repeat (first | exact HR212_0.out | (with_reducible refine Kd.C_alloc ?_ _) | (with_reducible refine Kd.C_drewN ?_ _) | (with_reducible refine Kd.C_drew ?_))); (case side4 => exact HC212_0.out); rintro e w' ⟨rfl, ⟨nd, rfl⟩⟩; (try first | exact ⟨rfl, _, World.drewN_drewN _ _ _⟩ | exact ⟨rfl, _, Eq.trans (World.drewN_drewN _ _ _) (congrArg (World.drewN _) (Nat.add_assoc _ _ _))⟩))); try go_wp2_with (first | (go_at_call 21; (with_reducible refine (laws_eqIntS.calls k1 _ _ (rd_L1 l0 x5_1) _ _ (rd_L1 l1 x5_1) false _ ?side1 ?side2 ?side3 ?side4 A7.out).mono ?_); (case side1 => repeat (first | exact HR211_0.out | (with_reducible refine Kd.C_alloc ?_ _) | (with_reducible refine Kd.C_drewN ?_ _) | (with_reducible refine Kd.C_drew ?_))); (case side2 => exact HC211_0.out); (case side3 => repeat (first | exact HR212_0.out | (with_reducible refine Kd.C_alloc ?_ _) | (with_reducible refine Kd.C_drewN ?_ _) | (with_reducible refine Kd.C_drew ?_))); (case side4 => exact HC212_0.out); rintro e w' ⟨rfl, ⟨nd, rfl⟩⟩; (try first | exact ⟨rfl, _, World.drewN_drewN _ _ _⟩ | exact ⟨rfl, _, Eq.trans (World.drewN_drewN _ _ _) (congrArg (World.drewN _) (Nat.add_assoc _ _ _))⟩))))
        go_ret
        exact ⟨by first | rfl | (simp; done) | (simp [*]; done), by repeat (first | exact Drawn0.refl _ | apply Drawn0.step)⟩
      ·rw [if_neg c6] at H
       exact absurd H (by simp)
     ·rw [if_neg c5] at H
      exact absurd H (by simp)
    ·rw [if_neg c4] at H
     have c4b0 : decide (x5_1 < (l0.length : Int)) = false := decide_eq_false c4
     clear c4
     obtain rfl := Option.some.inj H
     go_wp2
     repeat (go_quiet (fail); try go_wp2)
     go_ret
     exact ⟨by first | rfl | (simp; done) | (simp [*]; done), by repeat (first | exact Drawn0.refl _ | apply Drawn0.step)⟩
 ·rw [if_neg c3] at H
  have c3b0 : ((l0.length : Int) == (l1.length : Int)) = false := beq_eq_false_iff_ne.mpr c3
  have c3b1 : ((l0.length : Int) != (l1.length : Int)) = true := bne_iff_ne.mpr c3
  have c3b2 : (l0.length == l1.length) = false := by first | simpa using c3 | (simp at c3 ⊢; omega)
  obtain rfl := Option.some.inj H
  go_enter Try.func38, Try.ntmps38
  go_wp2
  repeat (go_quiet (fail); try go_wp2)
  go_ret
  exact ⟨by first | rfl | (simp; done) | (simp [*]; done), by repeat (first | exact Drawn0.refl _ | apply Drawn0.step)⟩

-- NOT PRINTED: function 39 (laws_markIntSS)

/-! ### laws_heldIntS: function 23 -/
def laws_heldIntS.l0 : Nat → List Int → Int → Int → Option (Int)
 | 0, _, _, _ => none
 | k + 1, x0, x1, x5 => if x5 < (x0.length : Int) then (if 0 ≤ x5 then (if (rd x0 x5) = x1 then (laws_heldIntS.l0 k x0 (wrap64 (x1 + 1)) (wrap64 (x5 + 1))) else (some (-1))) else (none)) else (some x1)
def laws_heldIntS.f (k : Nat) (l0 : List Int) (a1 : Int) : Option (Int) := laws_heldIntS.l0 k l0 a1 0
set_option maxHeartbeats 8000000 in
set_option maxRecDepth 100000 in
theorem laws_heldIntS.calls (k : Nat) (A0 : Option Addr) (c0 : Nat) (l0 : List Int) (a1 : Int) (r : Int) (w : World) (hr0 : Kd.C (Kd.int .i64) w A0 l0.length l0) (hc0 : l0.length ≤ c0) (h : laws_heldIntS.f k l0 a1 = some r) :
  Calls Try.prog 23 #[.slice A0 l0.length c0, .int .i64 a1] w fun e w' => e = .returned (.int .i64 r) ∧ Drawn0 w w' := by
 have HR0 := Aside0.mk hr0
 have HC0 := Aside0.mk hc0
 clear hr0 hc0
 have H : (laws_heldIntS.l0 k l0 a1 0) = some r := h
 clear h
 have H' := Aside0.mk H
 clear H
 go_enter Try.func23, Try.ntmps23
 go_wp2
 go_loopg [1, 5] k (fun kq v1 v5 w' => ∃ (x1_1 : Int) (x5_1 : Int), v1 = .int .i64 x1_1 ∧ v5 = .int .i64 x5_1 ∧ Aside0 (laws_heldIntS.l0 kq l0 x1_1 x5_1 = some r) ∧ Aside0 (kq ≤ k) ∧ Drawn0 w w')
 case atStart => exact ⟨(a1), (0), (by first | rfl | (simp; done) | (simp [*]; done)), (by first | rfl | (simp; done) | (simp [*]; done)), H', ⟨Nat.le_refl _⟩, by repeat (first | exact Drawn0.refl _ | apply Drawn0.step)⟩
 case round =>
  clear H'
  try clear c2
  try clear p2
  obtain ⟨x1_1, x5_1, rfl, rfl, HA, HK1, ⟨m1, rfl⟩⟩ := hrel
  cases gk with
  | zero => exact absurd HA.out (by simp [laws_heldIntS.l0])
  | succ k1 =>
   have H := HA.out
   clear HA
   simp only [laws_heldIntS.l0] at H
   by_cases c3 : x5_1 < (l0.length : Int)
   ·rw [if_pos c3] at H
    have c3b0 : decide (x5_1 < (l0.length : Int)) = true := decide_eq_true c3
    clear c3
    by_cases c4 : 0 ≤ x5_1
    ·rw [if_pos c4] at H
     have c4b0 : decide (0 ≤ x5_1) = true := decide_eq_true c4
     clear c4
     by_cases c5 : (rd l0 x5_1) = x1_1
     ·rw [if_pos c5] at H
      have c5b0 : ((rd l0 x5_1) == x1_1) = true := beq_iff_eq.mpr c5
      have c5b1 : ((rd l0 x5_1) != x1_1) = false := bne_eq_false_iff_eq.mpr c5
      clear c5
      have H' := Aside0.mk H
      clear H
      have p215 : 0 ≤ (x5_1 : Int) := of_decide_eq_true (by first | (with_reducible assumption) | assumption)
      have q215 : x5_1 < (l0.length : Int) := of_decide_eq_true (by first | (with_reducible assumption) | assumption)
      obtain ⟨ad215, e215, hx215_0⟩ := Kd.at_int HR0.out x5_1 p215 q215
      cases e215
      replace p215 := eq_true p215
      replace q215 := eq_true q215
      go_wp2
      go_roundg k1
      case measure => have := HK1.out; omega
      case rel => exact ⟨(wrap64 (x1_1 + 1)), (wrap64 (x5_1 + 1)), (by first | rfl | (simp; done) | (simp [*]; done)), (by first | rfl | (simp; done) | (simp [*]; done)), H', ⟨by have := HK1.out; omega⟩, by repeat (first | exact Drawn0.refl _ | apply Drawn0.step)⟩
     ·rw [if_neg c5] at H
      have c5b0 : ((rd l0 x5_1) == x1_1) = false := beq_eq_false_iff_ne.mpr c5
      have c5b1 : ((rd l0 x5_1) != x1_1) = true := bne_iff_ne.mpr c5
      obtain rfl := Option.some.inj H
      have p215 : 0 ≤ (x5_1 : Int) := of_decide_eq_true (by first | (with_reducible assumption) | assumption)
      have q215 : x5_1 < (l0.length : Int) := of_decide_eq_true (by first | (with_reducible assumption) | assumption)
      obtain ⟨ad215, e215, hx215_0⟩ := Kd.at_int HR0.out x5_1 p215 q215
      cases e215
      replace p215 := eq_true p215
      replace q215 := eq_true q215
      go_wp2
      go_ret
      exact ⟨by first | rfl | (simp; done) | (simp [*]; done), by repeat (first | exact Drawn0.refl _ | apply Drawn0.step)⟩
    ·rw [if_neg c4] at H
     exact absurd H (by simp)
   ·rw [if_neg c3] at H
    have c3b0 : decide (x5_1 < (l0.length : Int)) = false := decide_eq_false c3
    clear c3
    obtain rfl := Option.some.inj H
    go_wp2
    go_ret
    exact ⟨by first | rfl | (simp; done) | (simp [*]; done), by repeat (first | exact Drawn0.refl _ | apply Drawn0.step)⟩

/-! ### laws_heldIntSS: function 40 -/
def laws_heldIntSS.l0 : Nat → List (List Int) → Int → Int → Option (Int)
 | 0, _, _, _ => none
 | k + 1, x0, x1, x5 => if x5 < (x0.length : Int) then (if 0 ≤ x5 then ((laws_heldIntS.f k (rd_L1 x0 x5) x1).bind fun t217 => (if t217 < 0 then (some (-1)) else (laws_heldIntSS.l0 k x0 t217 (wrap64 (x5 + 1))))) else (none)) else (some x1)
def laws_heldIntSS.f (k : Nat) (l0 : List (List Int)) (a1 : Int) : Option (Int) := laws_heldIntSS.l0 k l0 a1 0
set_option maxHeartbeats 8000000 in
set_option maxRecDepth 100000 in
theorem laws_heldIntSS.calls (k : Nat) (A0 : Option Addr) (c0 : Nat) (l0 : List (List Int)) (a1 : Int) (r : Int) (w : World) (hr0 : Kd.C (Kd.slice 3 (Kd.int .i64)) w A0 l0.length l0) (hc0 : l0.length ≤ c0) (h : laws_heldIntSS.f k l0 a1 = some r) :
  Calls Try.prog 40 #[.slice A0 l0.length c0, .int .i64 a1] w fun e w' => e = .returned (.int .i64 r) ∧ Drawn0 w w' := by
 have HR0 := Aside0.mk hr0
 have HC0 := Aside0.mk hc0
 clear hr0 hc0
 have H : (laws_heldIntSS.l0 k l0 a1 0) = some r := h
 clear h
 have H' := Aside0.mk H
 clear H
 go_enter Try.func40, Try.ntmps40
 go_wp2
 go_loopg [1, 5] k (fun kq v1 v5 w' => ∃ (x1_1 : Int) (x5_1 : Int), v1 = .int .i64 x1_1 ∧ v5 = .int .i64 x5_1 ∧ Aside0 (laws_heldIntSS.l0 kq l0 x1_1 x5_1 = some r) ∧ Aside0 (kq ≤ k) ∧ Drawn0 w w')
 case atStart => exact ⟨(a1), (0), (by first | rfl | (simp; done) | (simp [*]; done)), (by first | rfl | (simp; done) | (simp [*]; done)), H', ⟨Nat.le_refl _⟩, by repeat (first | exact Drawn0.refl _ | apply Drawn0.step)⟩
 case round =>
  clear H'
  try clear p2
  obtain ⟨x1_1, x5_1, rfl, rfl, HA, HK1, ⟨m1, rfl⟩⟩ := hrel
  cases gk with
  | zero => exact absurd HA.out (by simp [laws_heldIntSS.l0])
  | succ k1 =>
   have H := HA.out
   clear HA
   simp only [laws_heldIntSS.l0] at H
   by_cases c3 : x5_1 < (l0.length : Int)
   ·rw [if_pos c3] at H
    have c3b0 : decide (x5_1 < (l0.length : Int)) = true := decide_eq_true c3
    clear c3
    by_cases c4 : 0 ≤ x5_1
    ·rw [if_pos c4] at H
     have c4b0 : decide (0 ≤ x5_1) = true := decide_eq_true c4
     clear c4
     replace H := Option.bind_eq_some_iff.mp H
     obtain ⟨t217, A50, H⟩ := H
     replace H : (if t217 < 0 then (some (-1)) else (laws_heldIntSS.l0 k1 l0 t217 (wrap64 (x5_1 + 1)))) = some r := H
     have A5 := Aside0.mk A50
     clear A50
     by_cases c6 : t217 < 0
     ·rw [if_pos c6] at H
      have c6b0 : decide (t217 < 0) = true := decide_eq_true c6
      clear c6
      obtain rfl := Option.some.inj H
      have p216 : 0 ≤ (x5_1 : Int) := of_decide_eq_true (by first | (with_reducible assumption) | assumption)
      have q216 : x5_1 < (l0.length : Int) := of_decide_eq_true (by first | (with_reducible assumption) | assumption)
      obtain ⟨ad216, A216_0, c216_0, e216, hx216_0, hl216_0, hi216_0⟩ := at_L1 HR0.out x5_1 p216 q216
      cases e216
      have HR216_0 := Aside0.mk hi216_0
      have HC216_0 := Aside0.mk hl216_0
      clear hi216_0 hl216_0
      replace p216 := eq_true p216
      replace q216 := eq_true q216
      go_wp2_with (first | ((with_reducible refine gate_callee (f := 23) rfl ?_); refine goesL_ (some 17) rfl rfl Try.func23 (by kernel_rfl) rfl #[.slice A216_0 (rd_L1 l0 x5_1).length c216_0, .int .i64 x1_1] rfl (by (try simp only [List.map_toArray, List.map_cons, List.map_nil]); first | done | rfl | (simp only [List.length_drop, List.length_take]; rfl)) ?_; (with_reducible refine (laws_heldIntS.calls k1 _ _ (rd_L1 l0 x5_1) x1_1 t217 _ ?side1 ?side2 A5.out).mono ?_); (case side1 => repeat (first | exact HR216_0.out | (with_reducible refine Kd.C_alloc ?_ _) | (with_reducible refine Kd.C_drewN ?_ _) | (with_reducible refine Kd.C_drew ?_))); (case side2 => exact HC216_0.out); rintro e w' ⟨rfl, ⟨nd, rfl⟩⟩; refine ⟨_, rfl, ?_⟩))
      go_ret
      exact ⟨by first | rfl | (simp; done) | (simp [*]; done), by repeat (first | exact Drawn0.refl _ | apply Drawn0.step)⟩
     ·rw [if_neg c6] at H
      have c6b0 : decide (t217 < 0) = false := decide_eq_false c6
      clear c6
      have H' := Aside0.mk H
      clear H
      have p216 : 0 ≤ (x5_1 : Int) := of_decide_eq_true (by first | (with_reducible assumption) | assumption)
      have q216 : x5_1 < (l0.length : Int) := of_decide_eq_true (by first | (with_reducible assumption) | assumption)
      obtain ⟨ad216, A216_0, c216_0, e216, hx216_0, hl216_0, hi216_0⟩ := at_L1 HR0.out x5_1 p216 q216
      cases e216
      have HR216_0 := Aside0.mk hi216_0
      have HC216_0 := Aside0.mk hl216_0
      clear hi216_0 hl216_0
      replace p216 := eq_true p216
      replace q216 := eq_true q216
      go_wp2_with (first | ((with_reducible refine gate_callee (f := 23) rfl ?_); refine goesL_ (some 17) rfl rfl Try.func23 (by kernel_rfl) rfl #[.slice A216_0 (rd_L1 l0 x5_1).length c216_0, .int .i64 x1_1] rfl (by (try simp only [List.map_toArray, List.map_cons, List.map_nil]); first | done | rfl | (simp only [List.length_drop, List.length_take]; rfl)) ?_; (with_reducible refine (laws_heldIntS.calls k1 _ _ (rd_L1 l0 x5_1) x1_1 t217 _ ?side1 ?side2 A5.out).mono ?_); (case side1 => repeat (first | exact HR216_0.out | (with_reducible refine Kd.C_alloc ?_ _) | (with_reducible refine Kd.C_drewN ?_ _) | (with_reducible refine Kd.C_drew ?_))); (case side2 => exact HC216_0.out); rintro e w' ⟨rfl, ⟨nd, rfl⟩⟩; refine ⟨_, rfl, ?_⟩))
      go_roundg k1
      case measure => have := HK1.out; omega
      case rel => exact ⟨(t217), (wrap64 (x5_1 + 1)), (by first | rfl | (simp; done) | (simp [*]; done)), (by first | rfl | (simp; done) | (simp [*]; done)), H', ⟨by have := HK1.out; omega⟩, by repeat (first | exact Drawn0.refl _ | apply Drawn0.step)⟩
    ·rw [if_neg c4] at H
     exact absurd H (by simp)
   ·rw [if_neg c3] at H
    have c3b0 : decide (x5_1 < (l0.length : Int)) = false := decide_eq_false c3
    clear c3
    obtain rfl := Option.some.inj H
    go_wp2
    go_ret
    exact ⟨by first | rfl | (simp; done) | (simp [*]; done), by repeat (first | exact Drawn0.refl _ | apply Drawn0.step)⟩

/-! ### laws_FnExactRowsOf: function 12 -/
/-- Marks in all rows of a row, as markIntS sets them one after the other. -/
def laws_markIntSS.f (k : Nat) : Int → List (List Int) → Option (Int × List (List Int))
 | a, [] => some (a, [])
 | a, x :: xs => (laws_markIntS.f k x a).bind fun r => (laws_markIntSS.f k r.1 xs).bind fun q => some (q.1, r.2 :: q.2)
theorem mid_getD {α : Type} (done rest : List α) (x z : α) : (done ++ x :: rest).getD done.length z = x := by
 rw [List.getD_eq_getElem?_getD, List.getElem?_append_right (Nat.le_refl _)]; simp
theorem mid_set {α : Type} (done rest : List α) (x y : α) : (done ++ x :: rest).set done.length y = done ++ [y] ++ rest := by
 rw [List.set_append_right _ _ (Nat.le_refl _), Nat.sub_self, List.append_assoc]; rfl
set_option maxHeartbeats 8000000 in
set_option maxRecDepth 100000 in
theorem markSS_calls (k : Nat) (ok : Nat → Prop) (A : Option Addr) (c c2 : Nat) (xs ys : List (List Int)) (a b : Int) (w0 w : World) (hB : Below w0.heap.size w0 w) (hS : Kd.S (Kd.slice 3 (Kd.int .i64)) 29 w w0.heap.size ok (.slice A xs.length c) xs) (h : laws_markIntSS.f k a xs = some (b, ys)) :
  Calls Try.prog 39 #[.slice A xs.length c2, .int .i64 a] w fun e w' => e = .returned (.int .i64 b) ∧ Kd.S (Kd.slice 3 (Kd.int .i64)) 29 w' w0.heap.size ok (.slice A xs.length c) ys ∧ Below w0.heap.size w0 w' := by
 have hbig : xs.length ≤ 9223372036854775807 := (Kd.S_reads' hS).2.2.2.1
 obtain ⟨n, hn⟩ : ∃ n, n = xs.length := ⟨_, rfl⟩
 have HS0 := Aside0.mk hS
 have HB0 := Aside0.mk hB
 have H0 := Aside0.mk h
 have HN := Aside0.mk hn
 clear hS hB h
 rw [← hn] at HS0 hbig ⊢
 clear hn
 go_enter Try.func39, Try.ntmps39
 go_wp2
 go_loopg [1, 5] n (fun gg v1 v5 wr => ∃ (i : Nat) (ai : Int) (done rest zs : List (List Int)), i ≤ n ∧ n - i ≤ gg ∧ v1 = .int .i64 ai ∧ v5 = .int .i64 i ∧ Aside0 (done.length = i ∧ done.length + rest.length = n ∧ laws_markIntSS.f k ai rest = some (b, zs) ∧ done ++ zs = ys) ∧ Aside0 (Kd.S (Kd.slice 3 (Kd.int .i64)) 29 wr w0.heap.size ok (.slice A n c) (done ++ rest)) ∧ Aside0 (Below w0.heap.size w0 wr))
 case atStart => exact ⟨0, a, [], xs, ys, Nat.zero_le _, by omega, rfl, rfl, ⟨rfl, by rw [HN.out]; simp, H0.out, rfl⟩, HS0, HB0⟩
 case round =>
  obtain ⟨i, ai, done, rest, zs, hi, hg, rfl, rfl, P, S, B⟩ := hrel
  by_cases hlt : i < n
  ·have hltz : (i : Int) < (n : Int) := by omega
   obtain ⟨p1, p2, p3, p4⟩ := P.out
   cases rest with
   | nil => simp at p2; omega
   | cons x rest =>
    rw [laws_markIntSS.f] at p3
    obtain ⟨r, hr, p3⟩ := Option.bind_eq_some_iff.1 p3
    obtain ⟨q, hq, p3⟩ := Option.bind_eq_some_iff.1 p3
    obtain ⟨r1, r2⟩ := r
    obtain ⟨q1, q2⟩ := q
    obtain ⟨rfl, rfl⟩ := Prod.mk.inj (Option.some.inj p3)
    obtain ⟨inner, how⟩ := Kd.S_own S.out
    rcases how.2 with ⟨e, e0⟩ | ⟨g, cap, cur, e, -⟩
    ·injection e with _ e2 _; omega
    injection e with e1 e2 e3
    subst e1
    clear e2 e3
    obtain ⟨oki, cs, -, hM, hcell, hoki, hH⟩ := Kd.S_lend S.out [] (i : Int) (by omega) (by omega)
    rw [Int.toNat_natCast, ← p1, mid_getD] at hM
    obtain ⟨v, rfl, hR⟩ := hM
    have hc0 := hcell 0 v rfl
    rw [Int.toNat_natCast, show ((Kd.slice 3 (Kd.int .i64))).sz = 1 from rfl, Nat.mul_one, Nat.add_zero] at hc0
    obtain ⟨Ax, cx, rfl⟩ := Kd.R_slice hR
    have HH := Aside0.mk hH
    have HR := Aside0.mk hR
    have HF := Aside0.mk hr
    have HQ := Aside0.mk hq
    have HP := Aside0.mk (show done.length = i ∧ done.length + (rest.length + 1) = n ∧ done ++ r2 :: q2 = ys from ⟨p1, by simpa using p2, p4⟩)
    clear p1 p2 p4 hq hr hR hH hcell how P S HS0 H0 HN
    go_wp2_with (go_at_call 22; refine (laws_markIntS.calls k oki _ x ai r1 r2 w0 _ B.out HR.out HF.out).mono ?_; rintro e w' ⟨rfl, hR', hb', hk⟩)
    go_roundg (n - (i + 1))
    case measure => omega
    case rel =>
     obtain ⟨p1, p2, p4⟩ := HP.out
     have hR2 := Kd.R_reok (ok := oki) rfl hR' (fun k e => HR.out.1 k e)
     have hH2 := Kd.H_kept HH.out hk (fun k _ hn hs => hn hs)
     have hS2 := Kd.H_back hH2 (okp := oki) (x' := r2) ⟨_, rfl, hR2⟩ (fun _ h => h)
     rw [Int.toNat_natCast, ← p1, mid_set] at hS2
     exact ⟨i + 1, r1, done ++ [r2], rest, q2, by omega, by omega, rfl, by go_num, ⟨by simp; omega, by simp; omega, HQ.out, by simpa using p4⟩, ⟨hS2⟩, ⟨hb'⟩⟩
  ·have hltz : ¬ (i : Int) < (n : Int) := by omega
   obtain ⟨p1, p2, p3, p4⟩ := P.out
   have hr0 : rest = [] := List.length_eq_zero_iff.1 (by omega)
   subst hr0
   rw [laws_markIntSS.f] at p3
   obtain ⟨rfl, rfl⟩ := Prod.mk.inj (Option.some.inj p3)
   rw [List.append_nil] at p4
   have hS := S.out
   rw [List.append_nil, p4] at hS
   have HSS := Aside0.mk hS
   clear hS p1 p2 p3 p4 P S HS0 H0 HN
   have : i = n := by omega
   subst this
   go_wp2
   go_ret
   exact ⟨rfl, HSS.out, B.out⟩
/-- What the law comes to where it is kept: the true way alone is told. -/
def laws_FnExactRowsOf.f (k : Nat) (l0 : List Int) (a1 : Int) : Option (Bool) := if (l0.length : Int) > 1048576 then some true else (laws_toIntS.f k l0).bind fun X => (spec_RowsOf.f k X a1).bind fun W => (impl_RowsOf.f k X a1).bind fun G => (laws_eqIntSS.f k G W).bind fun q1 => (laws_eqIntS.f k X X).bind fun q2 => (laws_markIntS.f k X 1).bind fun mx => (laws_markIntSS.f k 1 G).bind fun m => (laws_heldIntSS.f k m.2 1).bind fun hh => if q1 = true ∧ q2 = true ∧ ¬ mx.1 < 0 ∧ hh = m.1 ∧ ¬ m.1 < 0 then some true else none
theorem laws_FnExactRowsOf.calls (k : Nat) (A0 : Option Addr) (c0 : Nat) (l0 : List Int) (a1 : Int) (r : Bool) (w : World) (hr0 : Kd.C (Kd.int .i64) w A0 l0.length l0) (hc0 : l0.length ≤ c0) (h : laws_FnExactRowsOf.f k l0 a1 = some r) :
  Calls Try.prog 12 #[.slice A0 l0.length c0, .int .i64 a1] w fun e w' => e = .returned (.bool r) ∧ Below w.heap.size w w' := by
 unfold laws_FnExactRowsOf.f at h
 by_cases hbig : (l0.length : Int) > 1048576
 ·rw [if_pos hbig] at h
  obtain rfl := Option.some.inj h
  clear hr0
  go_enter Try.func12, Try.ntmps12
  go_wp2
  go_ret
  exact ⟨rfl, Below.refl _ _⟩
 rw [if_neg hbig] at h
 obtain ⟨X, fX, h⟩ := Option.bind_eq_some_iff.1 h
 obtain ⟨W, fW, h⟩ := Option.bind_eq_some_iff.1 h
 obtain ⟨G, fG, h⟩ := Option.bind_eq_some_iff.1 h
 obtain ⟨q1, f1, h⟩ := Option.bind_eq_some_iff.1 h
 obtain ⟨q2, f2, h⟩ := Option.bind_eq_some_iff.1 h
 obtain ⟨⟨mx, X'⟩, fM, h⟩ := Option.bind_eq_some_iff.1 h
 obtain ⟨⟨mm, G'⟩, fS, h⟩ := Option.bind_eq_some_iff.1 h
 obtain ⟨hh, fH, h⟩ := Option.bind_eq_some_iff.1 h
 by_cases hc : q1 = true ∧ q2 = true ∧ ¬ mx < 0 ∧ hh = mm ∧ ¬ mm < 0
 ·rw [if_pos hc] at h
  obtain rfl := Option.some.inj h
  obtain ⟨rfl, rfl, hmx, rfl, hmm⟩ := hc
  have HL := Aside0.mk hr0
  have HCL := Aside0.mk hc0
  have FX := Aside0.mk fX; have FW := Aside0.mk fW; have FG := Aside0.mk fG; have F1 := Aside0.mk f1; have F2 := Aside0.mk f2; have FM := Aside0.mk fM; have FS := Aside0.mk fS; have FH := Aside0.mk fH
  have ST1 := Aside0.mk trivial
  clear hr0 hc0 fX fW fG f1 f2 fM fS fH
  go_enter Try.func12, Try.ntmps12
  go_wp2_with (first
   | (go_at_call 29; have st_ := ST1.out; clear st_; refine (laws_toIntS.calls k A0 c0 l0 X _ HL.out HCL.out FX.out).mono ?_; rintro e w1 ⟨v1, rfl, hR, hb⟩; obtain ⟨A1, c1, rfl⟩ := Kd.R_slice hR; have R1 := Aside0.mk hR; have B1 := Aside0.mk hb; clear hR hb ST1; have ST2 := Aside0.mk trivial)
   | (go_at_call 36; have st_ := ST2.out; clear st_; have hq := Kd.R_reads' R1.out; refine (spec_RowsOf.calls k A1 c1 X a1 W _ hq.2.2 hq.2.1 FW.out).mono ?_; clear hq; rintro e w2 ⟨v2, rfl, hN, hb⟩; obtain ⟨AW, cW, rfl⟩ := Kd.N_slice hN; have CW := Aside0.mk (Kd.N_reads' hN).2.2; have CCW := Aside0.mk (Kd.N_reads' hN).2.1; have B2 := Aside0.mk (B1.out.trans (hb.mono B1.out.size)); clear hN hb ST2 R1 B1; have ST3 := Aside0.mk trivial)
   | (go_at_call 29; have st_ := ST3.out; clear st_; refine (laws_toIntS.calls k A0 c0 l0 X _ (Kd.C_below HL.out B2.out) HCL.out FX.out).mono ?_; rintro e w3 ⟨v3, rfl, hR, hb⟩; obtain ⟨Ax, cx, rfl⟩ := Kd.R_slice hR; have RX := Aside0.mk hR; have LX := Aside0.mk (Kd.R_lt hR); have B23 := Aside0.mk hb; clear hR hb ST3; have ST4 := Aside0.mk trivial)
   | (go_at_call 37; have st_ := ST4.out; clear st_; have hq := Kd.R_reads' RX.out; refine (impl_RowsOf.strong k Ax cx X a1 G _ hq.2.2 hq.2.1 FG.out).mono ?_; clear hq; rintro e w4 ⟨Ag, cg, rfl, hS, hb⟩; have SG := Aside0.mk hS; have B34 := Aside0.mk hb; clear hS hb ST4; have ST5 := Aside0.mk trivial)
   | (go_at_call 38; have st_ := ST5.out; clear st_; have hb := B23.out.trans (B34.out.mono B23.out.size); refine (laws_eqIntSS.calls k Ag G.length G AW cW W true _ (Kd.S_reads' SG.out).2.2 (Nat.le_refl _) (Kd.C_below CW.out hb) CCW.out F1.out).mono ?_; rintro e w5 ⟨rfl, nd, rfl⟩; have B25 := Aside0.mk (pw_below_drewN hb nd); have SG5 := Aside0.mk (Kd.S_drewN SG.out nd); have RX5 := Aside0.mk (Kd.R_drewN (Kd.R_below RX.out B34.out) nd); clear hb ST5; have ST6 := Aside0.mk trivial)
   | (go_at_call 29; have st_ := ST6.out; clear st_; refine (laws_toIntS.calls k A0 c0 l0 X _ (Kd.C_below HL.out (B2.out.trans (B25.out.mono B2.out.size))) HCL.out FX.out).mono ?_; rintro e w6 ⟨v6, rfl, hR, hb⟩; obtain ⟨A6, c6, rfl⟩ := Kd.R_slice hR; have R6 := Aside0.mk hR; have B26 := Aside0.mk (B25.out.trans (hb.mono B25.out.size)); have SG6 := Aside0.mk (Kd.S_below SG5.out hb); have RX6 := Aside0.mk (Kd.R_below RX5.out hb); clear hR hb ST6; have ST7 := Aside0.mk trivial)
   | (go_at_call 21; have st_ := ST7.out; clear st_; have hq := Kd.R_reads' R6.out; have hq2 := Kd.R_reads' RX6.out; refine (laws_eqIntS.calls k Ax cx X A6 c6 X true _ hq2.2.2 hq2.2.1 hq.2.2 hq.2.1 F2.out).mono ?_; clear hq hq2; rintro e w7 ⟨rfl, nd, rfl⟩; have B27 := Aside0.mk (pw_below_drewN B26.out nd); have SG7 := Aside0.mk (Kd.S_drewN SG6.out nd); have RX7 := Aside0.mk (Kd.R_drewN RX6.out nd); clear ST7; have ST8 := Aside0.mk trivial)
   | (go_at_call 22; have st_ := ST8.out; clear st_; refine (laws_markIntS.calls k _ _ X 1 mx X' _ _ B27.out (Kd.R_tight rfl RX7.out) FM.out).mono ?_; rintro e w8 ⟨rfl, -, hb, hk⟩; have B28 := Aside0.mk hb; have SG8 := Aside0.mk (Kd.S_kept SG7.out hk (fun k_ h1 h2 => Nat.not_le.2 (LX.out k_ h2.symm) h1)); clear hb hk ST8; have ST9 := Aside0.mk trivial)
   | (go_at_call 38; have st_ := ST9.out; clear st_; refine (laws_eqIntSS.calls k Ag G.length G AW cW W true _ (Kd.S_reads' SG8.out).2.2 (Nat.le_refl _) (Kd.C_below CW.out B28.out) CCW.out F1.out).mono ?_; rintro e w9 ⟨rfl, nd, rfl⟩; have B29 := Aside0.mk (pw_below_drewN B28.out nd); have SG9 := Aside0.mk (Kd.S_lower (Kd.S_drewN SG8.out nd) B23.out.size); clear ST9; have ST10 := Aside0.mk trivial)
   | (go_at_call 39; have st_ := ST10.out; clear st_; refine (markSS_calls k _ Ag cg G.length G G' 1 hh _ _ B29.out SG9.out FS.out).mono ?_; rintro e w10 ⟨rfl, hS, hb⟩; have SGa := Aside0.mk hS; have B2a := Aside0.mk hb; clear hS hb ST10; have ST11 := Aside0.mk trivial)
   | (go_at_call 40; have st_ := ST11.out; clear st_; have hq := Kd.S_reads' SGa.out; have hql := hq.1; refine calls_of_args (args' := #[.slice Ag G'.length G.length, .int .i64 1]) (by rw [hql]) ?_; refine (laws_heldIntSS.calls k Ag G.length G' 1 hh _ hq.2.2 (by omega) FH.out).mono ?_; rintro e w11 ⟨rfl, nd, rfl⟩; have B2b := Aside0.mk (pw_below_drewN B2a.out nd); have SGb := Aside0.mk (Kd.S_drewN SGa.out nd); clear hq hql ST11; have ST12 := Aside0.mk trivial)
   | (go_at_call 29; have st_ := ST12.out; clear st_; refine (laws_toIntS.calls k A0 c0 l0 X _ (Kd.C_below HL.out (B2.out.trans (B2b.out.mono B2.out.size))) HCL.out FX.out).mono ?_; rintro e w12 ⟨v12, rfl, hR, hb⟩; obtain ⟨Ac, cc, rfl⟩ := Kd.R_slice hR; have RC := Aside0.mk hR; have B2c := Aside0.mk (B2b.out.trans (hb.mono B2b.out.size)); have SGc := Aside0.mk (Kd.S_below SGb.out hb); clear hR hb ST12; have ST13 := Aside0.mk trivial)
   | (go_at_call 37; have st_ := ST13.out; clear st_; have hq := Kd.R_reads' RC.out; refine (impl_RowsOf.strong k Ac cc X a1 G _ hq.2.2 hq.2.1 FG.out).mono ?_; clear hq; rintro e w13 ⟨Ah, ch, rfl, hS, hb⟩; have SH := Aside0.mk hS; have B2d := Aside0.mk (B2c.out.trans (hb.mono B2c.out.size)); have SGd := Aside0.mk (Kd.S_below SGc.out hb); clear hS hb ST13; have ST14 := Aside0.mk trivial)
   | (go_at_call 38; have st_ := ST14.out; clear st_; refine (laws_eqIntSS.calls k Ah G.length G AW cW W true _ (Kd.S_reads' SH.out).2.2 (Nat.le_refl _) (Kd.C_below CW.out B2d.out) CCW.out F1.out).mono ?_; rintro e w14 ⟨rfl, nd, rfl⟩; have B2e := Aside0.mk (pw_below_drewN B2d.out nd); have SGe := Aside0.mk (Kd.S_drewN SGd.out nd); clear ST14; have ST15 := Aside0.mk trivial)
   | (go_at_call 40; have st_ := ST15.out; clear st_; have hq := Kd.S_reads' SGe.out; have hql := hq.1; refine calls_of_args (args' := #[.slice Ag G'.length G.length, .int .i64 1]) (by rw [hql]) ?_; refine (laws_heldIntSS.calls k Ag G.length G' 1 hh _ hq.2.2 (by omega) FH.out).mono ?_; rintro e w15 ⟨rfl, nd, rfl⟩; have B2f := Aside0.mk (pw_below_drewN B2e.out nd); clear hq hql ST15))
  go_ret
  have hb := B2.out.trans (B2f.out.mono B2.out.size)
  exact ⟨rfl, by first | exact hb | (rw [World.drewN_drewN] at hb; exact hb)⟩
 ·rw [if_neg hc] at h; cases h

/-- THE ONE PURE STATEMENT of laws_FnExactRowsOf: yours. -/
def laws_FnExactRowsOf.Pure : Prop := ∀ (l0 : List Int) (a1 : Int), l0.length ≤ maxLen → l0.length * 8 ≤ 140737488351232 → (∀ x ∈ l0, (Lit.int .i64 x).wf = true) → (Lit.int .i64 a1).wf = true → ∃ k, laws_FnExactRowsOf.f k l0 a1 = some true
theorem laws_FnExactRowsOf.walk (P : laws_FnExactRowsOf.Pure) (a0 : Option Addr) (len0 cap0 : Nat) (z0 : List Int) (a1 : Int) (w : World) (w0 : (a0 = none ∧ len0 = 0 ∧ cap0 = 0 ∧ z0 = []) ∨ ∃ x, a0 = some x ∧ len0 ≤ cap0 ∧ cap0 ≤ maxLen ∧ z0.length = cap0 ∧ (∀ i, i < z0.length → w.cell? (x.add i) = some (.int .i64 (z0.getD i 0))) ∧ ∀ n ∈ z0, (Lit.int .i64 n).wf = true) (y0 : len0 * 8 ≤ 140737488351232) (w1 : (Lit.int .i64 a1).wf = true) :
  Calls Try.prog 12 #[.slice a0 len0 cap0, .int .i64 a1] w fun e w' => e = .returned (.bool true) ∧ Below w.heap.size w w' := by
 obtain ⟨l0, rfl, hr0, hm0, hw0, hc0⟩ := ReadsInt.ofRowC w0
 obtain ⟨k, h⟩ := P l0 a1 hm0 y0 hw0 w1
 refine (laws_FnExactRowsOf.calls k _ _ l0 a1 true w (Kd.C_of_reads (d := (0 : Int)) (h1 := fun _ => rfl) hr0) hc0 h).mono ?_
 rintro e w' ⟨rfl, hd⟩
 exact ⟨rfl, hd⟩

end Go.Proofs.Ytdckgafgidfplaa.QFnExactRowsOf
