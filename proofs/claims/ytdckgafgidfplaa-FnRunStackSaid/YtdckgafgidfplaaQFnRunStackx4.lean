/- The statement FnRunStack: a text of this session, written by a program of its own after the kit's print of these functions. -/
import Derived.Test.YtdckgafgidfplaaQFnRunStackx0
import Derived.Test.YtdckgafgidfplaaQFnRunStackx3
namespace Go.Proofs.Ytdckgafgidfplaa.QFnRunStack
open Go.RowKit Go.Proofs.YtdckgafgidfplaaW.PrintWords Go.Proofs.YtdckgafgidfplaaW.PrintLast Go.Proofs.YtdckgafgidfplaaW.PrintMore
attribute [local go_sem] max2_int min2_int max_two min_two max_three min_three max_four min_four   -- for this text's walks alone
set_option linter.unusedVariables false
set_option linter.unusedSimpArgs false

/-! ### spec_l20Moves: function 52 -/
mutual
def spec_l20Moves.l0 : Nat → ByteArray → Int → Int → List Int → Int → Option (ByteArray × Int)
 | 0, _, _, _, _, _ => none
 | k + 1, x5, x6, x7, x1000, x1001 => if x7 > 0 then (spec_l20Moves.j1 k x5 x6 x7 true x1000 x1001) else (spec_l20Moves.j1 k x5 x6 x7 (decide (x6 > 1)) x1000 x1001)
def spec_l20Moves.j1 : Nat → ByteArray → Int → Int → Bool → List Int → Int → Option (ByteArray × Int)
 | 0, _, _, _, _, _, _ => none
 | k + 1, x5, x6, x7, x15, x1000, x1001 => if x15 = true then (if x7 > 0 then (if x6 < 2 then (if x5.size + 1 ≤ 9223372036854775807 then (spec_l20Moves.l0 k (x5 ++ (⟨#[83]⟩ : ByteArray)) (wrap64 (x6 + 1)) (wrap64 (x7 - 1)) x1000 x1001) else (none)) else ((spec_l20Rd_pick.f k x1000 x1001 2).bind fun bt185 => (if bt185.1 = 0 then (if x5.size + 1 ≤ 9223372036854775807 then (spec_l20Moves.l0 k (x5 ++ (⟨#[83]⟩ : ByteArray)) (wrap64 (x6 + 1)) (wrap64 (x7 - 1)) x1000 bt185.2) else (none)) else ((some (([(⟨#[76]⟩ : ByteArray), (⟨#[82]⟩ : ByteArray)] : List ByteArray) : List ByteArray)).bind fun y187 => ((spec_l20Rd_pick.f k x1000 bt185.2 2).bind fun bt190 => (if 0 ≤ bt190.1 then (if bt190.1 < (y187.length : Int) then (if x5.size + (rdOf ByteArray.empty y187 bt190.1).size ≤ 9223372036854775807 then (spec_l20Moves.l0 k (x5 ++ (rdOf ByteArray.empty y187 bt190.1)) (wrap64 (x6 - 1)) x7 x1000 bt190.2) else (none)) else (none)) else (none))))))) else ((some (([(⟨#[76]⟩ : ByteArray), (⟨#[82]⟩ : ByteArray)] : List ByteArray) : List ByteArray)).bind fun y193 => ((spec_l20Rd_pick.f k x1000 x1001 2).bind fun bt196 => (if 0 ≤ bt196.1 then (if bt196.1 < (y193.length : Int) then (if x5.size + (rdOf ByteArray.empty y193 bt196.1).size ≤ 9223372036854775807 then (spec_l20Moves.l0 k (x5 ++ (rdOf ByteArray.empty y193 bt196.1)) (wrap64 (x6 - 1)) x7 x1000 bt196.2) else (none)) else (none)) else (none))))) else ((spec_l20Rd_odd.f k x1000 x1001 8).bind fun bt199 => (if bt199.1 = true then (spec_l20Moves.j2 k x5 (decide ((x5.size : Int) > 0)) x1000 bt199.2) else (spec_l20Moves.j2 k x5 false x1000 bt199.2)))
def spec_l20Moves.j2 : Nat → ByteArray → Bool → List Int → Int → Option (ByteArray × Int)
 | 0, _, _, _, _ => none
 | k + 1, x5, x48, x1000, x1001 => if x48 = true then ((spec_l20Rd_pick.f k x1000 x1001 (x5.size : Int)).bind fun bt201 => (if 0 ≤ bt201.1 then (if bt201.1 ≤ (x5.size : Int) then ((some (([(⟨#[]⟩ : ByteArray), (⟨#[83]⟩ : ByteArray), (⟨#[76]⟩ : ByteArray), (⟨#[120]⟩ : ByteArray)] : List ByteArray) : List ByteArray)).bind fun y203 => ((spec_l20Rd_pick.f k x1000 bt201.2 4).bind fun bt206 => (if 0 ≤ bt206.1 then (if bt206.1 < (y203.length : Int) then (if (x5.extract 0 (bt201.1 : Int).toNat).size + (rdOf ByteArray.empty y203 bt206.1).size ≤ 9223372036854775807 then (if 0 ≤ (wrap64 (bt201.1 + 1)) then (if (wrap64 (bt201.1 + 1)) ≤ (x5.size : Int) then (if ((x5.extract 0 (bt201.1 : Int).toNat) ++ (rdOf ByteArray.empty y203 bt206.1)).size + (x5.extract ((wrap64 (bt201.1 + 1)) : Int).toNat x5.size).size ≤ 9223372036854775807 then (some (((x5.extract 0 (bt201.1 : Int).toNat) ++ (rdOf ByteArray.empty y203 bt206.1)) ++ (x5.extract ((wrap64 (bt201.1 + 1)) : Int).toNat x5.size), bt206.2)) else (none)) else (none)) else (none)) else (none)) else (none)) else (none)))) else (none)) else (none))) else (some (x5, x1001))
end
def spec_l20Moves.f (k : Nat) (s0_0 : List Int) (s0_1 : Int) (a1 : Int) : Option (ByteArray × Int) := spec_l20Moves.l0 k (⟨#[]⟩ : ByteArray) 0 a1 s0_0 s0_1
def spec_l20Moves.T13 : Bool × List (List Nat × List Nat) := (true, [([], []), ([], []), ([0, 1], [0, 1]), ([], []), ([], []), ([4], [4]), ([3, 5], [3, 5]), ([6], [6]), ([2, 7], [2, 7]), ([], []), ([], []), ([10], [10]), ([9, 11], [9, 11]), ([8, 12], [8, 12]), ([13, 5, 0, 1, 2, 3, 4, 5, 6, 7, 8, 9, 10, 11, 12, 13], [13])])
def spec_l20Moves.B13 : List Nat := [0, 0, 3, 0, 0, 16, 56, 120, 255, 0, 0, 1024, 3584, 8191, 16383]
theorem spec_l20Moves.tab13 : rtab .any (opsOf Try.f52 13) = spec_l20Moves.T13 := by kernel_rfl
theorem spec_l20Moves.bits13 : waitsOk spec_l20Moves.T13.2 spec_l20Moves.B13 = true := by kernel_rfl
set_option maxHeartbeats 8000000 in
set_option maxRecDepth 100000 in
theorem spec_l20Moves.calls (k : Nat) (g : Nat) (s0_0 : List Int) (s0_1 : Int) (a1 : Int) (r1 : ByteArray) (r2 : Int) (w0 w : World) (hI : IsS72 w0 w g s0_0 s0_1) (hB : Below w0.heap.size w0 w) (h : spec_l20Moves.f k s0_0 s0_1 a1 = some (r1, r2)) :
  Calls Try.prog 52 #[.pointer (some ⟨g, 0, none⟩), .int .i64 a1] w fun e w' => e = .returned (.string r1) ∧ IsS72 w0 w' g s0_0 r2 ∧ Below w0.heap.size w0 w' ∧ KeepBut w w' g none := by
 have HI0 := Aside0.mk hI
 have HK := Aside0.mk (KeepBut.refl w g none)
 have HL := Aside0.mk hB.size
 clear hI
 have HW0 := Aside0.mk hB.size
 have HB := Aside0.mk hB
 clear hB
 have H : (spec_l20Moves.l0 k (⟨#[]⟩ : ByteArray) 0 a1 s0_0 s0_1) = some (r1, r2) := h
 clear h
 have H' := Aside0.mk H
 clear H
 go_enter Try.func52, Try.ntmps52
 go_wp2
 go_loopg [5, 6, 7] k (fun kq v5 v6 v7 w' => ∃ (x5_1 : ByteArray) (x6_1 : Int) (x7_1 : Int) (x1001_1 : Int), v5 = .string x5_1 ∧ v6 = .int .i64 x6_1 ∧ v7 = .int .i64 x7_1 ∧ Aside0 (spec_l20Moves.l0 kq x5_1 x6_1 x7_1 s0_0 x1001_1 = some (r1, r2)) ∧ Aside0 (kq ≤ k) ∧ Aside0 (IsS72 w0 w' g s0_0 x1001_1) ∧ Aside0 (KeepBut w w' g none) ∧ Aside0 (Below w0.heap.size w0 w'))
 case atStart => exact ⟨((⟨#[]⟩ : ByteArray)), (0), (a1), (s0_1), (by first | rfl | (simp; done) | (simp [*]; done)), (by first | rfl | (simp; done) | (simp [*]; done)), (by first | rfl | (simp; done) | (simp [*]; done)), H', ⟨Nat.le_refl _⟩, ⟨by repeat (first | (with_reducible first | exact HI0.out | apply IsS72.alloc | apply IsS72.drewN | apply IsS72.drew | apply IsS72.set_1) | exact HI0.out)⟩, ⟨by repeat (first | (with_reducible first | exact HK.out | apply KeepBut.set_ | apply keep_drewN | apply keep_drew | apply keep_alloc) | exact HK.out)⟩, ⟨by repeat (first | (with_reducible first | exact HB.out | apply below_alloc | apply pw_below_drewN | apply below_drew1 | refine below_set ?_ (IsS72.ge HI0.out)) | exact HB.out)⟩⟩
 case round =>
  clear H'
  try clear p2
  obtain ⟨x5_1, x6_1, x7_1, x1001_1, rfl, rfl, rfl, HA, HK1, HI0, HK, HB⟩ := hrel
  cases gk with
  | zero => exact absurd HA.out (by simp [spec_l20Moves.l0])
  | succ k1 =>
   have H := HA.out
   clear HA
   simp only [spec_l20Moves.l0] at H
   have HC3 := Aside0.mk H
   clear H
   go_upto_region 4 with (fail)
   go_cut [15] (fun v15 wc => ∃ (kq : Nat) (x15_2 : Bool), v15 = .bool x15_2 ∧ Aside0 (spec_l20Moves.j1 kq x5_1 x6_1 x7_1 x15_2 s0_0 x1001_1 = some (r1, r2)) ∧ Aside0 (kq ≤ k1) ∧ Aside0 (IsS72 w0 wc g s0_0 x1001_1) ∧ Aside0 (KeepBut w wc g none) ∧ Aside0 (Below w0.heap.size w0 wc))
   case first =>
    have H := HC3.out
    clear HC3
    by_cases c4 : x7_1 > 0
    ·rw [if_pos c4] at H
     have c4b0 : decide (0 < x7_1) = true := decide_eq_true c4
     clear c4
     (first | rw [c4b0] | (simp only [i64_w, i32_w]; rw [c4b0]) | skip)
     have H' := Aside0.mk H
     clear H
     go_wp2
     go_meet
     case rel => exact ⟨_, (true), (by first | rfl | (simp; done) | (simp [*]; done)), H', ⟨by have := HK1.out; first | omega | exact Nat.le_refl _⟩, ⟨by repeat (first | (with_reducible first | exact HI0.out | apply IsS72.alloc | apply IsS72.drewN | apply IsS72.drew | apply IsS72.set_1) | exact HI0.out)⟩, ⟨by repeat (first | (with_reducible first | exact HK.out | apply KeepBut.set_ | apply keep_drewN | apply keep_drew | apply keep_alloc) | exact HK.out)⟩, ⟨by repeat (first | (with_reducible first | exact HB.out | apply below_alloc | apply pw_below_drewN | apply below_drew1 | refine below_set ?_ (IsS72.ge HI0.out)) | exact HB.out)⟩⟩
    ·rw [if_neg c4] at H
     have c4b0 : decide (0 < x7_1) = false := decide_eq_false c4
     clear c4
     (first | rw [c4b0] | (simp only [i64_w, i32_w]; rw [c4b0]) | skip)
     have H' := Aside0.mk H
     clear H
     go_wp2
     go_meet
     case rel => exact ⟨_, (decide (x6_1 > 1)), (by first | rfl | (simp; done) | (simp [*]; done)), H', ⟨by have := HK1.out; first | omega | exact Nat.le_refl _⟩, ⟨by repeat (first | (with_reducible first | exact HI0.out | apply IsS72.alloc | apply IsS72.drewN | apply IsS72.drew | apply IsS72.set_1) | exact HI0.out)⟩, ⟨by repeat (first | (with_reducible first | exact HK.out | apply KeepBut.set_ | apply keep_drewN | apply keep_drew | apply keep_alloc) | exact HK.out)⟩, ⟨by repeat (first | (with_reducible first | exact HB.out | apply below_alloc | apply pw_below_drewN | apply below_drew1 | refine below_set ?_ (IsS72.ge HI0.out)) | exact HB.out)⟩⟩
   case rest =>
    clear HC3
    try clear p2
    try clear c4
    try clear c4b0
    try clear p2
    obtain ⟨kq, x15_2, rfl, HA, HJ2, HI0, HK, HB⟩ := hcut
    cases kq with
    | zero => exact absurd HA.out (by simp [spec_l20Moves.j1])
    | succ kj2 =>
     have H := HA.out
     clear HA
     simp only [spec_l20Moves.j1] at H
     by_cases c5 : x15_2 = true
     ·subst c5
      have H1 : (if x7_1 > 0 then (if x6_1 < 2 then (if x5_1.size + 1 ≤ 9223372036854775807 then (spec_l20Moves.l0 kj2 (x5_1 ++ (⟨#[83]⟩ : ByteArray)) (wrap64 (x6_1 + 1)) (wrap64 (x7_1 - 1)) s0_0 x1001_1) else (none)) else ((spec_l20Rd_pick.f kj2 s0_0 x1001_1 2).bind fun bt185 => (if bt185.1 = 0 then (if x5_1.size + 1 ≤ 9223372036854775807 then (spec_l20Moves.l0 kj2 (x5_1 ++ (⟨#[83]⟩ : ByteArray)) (wrap64 (x6_1 + 1)) (wrap64 (x7_1 - 1)) s0_0 bt185.2) else (none)) else ((some (([(⟨#[76]⟩ : ByteArray), (⟨#[82]⟩ : ByteArray)] : List ByteArray) : List ByteArray)).bind fun y187 => ((spec_l20Rd_pick.f kj2 s0_0 bt185.2 2).bind fun bt190 => (if 0 ≤ bt190.1 then (if bt190.1 < (y187.length : Int) then (if x5_1.size + (rdOf ByteArray.empty y187 bt190.1).size ≤ 9223372036854775807 then (spec_l20Moves.l0 kj2 (x5_1 ++ (rdOf ByteArray.empty y187 bt190.1)) (wrap64 (x6_1 - 1)) x7_1 s0_0 bt190.2) else (none)) else (none)) else (none))))))) else ((some (([(⟨#[76]⟩ : ByteArray), (⟨#[82]⟩ : ByteArray)] : List ByteArray) : List ByteArray)).bind fun y193 => ((spec_l20Rd_pick.f kj2 s0_0 x1001_1 2).bind fun bt196 => (if 0 ≤ bt196.1 then (if bt196.1 < (y193.length : Int) then (if x5_1.size + (rdOf ByteArray.empty y193 bt196.1).size ≤ 9223372036854775807 then (spec_l20Moves.l0 kj2 (x5_1 ++ (rdOf ByteArray.empty y193 bt196.1)) (wrap64 (x6_1 - 1)) x7_1 s0_0 bt196.2) else (none)) else (none)) else (none))))) = some (r1, r2) := by rw [if_pos rfl] at H; exact H
      clear H
      have H := H1
      clear H1
      by_cases c6 : x7_1 > 0
      ·rw [if_pos c6] at H
       have c6b0 : decide (0 < x7_1) = true := decide_eq_true c6
       clear c6
       by_cases c7 : x6_1 < 2
       ·rw [if_pos c7] at H
        have c7b0 : decide (x6_1 < 2) = true := decide_eq_true c7
        clear c7
        by_cases c8 : x5_1.size + 1 ≤ 9223372036854775807
        ·rw [if_pos c8] at H
         have c8b0 := eq_true c8
         have c8b1 : decide (x5_1.size + 1 ≤ 9223372036854775807) = true := decide_eq_true c8
         try have c8b2 : (9223372036854775807 < x5_1.size + 1) = False := eq_false (Nat.not_lt.2 c8)
         have H' := Aside0.mk H
         clear H
         go_wp2
         go_roundg kj2
         case measure => have := HK1.out; have := HJ2.out; omega
         case rel => exact ⟨(x5_1 ++ (⟨#[83]⟩ : ByteArray)), (wrap64 (x6_1 + 1)), (wrap64 (x7_1 - 1)), (x1001_1), (by first | rfl | (simp; done) | (simp [*]; done)), (by first | rfl | (simp; done) | (simp [*]; done)), (by first | rfl | (simp; done) | (simp [*]; done)), H', ⟨by have := HK1.out; have := HJ2.out; omega⟩, ⟨by repeat (first | (with_reducible first | exact HI0.out | apply IsS72.alloc | apply IsS72.drewN | apply IsS72.drew | apply IsS72.set_1) | exact HI0.out)⟩, ⟨by repeat (first | (with_reducible first | exact HK.out | apply KeepBut.set_ | apply keep_drewN | apply keep_drew | apply keep_alloc) | exact HK.out)⟩, ⟨by repeat (first | (with_reducible first | exact HB.out | apply below_alloc | apply pw_below_drewN | apply below_drew1 | refine below_set ?_ (IsS72.ge HI0.out)) | exact HB.out)⟩⟩
        ·rw [if_neg c8] at H
         exact absurd H (by simp)
       ·rw [if_neg c7] at H
        have c7b0 : decide (x6_1 < 2) = false := decide_eq_false c7
        clear c7
        replace H := Option.bind_eq_some_iff.mp H
        obtain ⟨⟨t185, t186⟩, A90, H⟩ := H
        replace H : (if t185 = 0 then (if x5_1.size + 1 ≤ 9223372036854775807 then (spec_l20Moves.l0 kj2 (x5_1 ++ (⟨#[83]⟩ : ByteArray)) (wrap64 (x6_1 + 1)) (wrap64 (x7_1 - 1)) s0_0 t186) else (none)) else ((some (([(⟨#[76]⟩ : ByteArray), (⟨#[82]⟩ : ByteArray)] : List ByteArray) : List ByteArray)).bind fun y187 => ((spec_l20Rd_pick.f kj2 s0_0 t186 2).bind fun bt190 => (if 0 ≤ bt190.1 then (if bt190.1 < (y187.length : Int) then (if x5_1.size + (rdOf ByteArray.empty y187 bt190.1).size ≤ 9223372036854775807 then (spec_l20Moves.l0 kj2 (x5_1 ++ (rdOf ByteArray.empty y187 bt190.1)) (wrap64 (x6_1 - 1)) x7_1 s0_0 bt190.2) else (none)) else (none)) else (none))))) = some (r1, r2) := H
        have A9 := Aside0.mk A90
        clear A90
        by_cases c10 : t185 = 0
        ·rw [if_pos c10] at H
         have c10b0 : (t185 == 0) = true := beq_iff_eq.mpr c10
         have c10b1 : (t185 != 0) = false := bne_eq_false_iff_eq.mpr c10
         clear c10
         by_cases c11 : x5_1.size + 1 ≤ 9223372036854775807
         ·rw [if_pos c11] at H
          have c11b0 := eq_true c11
          have c11b1 : decide (x5_1.size + 1 ≤ 9223372036854775807) = true := decide_eq_true c11
          try have c11b2 : (9223372036854775807 < x5_1.size + 1) = False := eq_false (Nat.not_lt.2 c11)
          have H' := Aside0.mk H
          clear H
          go_wp2_with (first | (go_at_call 51; (with_reducible refine (spec_l20Rd_pick.calls kj2 g s0_0 x1001_1 2 t185 t186 w0 _ ?side1 ?side2 A9.out).mono ?_); (case side1 => repeat (first | (with_reducible first | exact HI0.out | apply IsS72.alloc | apply IsS72.drewN | apply IsS72.drew | apply IsS72.set_1) | exact HI0.out)); (case side2 => repeat (first | (with_reducible first | exact HB.out | apply below_alloc | apply pw_below_drewN | apply below_drew1 | refine below_set ?_ (IsS72.ge HI0.out)) | exact HB.out)); rintro e w12 ⟨rfl, hi, hb, hk⟩; have n0_ := Aside0.mk (KeepBut.trans (by repeat (first | (with_reducible first | exact HK.out | apply KeepBut.set_ | apply keep_drewN | apply keep_drew | apply keep_alloc) | exact HK.out)) hk (.inl rfl)); have n1_ := Aside0.mk (hb); have n2_ := Aside0.mk (hi); clear HK; clear HB; clear HI0; have HK := n0_; have HB := n1_; have HI0 := n2_; clear n0_ n1_ n2_; (try clear hb); (try clear hb2); (try clear hk); (try clear hi)))
          go_roundg kj2
          case measure => have := HK1.out; have := HJ2.out; omega
          case rel => exact ⟨(x5_1 ++ (⟨#[83]⟩ : ByteArray)), (wrap64 (x6_1 + 1)), (wrap64 (x7_1 - 1)), (t186), (by first | rfl | (simp; done) | (simp [*]; done)), (by first | rfl | (simp; done) | (simp [*]; done)), (by first | rfl | (simp; done) | (simp [*]; done)), H', ⟨by have := HK1.out; have := HJ2.out; omega⟩, ⟨by repeat (first | (with_reducible first | exact HI0.out | apply IsS72.alloc | apply IsS72.drewN | apply IsS72.drew | apply IsS72.set_1) | exact HI0.out)⟩, ⟨by repeat (first | (with_reducible first | exact HK.out | apply KeepBut.set_ | apply keep_drewN | apply keep_drew | apply keep_alloc) | exact HK.out)⟩, ⟨by repeat (first | (with_reducible first | exact HB.out | apply below_alloc | apply pw_below_drewN | apply below_drew1 | refine below_set ?_ (IsS72.ge HI0.out)) | exact HB.out)⟩⟩
         ·rw [if_neg c11] at H
          exact absurd H (by simp)
        ·rw [if_neg c10] at H
         have c10b0 : (t185 == 0) = false := beq_eq_false_iff_ne.mpr c10
         have c10b1 : (t185 != 0) = true := bne_iff_ne.mpr c10
         obtain ⟨y187, hy187⟩ : ∃ y_ : List ByteArray, y_ = (([(⟨#[76]⟩ : ByteArray), (⟨#[82]⟩ : ByteArray)] : List ByteArray)) := ⟨_, rfl⟩
         replace H : ((spec_l20Rd_pick.f kj2 s0_0 t186 2).bind fun bt190 => (if 0 ≤ bt190.1 then (if bt190.1 < (y187.length : Int) then (if x5_1.size + (rdOf ByteArray.empty y187 bt190.1).size ≤ 9223372036854775807 then (spec_l20Moves.l0 kj2 (x5_1 ++ (rdOf ByteArray.empty y187 bt190.1)) (wrap64 (x6_1 - 1)) x7_1 s0_0 bt190.2) else (none)) else (none)) else (none))) = some (r1, r2) := by first | (rw [hy187]; with_reducible exact H) | (have H2_ := (Option.bind_some _ _).symm.trans H; rw [hy187]; with_reducible exact H2_) | (have H2_ := (Option.bind_some _ _).symm.trans H; with_reducible exact H2_) | with_reducible exact H | (rw [hy187]; exact H) | exact H
         have Ny187 := Aside0.mk hy187
         clear hy187
         replace H := Option.bind_eq_some_iff.mp H
         obtain ⟨⟨t190, t191⟩, A130, H⟩ := H
         replace H : (if 0 ≤ t190 then (if t190 < (y187.length : Int) then (if x5_1.size + (rdOf ByteArray.empty y187 t190).size ≤ 9223372036854775807 then (spec_l20Moves.l0 kj2 (x5_1 ++ (rdOf ByteArray.empty y187 t190)) (wrap64 (x6_1 - 1)) x7_1 s0_0 t191) else (none)) else (none)) else (none)) = some (r1, r2) := H
         have A13 := Aside0.mk A130
         clear A130
         by_cases c14 : 0 ≤ t190
         ·rw [if_pos c14] at H
          have c14b0 : decide (0 ≤ t190) = true := decide_eq_true c14
          clear c14
          by_cases c15 : t190 < (y187.length : Int)
          ·rw [if_pos c15] at H
           have c15b0 : decide (t190 < (y187.length : Int)) = true := decide_eq_true c15
           clear c15
           by_cases c16 : x5_1.size + (rdOf ByteArray.empty y187 t190).size ≤ 9223372036854775807
           ·rw [if_pos c16] at H
            have c16b0 := eq_true c16
            have c16b1 : decide (x5_1.size + (rdOf ByteArray.empty y187 t190).size ≤ 9223372036854775807) = true := decide_eq_true c16
            try have c16b2 : (9223372036854775807 < x5_1.size + (rdOf ByteArray.empty y187 t190).size) = False := eq_false (Nat.not_lt.2 c16)
            have H' := Aside0.mk H
            clear H
            go_wp2_with (first | (go_at_call 51; (with_reducible refine (spec_l20Rd_pick.calls kj2 g s0_0 x1001_1 2 t185 t186 w0 _ ?side1 ?side2 A9.out).mono ?_); (case side1 => repeat (first | (with_reducible first | exact HI0.out | apply IsS72.alloc | apply IsS72.drewN | apply IsS72.drew | apply IsS72.set_1) | exact HI0.out)); (case side2 => repeat (first | (with_reducible first | exact HB.out | apply below_alloc | apply pw_below_drewN | apply below_drew1 | refine below_set ?_ (IsS72.ge HI0.out)) | exact HB.out)); rintro e w17 ⟨rfl, hi, hb, hk⟩; have n0_ := Aside0.mk (KeepBut.trans (by repeat (first | (with_reducible first | exact HK.out | apply KeepBut.set_ | apply keep_drewN | apply keep_drew | apply keep_alloc) | exact HK.out)) hk (.inl rfl)); have n1_ := Aside0.mk (hb); have n2_ := Aside0.mk (hi); clear HK; clear HB; clear HI0; have HK := n0_; have HB := n1_; have HI0 := n2_; clear n0_ n1_ n2_; (try clear hb); (try clear hb2); (try clear hk); (try clear hi)) | ((with_reducible refine gate_dst (N := 34) rfl ?_); (try (refine gate_guard (by rfl) ?_; dsimp only)); refine Kd.R_lit Kd.string _ 9 ?hg (N := 34) ?hd (xs := ([(⟨#[76]⟩ : ByteArray), (⟨#[82]⟩ : ByteArray)] : List ByteArray)) (inner := [.string (⟨#[76]⟩ : ByteArray), .string (⟨#[82]⟩ : ByteArray)]) (ok := fun _ => True) (okp := fun _ => True) ?hr ?hp (fun _ hk => hk) trivial (Below.refl _ _) (Nat.le_refl _) (by simp) ?_; (case hd => rfl); (case hg => rfl); (case hr => first | (go_simp; done) | (go_simp; rfl)); (case hp => exact (Reps.one (show Kd.M Kd.string _ _ _ (⟨#[76]⟩ : ByteArray) [.string (⟨#[76]⟩ : ByteArray)] from rfl) (Reps.one (show Kd.M Kd.string _ _ _ (⟨#[82]⟩ : ByteArray) [.string (⟨#[82]⟩ : ByteArray)] from rfl) (Reps.none _ _)))); intro v188 w18 ho19 hb hg_ hnew_; clear hg_ hnew_; (first | rw [← Ny187.out] at ho19 | (simp only [Int.reduceToNat] at ho19; rw [← Ny187.out] at ho19)); have n0_ := Aside0.mk (Kd.R_lower ho19 (keep_size (w := w) (g := g) (row := none) (by repeat (first | (with_reducible first | exact HK.out | apply KeepBut.set_ | apply keep_drewN | apply keep_drew | apply keep_alloc) | exact HK.out)))); have n1_ := Aside0.mk (IsS72.below (by repeat (first | (with_reducible first | exact HI0.out | apply IsS72.alloc | apply IsS72.drewN | apply IsS72.drew | apply IsS72.set_1) | exact HI0.out)) hb); have n2_ := Aside0.mk (KeepBut.trans (by repeat (first | (with_reducible first | exact HK.out | apply KeepBut.set_ | apply keep_drewN | apply keep_drew | apply keep_alloc) | exact HK.out)) (KeepBut.of_below hb g none) (.inl rfl)); have n3_ := Aside0.mk (below_step (by repeat (first | (with_reducible first | exact HB.out | apply below_alloc | apply pw_below_drewN | apply below_drew1 | refine below_set ?_ (IsS72.ge HI0.out)) | exact HB.out)) hb); clear HI0; clear HK; clear HB; have HO189 := n0_; have HI0 := n1_; have HK := n2_; have HB := n3_; clear n0_ n1_ n2_ n3_; clear hb ho19) | ((with_reducible refine gate_callee (f := 51) rfl ?_); refine goesL_ (some 36) rfl rfl Try.func51 (by kernel_rfl) rfl #[.pointer (some ⟨g, 0, none⟩), .int .i64 2] rfl (by (try simp only [List.map_toArray, List.map_cons, List.map_nil]); first | done | rfl | (simp only [List.length_drop, List.length_take]; rfl)) ?_; (with_reducible refine (spec_l20Rd_pick.calls kj2 g s0_0 t186 2 t190 t191 w0 _ ?side1 ?side2 A13.out).mono ?_); (case side1 => repeat (first | (with_reducible first | exact HI0.out | apply IsS72.alloc | apply IsS72.drewN | apply IsS72.drew | apply IsS72.set_1) | exact HI0.out)); (case side2 => repeat (first | (with_reducible first | exact HB.out | apply below_alloc | apply pw_below_drewN | apply below_drew1 | refine below_set ?_ (IsS72.ge HI0.out)) | exact HB.out)); rintro e w20 ⟨rfl, hi, hb, hk⟩; refine ⟨_, rfl, ?_⟩; have n0_ := Aside0.mk (Kd.R_mono (Kd.R_keep (IsS72.apart (show IsS72 w0 _ g s0_0 t186 from by repeat (first | (with_reducible first | exact HI0.out | apply IsS72.alloc | apply IsS72.drewN | apply IsS72.drew | apply IsS72.set_1) | exact HI0.out)) (by (with_reducible repeat (first | apply Kd.R_alloc | apply Kd.R_drewN | apply Kd.R_drew)); exact HO189.out) (by decide)) hk (fun _ h => h.2)) (fun _ h => h.1)); have n1_ := Aside0.mk (KeepBut.trans (by repeat (first | (with_reducible first | exact HK.out | apply KeepBut.set_ | apply keep_drewN | apply keep_drew | apply keep_alloc) | exact HK.out)) hk (.inl rfl)); have n2_ := Aside0.mk (hb); have n3_ := Aside0.mk (hi); clear HO189; clear HK; clear HB; clear HI0; have HO189 := n0_; have HK := n1_; have HB := n2_; have HI0 := n3_; clear n0_ n1_ n2_ n3_; (try clear hb); (try clear hb2); (try clear hk); (try clear hi); obtain ⟨Ao21, co21, eo21⟩ := Kd.R_slice HO189.out; subst eo21; have p192 : 0 ≤ (t190 : Int) := of_decide_eq_true (by first | (with_reducible assumption) | assumption); have q192 : t190 < (y187.length : Int) := of_decide_eq_true (by first | (with_reducible assumption) | assumption); obtain ⟨ad192, e192, hx192_0⟩ := Kd.at_string (Kd.R_reads' HO189.out).2.2 t190 p192 q192; cases e192; replace p192 := eq_true p192; replace q192 := eq_true q192))
            go_roundg kj2
            case measure => have := HK1.out; have := HJ2.out; omega
            case rel => exact ⟨(x5_1 ++ (rdOf ByteArray.empty y187 t190)), (wrap64 (x6_1 - 1)), (x7_1), (t191), (by first | rfl | (simp; done) | (simp [*]; done)), (by first | rfl | (simp; done) | (simp [*]; done)), (by first | rfl | (simp; done) | (simp [*]; done)), H', ⟨by have := HK1.out; have := HJ2.out; omega⟩, ⟨by repeat (first | (with_reducible first | exact HI0.out | apply IsS72.alloc | apply IsS72.drewN | apply IsS72.drew | apply IsS72.set_1) | exact HI0.out)⟩, ⟨by repeat (first | (with_reducible first | exact HK.out | apply KeepBut.set_ | apply keep_drewN | apply keep_drew | apply keep_alloc) | exact HK.out)⟩, ⟨by repeat (first | (with_reducible first | exact HB.out | apply below_alloc | apply pw_below_drewN | apply below_drew1 | refine below_set ?_ (IsS72.ge HI0.out)) | exact HB.out)⟩⟩
           ·rw [if_neg c16] at H
            exact absurd H (by simp)
          ·rw [if_neg c15] at H
           exact absurd H (by simp)
         ·rw [if_neg c14] at H
          exact absurd H (by simp)
      ·rw [if_neg c6] at H
       have c6b0 : decide (0 < x7_1) = false := decide_eq_false c6
       clear c6
       obtain ⟨y193, hy193⟩ : ∃ y_ : List ByteArray, y_ = (([(⟨#[76]⟩ : ByteArray), (⟨#[82]⟩ : ByteArray)] : List ByteArray)) := ⟨_, rfl⟩
       replace H : ((spec_l20Rd_pick.f kj2 s0_0 x1001_1 2).bind fun bt196 => (if 0 ≤ bt196.1 then (if bt196.1 < (y193.length : Int) then (if x5_1.size + (rdOf ByteArray.empty y193 bt196.1).size ≤ 9223372036854775807 then (spec_l20Moves.l0 kj2 (x5_1 ++ (rdOf ByteArray.empty y193 bt196.1)) (wrap64 (x6_1 - 1)) x7_1 s0_0 bt196.2) else (none)) else (none)) else (none))) = some (r1, r2) := by first | (rw [hy193]; with_reducible exact H) | (have H2_ := (Option.bind_some _ _).symm.trans H; rw [hy193]; with_reducible exact H2_) | (have H2_ := (Option.bind_some _ _).symm.trans H; with_reducible exact H2_) | with_reducible exact H | (rw [hy193]; exact H) | exact H
       have Ny193 := Aside0.mk hy193
       clear hy193
       replace H := Option.bind_eq_some_iff.mp H
       obtain ⟨⟨t196, t197⟩, A220, H⟩ := H
       replace H : (if 0 ≤ t196 then (if t196 < (y193.length : Int) then (if x5_1.size + (rdOf ByteArray.empty y193 t196).size ≤ 9223372036854775807 then (spec_l20Moves.l0 kj2 (x5_1 ++ (rdOf ByteArray.empty y193 t196)) (wrap64 (x6_1 - 1)) x7_1 s0_0 t197) else (none)) else (none)) else (none)) = some (r1, r2) := H
       have A22 := Aside0.mk A220
       clear A220
       by_cases c23 : 0 ≤ t196
       ·rw [if_pos c23] at H
        have c23b0 : decide (0 ≤ t196) = true := decide_eq_true c23
        clear c23
        by_cases c24 : t196 < (y193.length : Int)
        ·rw [if_pos c24] at H
         have c24b0 : decide (t196 < (y193.length : Int)) = true := decide_eq_true c24
         clear c24
         by_cases c25 : x5_1.size + (rdOf ByteArray.empty y193 t196).size ≤ 9223372036854775807
         ·rw [if_pos c25] at H
          have c25b0 := eq_true c25
          have c25b1 : decide (x5_1.size + (rdOf ByteArray.empty y193 t196).size ≤ 9223372036854775807) = true := decide_eq_true c25
          try have c25b2 : (9223372036854775807 < x5_1.size + (rdOf ByteArray.empty y193 t196).size) = False := eq_false (Nat.not_lt.2 c25)
          have H' := Aside0.mk H
          clear H
          go_wp2_with (first | ((with_reducible refine gate_dst (N := 34) rfl ?_); (try (refine gate_guard (by rfl) ?_; dsimp only)); refine Kd.R_lit Kd.string _ 9 ?hg (N := 34) ?hd (xs := ([(⟨#[76]⟩ : ByteArray), (⟨#[82]⟩ : ByteArray)] : List ByteArray)) (inner := [.string (⟨#[76]⟩ : ByteArray), .string (⟨#[82]⟩ : ByteArray)]) (ok := fun _ => True) (okp := fun _ => True) ?hr ?hp (fun _ hk => hk) trivial (Below.refl _ _) (Nat.le_refl _) (by simp) ?_; (case hd => rfl); (case hg => rfl); (case hr => first | (go_simp; done) | (go_simp; rfl)); (case hp => exact (Reps.one (show Kd.M Kd.string _ _ _ (⟨#[76]⟩ : ByteArray) [.string (⟨#[76]⟩ : ByteArray)] from rfl) (Reps.one (show Kd.M Kd.string _ _ _ (⟨#[82]⟩ : ByteArray) [.string (⟨#[82]⟩ : ByteArray)] from rfl) (Reps.none _ _)))); intro v194 w26 ho27 hb hg_ hnew_; clear hg_ hnew_; (first | rw [← Ny193.out] at ho27 | (simp only [Int.reduceToNat] at ho27; rw [← Ny193.out] at ho27)); have n0_ := Aside0.mk (Kd.R_lower ho27 (keep_size (w := w) (g := g) (row := none) (by repeat (first | (with_reducible first | exact HK.out | apply KeepBut.set_ | apply keep_drewN | apply keep_drew | apply keep_alloc) | exact HK.out)))); have n1_ := Aside0.mk (IsS72.below (by repeat (first | (with_reducible first | exact HI0.out | apply IsS72.alloc | apply IsS72.drewN | apply IsS72.drew | apply IsS72.set_1) | exact HI0.out)) hb); have n2_ := Aside0.mk (KeepBut.trans (by repeat (first | (with_reducible first | exact HK.out | apply KeepBut.set_ | apply keep_drewN | apply keep_drew | apply keep_alloc) | exact HK.out)) (KeepBut.of_below hb g none) (.inl rfl)); have n3_ := Aside0.mk (below_step (by repeat (first | (with_reducible first | exact HB.out | apply below_alloc | apply pw_below_drewN | apply below_drew1 | refine below_set ?_ (IsS72.ge HI0.out)) | exact HB.out)) hb); clear HI0; clear HK; clear HB; have HO195 := n0_; have HI0 := n1_; have HK := n2_; have HB := n3_; clear n0_ n1_ n2_ n3_; clear hb ho27) | ((with_reducible refine gate_callee (f := 51) rfl ?_); refine goesL_ (some 36) rfl rfl Try.func51 (by kernel_rfl) rfl #[.pointer (some ⟨g, 0, none⟩), .int .i64 2] rfl (by (try simp only [List.map_toArray, List.map_cons, List.map_nil]); first | done | rfl | (simp only [List.length_drop, List.length_take]; rfl)) ?_; (with_reducible refine (spec_l20Rd_pick.calls kj2 g s0_0 x1001_1 2 t196 t197 w0 _ ?side1 ?side2 A22.out).mono ?_); (case side1 => repeat (first | (with_reducible first | exact HI0.out | apply IsS72.alloc | apply IsS72.drewN | apply IsS72.drew | apply IsS72.set_1) | exact HI0.out)); (case side2 => repeat (first | (with_reducible first | exact HB.out | apply below_alloc | apply pw_below_drewN | apply below_drew1 | refine below_set ?_ (IsS72.ge HI0.out)) | exact HB.out)); rintro e w28 ⟨rfl, hi, hb, hk⟩; refine ⟨_, rfl, ?_⟩; have n0_ := Aside0.mk (Kd.R_mono (Kd.R_keep (IsS72.apart (show IsS72 w0 _ g s0_0 x1001_1 from by repeat (first | (with_reducible first | exact HI0.out | apply IsS72.alloc | apply IsS72.drewN | apply IsS72.drew | apply IsS72.set_1) | exact HI0.out)) (by (with_reducible repeat (first | apply Kd.R_alloc | apply Kd.R_drewN | apply Kd.R_drew)); exact HO195.out) (by decide)) hk (fun _ h => h.2)) (fun _ h => h.1)); have n1_ := Aside0.mk (KeepBut.trans (by repeat (first | (with_reducible first | exact HK.out | apply KeepBut.set_ | apply keep_drewN | apply keep_drew | apply keep_alloc) | exact HK.out)) hk (.inl rfl)); have n2_ := Aside0.mk (hb); have n3_ := Aside0.mk (hi); clear HO195; clear HK; clear HB; clear HI0; have HO195 := n0_; have HK := n1_; have HB := n2_; have HI0 := n3_; clear n0_ n1_ n2_ n3_; (try clear hb); (try clear hb2); (try clear hk); (try clear hi); obtain ⟨Ao29, co29, eo29⟩ := Kd.R_slice HO195.out; subst eo29; have p198 : 0 ≤ (t196 : Int) := of_decide_eq_true (by first | (with_reducible assumption) | assumption); have q198 : t196 < (y193.length : Int) := of_decide_eq_true (by first | (with_reducible assumption) | assumption); obtain ⟨ad198, e198, hx198_0⟩ := Kd.at_string (Kd.R_reads' HO195.out).2.2 t196 p198 q198; cases e198; replace p198 := eq_true p198; replace q198 := eq_true q198))
          go_roundg kj2
          case measure => have := HK1.out; have := HJ2.out; omega
          case rel => exact ⟨(x5_1 ++ (rdOf ByteArray.empty y193 t196)), (wrap64 (x6_1 - 1)), (x7_1), (t197), (by first | rfl | (simp; done) | (simp [*]; done)), (by first | rfl | (simp; done) | (simp [*]; done)), (by first | rfl | (simp; done) | (simp [*]; done)), H', ⟨by have := HK1.out; have := HJ2.out; omega⟩, ⟨by repeat (first | (with_reducible first | exact HI0.out | apply IsS72.alloc | apply IsS72.drewN | apply IsS72.drew | apply IsS72.set_1) | exact HI0.out)⟩, ⟨by repeat (first | (with_reducible first | exact HK.out | apply KeepBut.set_ | apply keep_drewN | apply keep_drew | apply keep_alloc) | exact HK.out)⟩, ⟨by repeat (first | (with_reducible first | exact HB.out | apply below_alloc | apply pw_below_drewN | apply below_drew1 | refine below_set ?_ (IsS72.ge HI0.out)) | exact HB.out)⟩⟩
         ·rw [if_neg c25] at H
          exact absurd H (by simp)
        ·rw [if_neg c24] at H
         exact absurd H (by simp)
       ·rw [if_neg c23] at H
        exact absurd H (by simp)
     ·replace c5 := Bool.eq_false_iff.mpr c5
      subst c5
      have H1 : ((spec_l20Rd_odd.f kj2 s0_0 x1001_1 8).bind fun bt199 => (if bt199.1 = true then (spec_l20Moves.j2 kj2 x5_1 (decide ((x5_1.size : Int) > 0)) s0_0 bt199.2) else (spec_l20Moves.j2 kj2 x5_1 false s0_0 bt199.2))) = some (r1, r2) := by rw [if_neg (show ¬ (false = true) by decide)] at H; exact H
      clear H
      have H := H1
      clear H1
      have HC30 := Aside0.mk H
      clear H
      go_upto_region 11 with (fail)
      go_cut [48] (fun v48 wc => ∃ (kq : Nat) (x48_29 : Bool) (x1001_29 : Int), v48 = .bool x48_29 ∧ Aside0 (spec_l20Moves.j2 kq x5_1 x48_29 s0_0 x1001_29 = some (r1, r2)) ∧ Aside0 (kq ≤ kj2) ∧ Aside0 (IsS72 w0 wc g s0_0 x1001_29) ∧ Aside0 (KeepBut w wc g none) ∧ Aside0 (Below w0.heap.size w0 wc))
      case first =>
       have H := HC30.out
       clear HC30
       replace H := Option.bind_eq_some_iff.mp H
       obtain ⟨⟨t199, t200⟩, A310, H⟩ := H
       replace H : (if t199 = true then (spec_l20Moves.j2 kj2 x5_1 (decide ((x5_1.size : Int) > 0)) s0_0 t200) else (spec_l20Moves.j2 kj2 x5_1 false s0_0 t200)) = some (r1, r2) := H
       have A31 := Aside0.mk A310
       clear A310
       by_cases c32 : t199 = true
       ·subst c32
        have H1 : (spec_l20Moves.j2 kj2 x5_1 (decide ((x5_1.size : Int) > 0)) s0_0 t200) = some (r1, r2) := by rw [if_pos rfl] at H; exact H
        clear H
        have H := H1
        clear H1
        have H' := Aside0.mk H
        clear H
        go_wp2_with (first | ((with_reducible refine gate_callee (f := 75) rfl ?_); refine goesL_ (some 43) rfl rfl Try.func75 (by kernel_rfl) rfl #[.pointer (some ⟨g, 0, none⟩), .int .i64 8] rfl (by (try simp only [List.map_toArray, List.map_cons, List.map_nil]); first | done | rfl | (simp only [List.length_drop, List.length_take]; rfl)) ?_; (with_reducible refine (spec_l20Rd_odd.calls kj2 g s0_0 x1001_1 8 true t200 w0 _ ?side1 ?side2 A31.out).mono ?_); (case side1 => repeat (first | (with_reducible first | exact HI0.out | apply IsS72.alloc | apply IsS72.drewN | apply IsS72.drew | apply IsS72.set_1) | exact HI0.out)); (case side2 => repeat (first | (with_reducible first | exact HB.out | apply below_alloc | apply pw_below_drewN | apply below_drew1 | refine below_set ?_ (IsS72.ge HI0.out)) | exact HB.out)); rintro e w33 ⟨rfl, hi, hb, hk⟩; refine ⟨_, rfl, ?_⟩; have n0_ := Aside0.mk (KeepBut.trans (by repeat (first | (with_reducible first | exact HK.out | apply KeepBut.set_ | apply keep_drewN | apply keep_drew | apply keep_alloc) | exact HK.out)) hk (.inl rfl)); have n1_ := Aside0.mk (hb); have n2_ := Aside0.mk (hi); clear HK; clear HB; clear HI0; have HK := n0_; have HB := n1_; have HI0 := n2_; clear n0_ n1_ n2_; (try clear hb); (try clear hb2); (try clear hk); (try clear hi)))
        go_meet
        case rel => exact ⟨_, (decide ((x5_1.size : Int) > 0)), (t200), (by first | rfl | (simp; done) | (simp [*]; done)), H', ⟨by have := HK1.out; have := HJ2.out; first | omega | exact Nat.le_refl _⟩, ⟨by repeat (first | (with_reducible first | exact HI0.out | apply IsS72.alloc | apply IsS72.drewN | apply IsS72.drew | apply IsS72.set_1) | exact HI0.out)⟩, ⟨by repeat (first | (with_reducible first | exact HK.out | apply KeepBut.set_ | apply keep_drewN | apply keep_drew | apply keep_alloc) | exact HK.out)⟩, ⟨by repeat (first | (with_reducible first | exact HB.out | apply below_alloc | apply pw_below_drewN | apply below_drew1 | refine below_set ?_ (IsS72.ge HI0.out)) | exact HB.out)⟩⟩
       ·replace c32 := Bool.eq_false_iff.mpr c32
        subst c32
        have H1 : (spec_l20Moves.j2 kj2 x5_1 false s0_0 t200) = some (r1, r2) := by rw [if_neg (show ¬ (false = true) by decide)] at H; exact H
        clear H
        have H := H1
        clear H1
        have H' := Aside0.mk H
        clear H
        go_wp2_with (first | ((with_reducible refine gate_callee (f := 75) rfl ?_); refine goesL_ (some 43) rfl rfl Try.func75 (by kernel_rfl) rfl #[.pointer (some ⟨g, 0, none⟩), .int .i64 8] rfl (by (try simp only [List.map_toArray, List.map_cons, List.map_nil]); first | done | rfl | (simp only [List.length_drop, List.length_take]; rfl)) ?_; (with_reducible refine (spec_l20Rd_odd.calls kj2 g s0_0 x1001_1 8 false t200 w0 _ ?side1 ?side2 A31.out).mono ?_); (case side1 => repeat (first | (with_reducible first | exact HI0.out | apply IsS72.alloc | apply IsS72.drewN | apply IsS72.drew | apply IsS72.set_1) | exact HI0.out)); (case side2 => repeat (first | (with_reducible first | exact HB.out | apply below_alloc | apply pw_below_drewN | apply below_drew1 | refine below_set ?_ (IsS72.ge HI0.out)) | exact HB.out)); rintro e w34 ⟨rfl, hi, hb, hk⟩; refine ⟨_, rfl, ?_⟩; have n0_ := Aside0.mk (KeepBut.trans (by repeat (first | (with_reducible first | exact HK.out | apply KeepBut.set_ | apply keep_drewN | apply keep_drew | apply keep_alloc) | exact HK.out)) hk (.inl rfl)); have n1_ := Aside0.mk (hb); have n2_ := Aside0.mk (hi); clear HK; clear HB; clear HI0; have HK := n0_; have HB := n1_; have HI0 := n2_; clear n0_ n1_ n2_; (try clear hb); (try clear hb2); (try clear hk); (try clear hi)))
        go_meet
        case rel => exact ⟨_, (false), (t200), (by first | rfl | (simp; done) | (simp [*]; done)), H', ⟨by have := HK1.out; have := HJ2.out; first | omega | exact Nat.le_refl _⟩, ⟨by repeat (first | (with_reducible first | exact HI0.out | apply IsS72.alloc | apply IsS72.drewN | apply IsS72.drew | apply IsS72.set_1) | exact HI0.out)⟩, ⟨by repeat (first | (with_reducible first | exact HK.out | apply KeepBut.set_ | apply keep_drewN | apply keep_drew | apply keep_alloc) | exact HK.out)⟩, ⟨by repeat (first | (with_reducible first | exact HB.out | apply below_alloc | apply pw_below_drewN | apply below_drew1 | refine below_set ?_ (IsS72.ge HI0.out)) | exact HB.out)⟩⟩
      case rest =>
       clear HC30
       try clear c1
       try clear p1
       try clear q1
       try clear hx1
       try clear c2
       try clear p2
       try clear c3
       try clear c4
       try clear c4b0
       try clear c5
       try clear c6
       try clear c6b0
       try clear p6
       try clear c7
       try clear c7b0
       try clear c8
       try clear c8b0
       try clear c8b1
       try clear c8b2
       try clear c10
       try clear c10b0
       try clear c10b1
       try clear c11
       try clear c11b0
       try clear c11b1
       try clear c11b2
       try clear c14
       try clear c14b0
       try clear c15
       try clear c15b0
       try clear c16
       try clear c16b0
       try clear c16b1
       try clear c16b2
       try clear p19
       try clear q19
       try clear hx19
       try clear c23
       try clear c23b0
       try clear c24
       try clear c24b0
       try clear c25
       try clear c25b0
       try clear c25b1
       try clear c25b2
       try clear c32
       try clear hx192_0
       try clear hx198_0
       try clear p192
       try clear p198
       try clear p2
       try clear q192
       try clear q198
       obtain ⟨kq, x48_29, x1001_29, rfl, HA, HJ29, HI0, HK, HB⟩ := hcut
       cases kq with
       | zero => exact absurd HA.out (by simp [spec_l20Moves.j2])
       | succ kj29 =>
        have H := HA.out
        clear HA
        simp only [spec_l20Moves.j2] at H
        by_cases c35 : x48_29 = true
        ·subst c35
         have H1 : ((spec_l20Rd_pick.f kj29 s0_0 x1001_29 (x5_1.size : Int)).bind fun bt201 => (if 0 ≤ bt201.1 then (if bt201.1 ≤ (x5_1.size : Int) then ((some (([(⟨#[]⟩ : ByteArray), (⟨#[83]⟩ : ByteArray), (⟨#[76]⟩ : ByteArray), (⟨#[120]⟩ : ByteArray)] : List ByteArray) : List ByteArray)).bind fun y203 => ((spec_l20Rd_pick.f kj29 s0_0 bt201.2 4).bind fun bt206 => (if 0 ≤ bt206.1 then (if bt206.1 < (y203.length : Int) then (if (x5_1.extract 0 (bt201.1 : Int).toNat).size + (rdOf ByteArray.empty y203 bt206.1).size ≤ 9223372036854775807 then (if 0 ≤ (wrap64 (bt201.1 + 1)) then (if (wrap64 (bt201.1 + 1)) ≤ (x5_1.size : Int) then (if ((x5_1.extract 0 (bt201.1 : Int).toNat) ++ (rdOf ByteArray.empty y203 bt206.1)).size + (x5_1.extract ((wrap64 (bt201.1 + 1)) : Int).toNat x5_1.size).size ≤ 9223372036854775807 then (some (((x5_1.extract 0 (bt201.1 : Int).toNat) ++ (rdOf ByteArray.empty y203 bt206.1)) ++ (x5_1.extract ((wrap64 (bt201.1 + 1)) : Int).toNat x5_1.size), bt206.2)) else (none)) else (none)) else (none)) else (none)) else (none)) else (none)))) else (none)) else (none))) = some (r1, r2) := by rw [if_pos rfl] at H; exact H
         clear H
         have H := H1
         clear H1
         replace H := Option.bind_eq_some_iff.mp H
         obtain ⟨⟨t201, t202⟩, A360, H⟩ := H
         replace H : (if 0 ≤ t201 then (if t201 ≤ (x5_1.size : Int) then ((some (([(⟨#[]⟩ : ByteArray), (⟨#[83]⟩ : ByteArray), (⟨#[76]⟩ : ByteArray), (⟨#[120]⟩ : ByteArray)] : List ByteArray) : List ByteArray)).bind fun y203 => ((spec_l20Rd_pick.f kj29 s0_0 t202 4).bind fun bt206 => (if 0 ≤ bt206.1 then (if bt206.1 < (y203.length : Int) then (if (x5_1.extract 0 (t201 : Int).toNat).size + (rdOf ByteArray.empty y203 bt206.1).size ≤ 9223372036854775807 then (if 0 ≤ (wrap64 (t201 + 1)) then (if (wrap64 (t201 + 1)) ≤ (x5_1.size : Int) then (if ((x5_1.extract 0 (t201 : Int).toNat) ++ (rdOf ByteArray.empty y203 bt206.1)).size + (x5_1.extract ((wrap64 (t201 + 1)) : Int).toNat x5_1.size).size ≤ 9223372036854775807 then (some (((x5_1.extract 0 (t201 : Int).toNat) ++ (rdOf ByteArray.empty y203 bt206.1)) ++ (x5_1.extract ((wrap64 (t201 + 1)) : Int).toNat x5_1.size), bt206.2)) else (none)) else (none)) else (none)) else (none)) else (none)) else (none)))) else (none)) else (none)) = some (r1, r2) := H
         have A36 := Aside0.mk A360
         clear A360
         by_cases c37 : 0 ≤ t201
         ·rw [if_pos c37] at H
          have c37b0 := eq_true c37
          have c37b1 : decide (0 ≤ t201) = true := decide_eq_true c37
          clear c37
          by_cases c38 : t201 ≤ (x5_1.size : Int)
          ·rw [if_pos c38] at H
           have c38b0 := eq_true c38
           have c38b1 : decide (t201 ≤ (x5_1.size : Int)) = true := decide_eq_true c38
           clear c38
           obtain ⟨y203, hy203⟩ : ∃ y_ : List ByteArray, y_ = (([(⟨#[]⟩ : ByteArray), (⟨#[83]⟩ : ByteArray), (⟨#[76]⟩ : ByteArray), (⟨#[120]⟩ : ByteArray)] : List ByteArray)) := ⟨_, rfl⟩
           replace H : ((spec_l20Rd_pick.f kj29 s0_0 t202 4).bind fun bt206 => (if 0 ≤ bt206.1 then (if bt206.1 < (y203.length : Int) then (if (x5_1.extract 0 (t201 : Int).toNat).size + (rdOf ByteArray.empty y203 bt206.1).size ≤ 9223372036854775807 then (if 0 ≤ (wrap64 (t201 + 1)) then (if (wrap64 (t201 + 1)) ≤ (x5_1.size : Int) then (if ((x5_1.extract 0 (t201 : Int).toNat) ++ (rdOf ByteArray.empty y203 bt206.1)).size + (x5_1.extract ((wrap64 (t201 + 1)) : Int).toNat x5_1.size).size ≤ 9223372036854775807 then (some (((x5_1.extract 0 (t201 : Int).toNat) ++ (rdOf ByteArray.empty y203 bt206.1)) ++ (x5_1.extract ((wrap64 (t201 + 1)) : Int).toNat x5_1.size), bt206.2)) else (none)) else (none)) else (none)) else (none)) else (none)) else (none))) = some (r1, r2) := by first | (rw [hy203]; with_reducible exact H) | (have H2_ := (Option.bind_some _ _).symm.trans H; rw [hy203]; with_reducible exact H2_) | (have H2_ := (Option.bind_some _ _).symm.trans H; with_reducible exact H2_) | with_reducible exact H | (rw [hy203]; exact H) | exact H
           have Ny203 := Aside0.mk hy203
           clear hy203
           replace H := Option.bind_eq_some_iff.mp H
           obtain ⟨⟨t206, t207⟩, A390, H⟩ := H
           replace H : (if 0 ≤ t206 then (if t206 < (y203.length : Int) then (if (x5_1.extract 0 (t201 : Int).toNat).size + (rdOf ByteArray.empty y203 t206).size ≤ 9223372036854775807 then (if 0 ≤ (wrap64 (t201 + 1)) then (if (wrap64 (t201 + 1)) ≤ (x5_1.size : Int) then (if ((x5_1.extract 0 (t201 : Int).toNat) ++ (rdOf ByteArray.empty y203 t206)).size + (x5_1.extract ((wrap64 (t201 + 1)) : Int).toNat x5_1.size).size ≤ 9223372036854775807 then (some (((x5_1.extract 0 (t201 : Int).toNat) ++ (rdOf ByteArray.empty y203 t206)) ++ (x5_1.extract ((wrap64 (t201 + 1)) : Int).toNat x5_1.size), t207)) else (none)) else (none)) else (none)) else (none)) else (none)) else (none)) = some (r1, r2) := H
           have A39 := Aside0.mk A390
           clear A390
           by_cases c40 : 0 ≤ t206
           ·rw [if_pos c40] at H
            have c40b0 : decide (0 ≤ t206) = true := decide_eq_true c40
            clear c40
            by_cases c41 : t206 < (y203.length : Int)
            ·rw [if_pos c41] at H
             have c41b0 : decide (t206 < (y203.length : Int)) = true := decide_eq_true c41
             clear c41
             by_cases c42 : (x5_1.extract 0 (t201 : Int).toNat).size + (rdOf ByteArray.empty y203 t206).size ≤ 9223372036854775807
             ·rw [if_pos c42] at H
              have c42b0 := eq_true c42
              have c42b1 : decide ((x5_1.extract 0 (t201 : Int).toNat).size + (rdOf ByteArray.empty y203 t206).size ≤ 9223372036854775807) = true := decide_eq_true c42
              try have c42b2 : (9223372036854775807 < (x5_1.extract 0 (t201 : Int).toNat).size + (rdOf ByteArray.empty y203 t206).size) = False := eq_false (Nat.not_lt.2 c42)
              obtain ⟨ji43, hji43⟩ : ∃ j_ : Int, (wrap64 (t201 + 1)) = j_ := ⟨_, rfl⟩
              replace H : (if 0 ≤ (ji43) then (if (ji43) ≤ (x5_1.size : Int) then (if ((x5_1.extract 0 (t201 : Int).toNat) ++ (rdOf ByteArray.empty y203 t206)).size + (x5_1.extract ((ji43) : Int).toNat x5_1.size).size ≤ 9223372036854775807 then (some (((x5_1.extract 0 (t201 : Int).toNat) ++ (rdOf ByteArray.empty y203 t206)) ++ (x5_1.extract ((ji43) : Int).toNat x5_1.size), t207)) else (none)) else (none)) else (none)) = some (r1, r2) := by first | (rw [hji43] at H; exact H) | (simp only [hji43] at H ⊢; exact H)
              (try rw [hji43] at A36)
              (try rw [hji43] at A39)
              have hji43w : (IntKind.i64.wrap (t201 + 1)) = ji43 := (i64_w _).trans hji43
              by_cases c44 : 0 ≤ (ji43)
              ·rw [if_pos c44] at H
               have c44b0 := eq_true c44
               have c44b1 : decide (0 ≤ (ji43)) = true := decide_eq_true c44
               clear c44
               by_cases c45 : (ji43) ≤ (x5_1.size : Int)
               ·rw [if_pos c45] at H
                have c45b0 := eq_true c45
                have c45b1 : decide ((ji43) ≤ (x5_1.size : Int)) = true := decide_eq_true c45
                clear c45
                by_cases c46 : ((x5_1.extract 0 (t201 : Int).toNat) ++ (rdOf ByteArray.empty y203 t206)).size + (x5_1.extract ((ji43) : Int).toNat x5_1.size).size ≤ 9223372036854775807
                ·rw [if_pos c46] at H
                 have c46b0 := eq_true c46
                 have c46b1 : decide (((x5_1.extract 0 (t201 : Int).toNat) ++ (rdOf ByteArray.empty y203 t206)).size + (x5_1.extract ((ji43) : Int).toNat x5_1.size).size ≤ 9223372036854775807) = true := decide_eq_true c46
                 try have c46b2 : (9223372036854775807 < ((x5_1.extract 0 (t201 : Int).toNat) ++ (rdOf ByteArray.empty y203 t206)).size + (x5_1.extract ((ji43) : Int).toNat x5_1.size).size) = False := eq_false (Nat.not_lt.2 c46)
                 simp only [Option.some.injEq, Prod.mk.injEq] at H
                 obtain ⟨rfl, rfl⟩ := H
                 try go_wp2_with (first | ((with_reducible refine gate_callee (f := 51) rfl ?_); refine goesL_ (some 52) rfl rfl Try.func51 (by kernel_rfl) rfl #[.pointer (some ⟨g, 0, none⟩), .int .i64 (x5_1.size : Int)] rfl (by (try simp only [List.map_toArray, List.map_cons, List.map_nil]); first | done | rfl | (simp only [List.length_drop, List.length_take]; rfl)) ?_; (with_reducible refine (spec_l20Rd_pick.calls kj29 g s0_0 x1001_29 (x5_1.size : Int) t201 t202 w0 _ ?side1 ?side2 A36.out).mono ?_); (case side1 => repeat (first | (with_reducible first | exact HI0.out | apply IsS72.alloc | apply IsS72.drewN | apply IsS72.drew | apply IsS72.set_1) | exact HI0.out)); (case side2 => repeat (first | (with_reducible first | exact HB.out | apply below_alloc | apply pw_below_drewN | apply below_drew1 | refine below_set ?_ (IsS72.ge HI0.out)) | exact HB.out)); rintro e w47 ⟨rfl, hi, hb, hk⟩; refine ⟨_, rfl, ?_⟩; have n0_ := Aside0.mk (KeepBut.trans (by repeat (first | (with_reducible first | exact HK.out | apply KeepBut.set_ | apply keep_drewN | apply keep_drew | apply keep_alloc) | exact HK.out)) hk (.inl rfl)); have n1_ := Aside0.mk (hb); have n2_ := Aside0.mk (hi); clear HK; clear HB; clear HI0; have HK := n0_; have HB := n1_; have HI0 := n2_; clear n0_ n1_ n2_; (try clear hb); (try clear hb2); (try clear hk); (try clear hi)))
                 have pi208 : (0 ≤ (t206 : Int)) = True := eq_true (of_decide_eq_true (by first | (with_reducible assumption) | assumption))
                 have qi208 : (t206 < (y203.length : Int)) = True := eq_true (of_decide_eq_true (by first | (with_reducible assumption) | assumption))
                 have n0_ := Aside0.mk (IsS72.drew HI0.out)
                 have n1_ := Aside0.mk (keep_drew HK.out)
                 have n2_ := Aside0.mk (below_drew1 HB.out)
                 clear HI0
                 clear HK
                 clear HB
                 have HI0 := n0_
                 have HK := n1_
                 have HB := n2_
                 clear n0_ n1_ n2_
                 refine start_ (n := 15) (S := fun w' => True) (ds := []) #[false, false, false, false, false, false, false, false, false, false, false, false, false, false, false] (by kernel_rfl) rfl rfl trivial (fun hHeld => ?_); refine with_tabW spec_l20Moves.tab13 spec_l20Moves.bits13 (fun HT_ HW_ => ?_)
                 generalize w47.drew = w48 at HI0 HK HB hHeld ⊢
                 refine pure_ (i := 0) (N := some 53) (v := ?_) (a' := ?_) #[true, false, false, false, false, false, false, false, false, false, false, false, false, false, false] rfl rfl (any_of HT_.out (by kernel_rfl)) (fun _ _ _ h => h) (Or.inl ⟨by rfl, ?_⟩) ?_ ?_
                 rotate_left
                 ·intro w'
                  go_simp
                  with_reducible rfl
                 rotate_left
                 ·simp only [Act.put, List.setIfInBounds_toArray, List.set_cons_zero, List.set_cons_succ, i64_w, i32_w]
                  rfl
                 refine pure_ (i := 1) (N := some 54) (v := ?_) (a' := ?_) #[true, true, false, false, false, false, false, false, false, false, false, false, false, false, false] rfl rfl (any_of HT_.out (by kernel_rfl)) (fun _ _ _ h => h) (Or.inl ⟨by rfl, ?_⟩) ?_ ?_
                 rotate_left
                 ·intro w'
                  go_simp
                  with_reducible rfl
                 rotate_left
                 ·simp only [Act.put, List.setIfInBounds_toArray, List.set_cons_zero, List.set_cons_succ, i64_w, i32_w]
                  rfl
                 refine pure_ (i := 4) (N := some 57) (v := ?_) (a' := ?_) #[true, true, false, false, true, false, false, false, false, false, false, false, false, false, false] rfl rfl (any_of HT_.out (by kernel_rfl)) (fun _ _ _ h => h) (Or.inl ⟨by rfl, ?_⟩) ?_ ?_
                 rotate_left
                 ·intro w'
                  go_simp
                  with_reducible rfl
                 rotate_left
                 ·simp only [Act.put, List.setIfInBounds_toArray, List.set_cons_zero, List.set_cons_succ, i64_w, i32_w]
                  rfl
                 refine pure_ (i := 9) (N := some 62) (v := ?_) (a' := ?_) #[true, true, false, false, true, false, false, false, false, true, false, false, false, false, false] rfl rfl (any_of HT_.out (by kernel_rfl)) (fun _ _ _ h => h) (Or.inl ⟨by rfl, ?_⟩) ?_ ?_
                 rotate_left
                 ·intro w'
                  go_simp
                  with_reducible rfl
                 rotate_left
                 ·simp only [Act.put, List.setIfInBounds_toArray, List.set_cons_zero, List.set_cons_succ, i64_w, i32_w]
                  rfl
                 refine pure_ (i := 10) (N := some 63) (v := ?_) (a' := ?_) #[true, true, false, false, true, false, false, false, false, true, true, false, false, false, false] rfl rfl (any_of HT_.out (by kernel_rfl)) (fun _ _ _ h => h) (Or.inl ⟨by rfl, ?_⟩) ?_ ?_
                 rotate_left
                 ·intro w'
                  go_simp
                  with_reducible rfl
                 rotate_left
                 ·simp only [Act.put, List.setIfInBounds_toArray, List.set_cons_zero, List.set_cons_succ, i64_w, i32_w]
                  rfl
                 refine inv_at [2, 3, 5, 6, 7, 8, 11, 12, 13, 14] (fun a0_ b a w' => ∃ (v204 : Value) (adz_v204 : Addr) (m6_ : Value), a = putSel a0_ b [(2, 55, .string (x5_1.extract 0 (t201 : Int).toNat)), (3, 56, v204), (5, 58, .int .i64 t206), (6, 59, m6_), (7, 60, .string (rdOf ByteArray.empty y203 t206)), (8, 61, .string ((x5_1.extract 0 (t201 : Int).toNat) ++ (rdOf ByteArray.empty y203 t206))), (11, 64, .int .i64 ji43), (12, 65, .string (x5_1.extract ((ji43) : Int).toNat x5_1.size)), (13, 66, .string (((x5_1.extract 0 (t201 : Int).toNat) ++ (rdOf ByteArray.empty y203 t206)) ++ (x5_1.extract ((ji43) : Int).toNat x5_1.size))), (14, 4, .string (((x5_1.extract 0 (t201 : Int).toNat) ++ (rdOf ByteArray.empty y203 t206)) ++ (x5_1.extract ((ji43) : Int).toNat x5_1.size)))] ∧ (b 5 = false → IsS72 w0 w' g s0_0 t202) ∧ (KeepBut w w' g none) ∧ (Below w0.heap.size w0 w') ∧ (b 3 = true → Kd.R Kd.string 9 w' w.heap.size (fun _ => True) v204 y203) ∧ (b 3 = true → ∃ c_, (v204 : Value) = .slice (some adz_v204) y203.length c_) ∧ (b 5 = true → IsS72 w0 w' g s0_0 t207) ∧ (b 6 = true → (m6_ : Value) = .pointer (some (adz_v204.add (t206).toNat)))) HT_.out HW_.out (by kernel_rfl) (by kernel_rfl) ?_ ?_ ?_
                 ·exact ⟨.bool false, ⟨0, 0, none⟩, .bool false, by simp only [putSel, Bool.false_eq_true, if_false], fun _ => HI0.out, HK.out, HB.out, fun h_ => absurd h_ (by decide), fun h_ => absurd h_ (by decide), fun h_ => absurd h_ (by decide), fun h_ => absurd h_ (by decide)⟩
                 ·skip
                  clear HB HI0 HK
                  refine steps_cons ?_ ?_
                  ·rintro b a w' ⟨v204, adz_v204, m6_, ha, Q_HI0, Q_HK, Q_HB, Q_HO205, Q_HA_HO205, Q_HI0_e5, Q_X6_⟩ hb_ hon hoff
                   refine ⟨_, rfl, fun K hK => ?_⟩
                   have e53 : a.tmps[53]? = some (.string x5_1) := by rw [ha]; exact (putSel_off rfl).trans rfl
                   have e54 : a.tmps[54]? = some (.int .i64 t201) := by rw [ha]; exact (putSel_off rfl).trans rfl
                   replace ha := Aside0.mk ha
                   have HK := Aside0.mk Q_HK
                   have HB := Aside0.mk Q_HB
                   refine value_ (w1 := w') (v := .string (x5_1.extract 0 (t201 : Int).toNat)) (by rfl) rfl ?_ ?_
                   ·go_simp
                    (try simp only [i64_w])
                    try rfl
                    try ((try have gc14b0_ := of_eq_true c14b0); (try have gc23b0_ := of_eq_true c23b0); (try have gc37b0_ := of_eq_true c37b0); (try have gc38b0_ := of_eq_true c38b0); (try have gc40b0_ := of_eq_true c40b0); (try have gc44b0_ := of_eq_true c44b0); (try have gc45b0_ := of_eq_true c45b0); have h_ := c42; simp only [ByteArray.size_extract, ByteArray.size_append] at h_ ⊢; omega)
                    try ((try have gc14b0_ := of_eq_true c14b0); (try have gc23b0_ := of_eq_true c23b0); (try have gc37b0_ := of_eq_true c37b0); (try have gc38b0_ := of_eq_true c38b0); (try have gc40b0_ := of_eq_true c40b0); (try have gc44b0_ := of_eq_true c44b0); (try have gc45b0_ := of_eq_true c45b0); have h_ := c46; simp only [ByteArray.size_extract, ByteArray.size_append] at h_ ⊢; omega)
                   refine hK.out _ _ ⟨v204, adz_v204, m6_, (by rw [ha.out]; exact putSel_upk 0 hb_ rfl rfl rfl), Q_HI0, Q_HK, Q_HB, Q_HO205, Q_HA_HO205, Q_HI0_e5, Q_X6_⟩
                  refine steps_cons ?_ ?_
                  ·rintro b a w' ⟨v204, adz_v204, m6_, ha, Q_HI0, Q_HK, Q_HB, Q_HO205, Q_HA_HO205, Q_HI0_e5, Q_X6_⟩ hb_ hon hoff
                   refine ⟨_, rfl, fun K hK => ?_⟩
                   replace ha := Aside0.mk ha
                   have HK := Aside0.mk Q_HK
                   have HB := Aside0.mk Q_HB
                   refine Kd.R_lit_step Kd.string _ 9 ?hg (N := 56) ?hd (xs := ([(⟨#[]⟩ : ByteArray), (⟨#[83]⟩ : ByteArray), (⟨#[76]⟩ : ByteArray), (⟨#[120]⟩ : ByteArray)] : List ByteArray)) (inner := [.string (⟨#[]⟩ : ByteArray), .string (⟨#[83]⟩ : ByteArray), .string (⟨#[76]⟩ : ByteArray), .string (⟨#[120]⟩ : ByteArray)]) (ok := fun _ => True) (okp := fun _ => True) ?hr ?hp (fun _ hk => hk) trivial (Below.refl _ _) (Nat.le_refl _) (by simp) ?_; (case hd => rfl); (case hg => rfl); (case hr => first | (go_simp; done) | (go_simp; rfl)); (case hp => exact (Reps.one (show Kd.M Kd.string _ _ _ (⟨#[]⟩ : ByteArray) [.string (⟨#[]⟩ : ByteArray)] from rfl) (Reps.one (show Kd.M Kd.string _ _ _ (⟨#[83]⟩ : ByteArray) [.string (⟨#[83]⟩ : ByteArray)] from rfl) (Reps.one (show Kd.M Kd.string _ _ _ (⟨#[76]⟩ : ByteArray) [.string (⟨#[76]⟩ : ByteArray)] from rfl) (Reps.one (show Kd.M Kd.string _ _ _ (⟨#[120]⟩ : ByteArray) [.string (⟨#[120]⟩ : ByteArray)] from rfl) (Reps.none _ _))))))
                   intro v204 w49 ho50 hb hg_ hnew_
                   clear hg_ hnew_
                   (first | rw [← Ny203.out] at ho50 | (simp only [Int.reduceToNat] at ho50; rw [← Ny203.out] at ho50))
                   have n0_ := Aside0.mk (Kd.R_lower ho50 (keep_size (w := w) (g := g) (row := none) (by repeat (first | (with_reducible first | exact HK.out | apply KeepBut.set_ | apply keep_drewN | apply keep_drew | apply keep_alloc) | exact HK.out))))
                   have n2_ := Aside0.mk (KeepBut.trans (by repeat (first | (with_reducible first | exact HK.out | apply KeepBut.set_ | apply keep_drewN | apply keep_drew | apply keep_alloc) | exact HK.out)) (KeepBut.of_below hb g none) (.inl rfl))
                   have n3_ := Aside0.mk (below_step (by repeat (first | (with_reducible first | exact HB.out | apply below_alloc | apply pw_below_drewN | apply below_drew1) | exact HB.out)) hb)
                   have z_HI0 := fun (h0_ : b 5 = false) => (show IsS72 w0 w49 g s0_0 t202 from by first | exact (IsS72.below (by repeat (first | (with_reducible first | exact (Q_HI0 h0_) | apply IsS72.alloc | apply IsS72.drewN | apply IsS72.drew | apply IsS72.set_1) | exact (Q_HI0 h0_))) hb))
                   have z_HI0_e5 := fun (h0_ : b 5 = true) => (show IsS72 w0 w49 g s0_0 t207 from by first | exact (IsS72.below (by repeat (first | (with_reducible first | exact (Q_HI0_e5 h0_) | apply IsS72.alloc | apply IsS72.drewN | apply IsS72.drew | apply IsS72.set_1) | exact (Q_HI0_e5 h0_))) hb))
                   clear HK
                   clear HB
                   have HO205 := n0_
                   have HK := n2_
                   have HB := n3_
                   clear n0_ n2_ n3_
                   clear hb ho50
                   obtain ⟨Ao51, co51, eo51⟩ := Kd.R_slice HO205.out
                   subst eo51
                   obtain ⟨ado51, fo51, _⟩ := Kd.at_string (Kd.R_reads' HO205.out).2.2 0 (by decide) (by rw [Ny203.out]; simp)
                   cases fo51
                   refine hK.out _ _ ⟨.slice (some ado51) y203.length co51, ado51, m6_, (by rw [ha.out]; exact putSel_upk 1 hb_ rfl rfl rfl), z_HI0, (by repeat (first | (with_reducible first | exact HK.out | apply KeepBut.set_ | apply keep_drewN | apply keep_drew | apply keep_alloc) | exact HK.out)), (by repeat (first | (with_reducible first | exact HB.out | apply below_alloc | apply pw_below_drewN | apply below_drew1) | exact HB.out)), fun _ => (by (with_reducible repeat (first | apply Kd.R_alloc | apply Kd.R_drewN | apply Kd.R_drew)); exact HO205.out), fun _ => ⟨_, rfl⟩, z_HI0_e5, fun h0_ => absurd ((hoff 6 (by kernel_rfl)).symm.trans h0_) (by decide)⟩
                  refine steps_cons ?_ ?_
                  ·rintro b a w' ⟨v204, adz_v204, m6_, ha, Q_HI0, Q_HK, Q_HB, Q_HO205, Q_HA_HO205, Q_HI0_e5, Q_X6_⟩ hb_ hon hoff
                   refine ⟨_, rfl, fun K hK => ?_⟩
                   have e57 : a.tmps[57]? = some (.pointer (some ⟨g, 0, none⟩)) := by rw [ha]; exact (putSel_off rfl).trans rfl
                   replace ha := Aside0.mk ha
                   have HI0 := Aside0.mk (Q_HI0 hb_)
                   have HK := Aside0.mk Q_HK
                   have HB := Aside0.mk Q_HB
                   refine goes_ Try.func51 (by kernel_rfl) rfl #[.pointer (some ⟨g, 0, none⟩), .int .i64 4] (by rfl) rfl rfl (by first | (simp only [List.map_toArray, List.map_cons, List.map_nil, Act.eval, Array.getD_eq_getD_getElem?, Option.getD_some, e57]; done) | (simp only [List.map_toArray, List.map_cons, List.map_nil, Act.eval, Array.getD_eq_getD_getElem?, Option.getD_some, e57]; rfl)) ?_
                   with_reducible refine (spec_l20Rd_pick.calls kj29 g s0_0 t202 4 t206 t207 w0 _ ?side1 ?side2 A39.out).mono ?_
                   (case side1 => repeat (first | (with_reducible first | exact HI0.out | apply IsS72.alloc | apply IsS72.drewN | apply IsS72.drew | apply IsS72.set_1) | exact HI0.out))
                   (case side2 => repeat (first | (with_reducible first | exact HB.out | apply below_alloc | apply pw_below_drewN | apply below_drew1 | refine below_set ?_ (IsS72.ge HI0.out)) | exact HB.out))
                   rintro e w49 ⟨rfl, hi, hb, hk⟩
                   refine ⟨_, rfl, ?_⟩
                   have n0_ := Aside0.mk (KeepBut.trans (by repeat (first | (with_reducible first | exact HK.out | apply KeepBut.set_ | apply keep_drewN | apply keep_drew | apply keep_alloc) | exact HK.out)) hk (.inl rfl))
                   have n1_ := Aside0.mk (hb)
                   have n2_ := Aside0.mk (hi)
                   have z_HO205 := fun (h0_ : b 3 = true) => (show Kd.R Kd.string 9 w49 w.heap.size (fun _ => True) v204 y203 from by first | exact (Kd.R_mono (Kd.R_keep (IsS72.apart (show IsS72 w0 _ g s0_0 t202 from by repeat (first | (with_reducible first | exact HI0.out | apply IsS72.alloc | apply IsS72.drewN | apply IsS72.drew | apply IsS72.set_1) | exact HI0.out)) (by (with_reducible repeat (first | apply Kd.R_alloc | apply Kd.R_drewN | apply Kd.R_drew)); exact (Q_HO205 h0_)) (by decide)) hk (fun _ h => h.2)) (fun _ h => h.1)) | exact Kd.R_mono (Kd.R_mono (Kd.R_keep (IsS72.apart (show IsS72 w0 _ g s0_0 t202 from by repeat (first | (with_reducible first | exact HI0.out | apply IsS72.alloc | apply IsS72.drewN | apply IsS72.drew | apply IsS72.set_1) | exact HI0.out)) (by (with_reducible repeat (first | apply Kd.R_alloc | apply Kd.R_drewN | apply Kd.R_drew)); exact (Q_HO205 h0_)) (by decide)) hk (fun _ h => h.2)) (fun _ h => h.1)) (fun _ h_ => by first | trivial | exact h_ | exact h_.1))
                   clear HK
                   clear HB
                   clear HI0
                   have HK := n0_
                   have HB := n1_
                   have HI0 := n2_
                   clear n0_ n1_ n2_
                   (try clear hb)
                   (try clear hb2)
                   (try clear hk)
                   (try clear hi)
                   refine hK.out _ _ ⟨v204, adz_v204, m6_, (by rw [ha.out]; exact putSel_upk 2 hb_ rfl rfl rfl), fun h0_ => absurd ((up_self b 5).symm.trans h0_) (by decide), (by repeat (first | (with_reducible first | exact HK.out | apply KeepBut.set_ | apply keep_drewN | apply keep_drew | apply keep_alloc) | exact HK.out)), (by repeat (first | (with_reducible first | exact HB.out | apply below_alloc | apply pw_below_drewN | apply below_drew1 | refine below_set ?_ (IsS72.ge HI0.out)) | exact HB.out)), z_HO205, Q_HA_HO205, fun _ => (by repeat (first | (with_reducible first | exact HI0.out | apply IsS72.alloc | apply IsS72.drewN | apply IsS72.drew | apply IsS72.set_1) | exact HI0.out)), fun h0_ => absurd ((hoff 6 (by kernel_rfl)).symm.trans h0_) (by decide)⟩
                  refine steps_cons ?_ ?_
                  ·rintro b a w' ⟨v204, adz_v204, m6_, ha, Q_HI0, Q_HK, Q_HB, Q_HO205, Q_HA_HO205, Q_HI0_e5, Q_X6_⟩ hb_ hon hoff
                   refine ⟨_, rfl, fun K hK => ?_⟩
                   have e56 : a.tmps[56]? = some (v204) := by rw [ha]; exact putSel_on (e := (3, 56, v204)) 1 rfl rfl (hon 3 (by kernel_rfl)) rfl
                   have e58 : a.tmps[58]? = some (.int .i64 t206) := by rw [ha]; exact putSel_on (e := (5, 58, .int .i64 t206)) 2 rfl rfl (hon 5 (by kernel_rfl)) rfl
                   replace ha := Aside0.mk ha
                   have HK := Aside0.mk Q_HK
                   have HB := Aside0.mk Q_HB
                   have HO205 := Aside0.mk (Q_HO205 (hon 3 (by kernel_rfl)))
                   have HA_HO205 := Aside0.mk (Q_HA_HO205 (hon 3 (by kernel_rfl)))
                   have HI0 := Aside0.mk (Q_HI0_e5 (hon 5 (by kernel_rfl)))
                   obtain ⟨c_, hv_⟩ := HA_HO205.out
                   rw [hv_] at e56
                   refine value_ (w1 := w') (v := .pointer (some (adz_v204.add (t206).toNat))) (by rfl) rfl ?_ ?_
                   ·go_simp
                    (try simp only [i64_w])
                    try rfl
                   refine hK.out _ _ ⟨v204, adz_v204, (.pointer (some (adz_v204.add (t206).toNat))), (by rw [ha.out]; exact putSel_upk 3 hb_ rfl rfl rfl), fun h0_ => absurd ((hon 5 (by kernel_rfl)).symm.trans h0_) (by decide), Q_HK, Q_HB, Q_HO205, Q_HA_HO205, Q_HI0_e5, fun _ => rfl⟩
                  refine steps_cons ?_ ?_
                  ·rintro b a w' ⟨v204, adz_v204, m6_, ha, Q_HI0, Q_HK, Q_HB, Q_HO205, Q_HA_HO205, Q_HI0_e5, Q_X6_⟩ hb_ hon hoff
                   refine ⟨_, rfl, fun K hK => ?_⟩
                   have e59 : a.tmps[59]? = some (m6_) := by rw [ha]; exact putSel_on (e := (6, 59, m6_)) 3 rfl rfl (hon 6 (by kernel_rfl)) rfl
                   rw [Q_X6_ (hon 6 (by kernel_rfl))] at e59
                   replace ha := Aside0.mk ha
                   have HK := Aside0.mk Q_HK
                   have HB := Aside0.mk Q_HB
                   have HO205 := Aside0.mk (Q_HO205 (hon 3 (by kernel_rfl)))
                   have HA_HO205 := Aside0.mk (Q_HA_HO205 (hon 3 (by kernel_rfl)))
                   have HI0 := Aside0.mk (Q_HI0_e5 (hon 5 (by kernel_rfl)))
                   obtain ⟨c_, hv_⟩ := HA_HO205.out
                   have hF_ := HO205.out
                   rw [hv_] at hF_
                   obtain ⟨ad_, ea_, hx_⟩ := Kd.at_string (Kd.R_reads' hF_).2.2 t206 (of_eq_true pi208) (of_eq_true qi208)
                   cases ea_
                   refine value_ (w1 := w') (v := .string (rdOf ByteArray.empty y203 t206)) (by rfl) rfl ?_ ?_
                   ·go_simp
                    (try simp only [i64_w])
                    try rfl
                   refine hK.out _ _ ⟨v204, adz_v204, m6_, (by rw [ha.out]; exact putSel_upk 4 hb_ rfl rfl rfl), fun h0_ => absurd ((hon 5 (by kernel_rfl)).symm.trans h0_) (by decide), Q_HK, Q_HB, Q_HO205, Q_HA_HO205, Q_HI0_e5, Q_X6_⟩
                  refine steps_cons ?_ ?_
                  ·rintro b a w' ⟨v204, adz_v204, m6_, ha, Q_HI0, Q_HK, Q_HB, Q_HO205, Q_HA_HO205, Q_HI0_e5, Q_X6_⟩ hb_ hon hoff
                   refine ⟨_, rfl, fun K hK => ?_⟩
                   have e55 : a.tmps[55]? = some (.string (x5_1.extract 0 (t201 : Int).toNat)) := by rw [ha]; exact putSel_on (e := (2, 55, .string (x5_1.extract 0 (t201 : Int).toNat))) 0 rfl rfl (hon 2 (by kernel_rfl)) rfl
                   have e60 : a.tmps[60]? = some (.string (rdOf ByteArray.empty y203 t206)) := by rw [ha]; exact putSel_on (e := (7, 60, .string (rdOf ByteArray.empty y203 t206))) 4 rfl rfl (hon 7 (by kernel_rfl)) rfl
                   replace ha := Aside0.mk ha
                   have HK := Aside0.mk Q_HK
                   have HB := Aside0.mk Q_HB
                   have HO205 := Aside0.mk (Q_HO205 (hon 3 (by kernel_rfl)))
                   have HA_HO205 := Aside0.mk (Q_HA_HO205 (hon 3 (by kernel_rfl)))
                   have HI0 := Aside0.mk (Q_HI0_e5 (hon 5 (by kernel_rfl)))
                   refine value_ (w1 := w') (v := .string ((x5_1.extract 0 (t201 : Int).toNat) ++ (rdOf ByteArray.empty y203 t206))) (by rfl) rfl ?_ ?_
                   ·go_simp
                    (try simp only [i64_w])
                    try rfl
                    try ((try have gc14b0_ := of_eq_true c14b0); (try have gc23b0_ := of_eq_true c23b0); (try have gc37b0_ := of_eq_true c37b0); (try have gc38b0_ := of_eq_true c38b0); (try have gc40b0_ := of_eq_true c40b0); (try have gc44b0_ := of_eq_true c44b0); (try have gc45b0_ := of_eq_true c45b0); have h_ := c42; simp only [ByteArray.size_extract, ByteArray.size_append] at h_ ⊢; omega)
                    try ((try have gc14b0_ := of_eq_true c14b0); (try have gc23b0_ := of_eq_true c23b0); (try have gc37b0_ := of_eq_true c37b0); (try have gc38b0_ := of_eq_true c38b0); (try have gc40b0_ := of_eq_true c40b0); (try have gc44b0_ := of_eq_true c44b0); (try have gc45b0_ := of_eq_true c45b0); have h_ := c46; simp only [ByteArray.size_extract, ByteArray.size_append] at h_ ⊢; omega)
                   refine hK.out _ _ ⟨v204, adz_v204, m6_, (by rw [ha.out]; exact putSel_upk 5 hb_ rfl rfl rfl), fun h0_ => absurd ((hon 5 (by kernel_rfl)).symm.trans h0_) (by decide), Q_HK, Q_HB, Q_HO205, Q_HA_HO205, Q_HI0_e5, Q_X6_⟩
                  refine steps_cons ?_ ?_
                  ·rintro b a w' ⟨v204, adz_v204, m6_, ha, Q_HI0, Q_HK, Q_HB, Q_HO205, Q_HA_HO205, Q_HI0_e5, Q_X6_⟩ hb_ hon hoff
                   refine ⟨_, rfl, fun K hK => ?_⟩
                   have e63 : a.tmps[63]? = some (.int .i64 t201) := by rw [ha]; exact (putSel_off rfl).trans rfl
                   replace ha := Aside0.mk ha
                   have HK := Aside0.mk Q_HK
                   have HB := Aside0.mk Q_HB
                   refine value_ (w1 := w') (v := .int .i64 ji43) (by rfl) rfl ?_ ?_
                   ·go_simp
                    (try simp only [i64_w])
                    try rfl
                   refine hK.out _ _ ⟨v204, adz_v204, m6_, (by rw [ha.out]; exact putSel_upk 6 hb_ rfl rfl rfl), Q_HI0, Q_HK, Q_HB, Q_HO205, Q_HA_HO205, Q_HI0_e5, Q_X6_⟩
                  refine steps_cons ?_ ?_
                  ·rintro b a w' ⟨v204, adz_v204, m6_, ha, Q_HI0, Q_HK, Q_HB, Q_HO205, Q_HA_HO205, Q_HI0_e5, Q_X6_⟩ hb_ hon hoff
                   refine ⟨_, rfl, fun K hK => ?_⟩
                   have e62 : a.tmps[62]? = some (.string x5_1) := by rw [ha]; exact (putSel_off rfl).trans rfl
                   have e64 : a.tmps[64]? = some (.int .i64 ji43) := by rw [ha]; exact putSel_on (e := (11, 64, .int .i64 ji43)) 6 rfl rfl (hon 11 (by kernel_rfl)) rfl
                   replace ha := Aside0.mk ha
                   have HK := Aside0.mk Q_HK
                   have HB := Aside0.mk Q_HB
                   refine value_ (w1 := w') (v := .string (x5_1.extract ((ji43) : Int).toNat x5_1.size)) (by rfl) rfl ?_ ?_
                   ·go_simp
                    (try simp only [i64_w])
                    try rfl
                    try ((try have gc14b0_ := of_eq_true c14b0); (try have gc23b0_ := of_eq_true c23b0); (try have gc37b0_ := of_eq_true c37b0); (try have gc38b0_ := of_eq_true c38b0); (try have gc40b0_ := of_eq_true c40b0); (try have gc44b0_ := of_eq_true c44b0); (try have gc45b0_ := of_eq_true c45b0); have h_ := c42; simp only [ByteArray.size_extract, ByteArray.size_append] at h_ ⊢; omega)
                    try ((try have gc14b0_ := of_eq_true c14b0); (try have gc23b0_ := of_eq_true c23b0); (try have gc37b0_ := of_eq_true c37b0); (try have gc38b0_ := of_eq_true c38b0); (try have gc40b0_ := of_eq_true c40b0); (try have gc44b0_ := of_eq_true c44b0); (try have gc45b0_ := of_eq_true c45b0); have h_ := c46; simp only [ByteArray.size_extract, ByteArray.size_append] at h_ ⊢; omega)
                   refine hK.out _ _ ⟨v204, adz_v204, m6_, (by rw [ha.out]; exact putSel_upk 7 hb_ rfl rfl rfl), Q_HI0, Q_HK, Q_HB, Q_HO205, Q_HA_HO205, Q_HI0_e5, Q_X6_⟩
                  refine steps_cons ?_ ?_
                  ·rintro b a w' ⟨v204, adz_v204, m6_, ha, Q_HI0, Q_HK, Q_HB, Q_HO205, Q_HA_HO205, Q_HI0_e5, Q_X6_⟩ hb_ hon hoff
                   refine ⟨_, rfl, fun K hK => ?_⟩
                   have e61 : a.tmps[61]? = some (.string ((x5_1.extract 0 (t201 : Int).toNat) ++ (rdOf ByteArray.empty y203 t206))) := by rw [ha]; exact putSel_on (e := (8, 61, .string ((x5_1.extract 0 (t201 : Int).toNat) ++ (rdOf ByteArray.empty y203 t206)))) 5 rfl rfl (hon 8 (by kernel_rfl)) rfl
                   have e65 : a.tmps[65]? = some (.string (x5_1.extract ((ji43) : Int).toNat x5_1.size)) := by rw [ha]; exact putSel_on (e := (12, 65, .string (x5_1.extract ((ji43) : Int).toNat x5_1.size))) 7 rfl rfl (hon 12 (by kernel_rfl)) rfl
                   replace ha := Aside0.mk ha
                   have HK := Aside0.mk Q_HK
                   have HB := Aside0.mk Q_HB
                   have HO205 := Aside0.mk (Q_HO205 (hon 3 (by kernel_rfl)))
                   have HA_HO205 := Aside0.mk (Q_HA_HO205 (hon 3 (by kernel_rfl)))
                   have HI0 := Aside0.mk (Q_HI0_e5 (hon 5 (by kernel_rfl)))
                   refine value_ (w1 := w') (v := .string (((x5_1.extract 0 (t201 : Int).toNat) ++ (rdOf ByteArray.empty y203 t206)) ++ (x5_1.extract ((ji43) : Int).toNat x5_1.size))) (by rfl) rfl ?_ ?_
                   ·go_simp
                    (try simp only [i64_w])
                    try rfl
                    try ((try have gc14b0_ := of_eq_true c14b0); (try have gc23b0_ := of_eq_true c23b0); (try have gc37b0_ := of_eq_true c37b0); (try have gc38b0_ := of_eq_true c38b0); (try have gc40b0_ := of_eq_true c40b0); (try have gc44b0_ := of_eq_true c44b0); (try have gc45b0_ := of_eq_true c45b0); have h_ := c42; simp only [ByteArray.size_extract, ByteArray.size_append] at h_ ⊢; omega)
                    try ((try have gc14b0_ := of_eq_true c14b0); (try have gc23b0_ := of_eq_true c23b0); (try have gc37b0_ := of_eq_true c37b0); (try have gc38b0_ := of_eq_true c38b0); (try have gc40b0_ := of_eq_true c40b0); (try have gc44b0_ := of_eq_true c44b0); (try have gc45b0_ := of_eq_true c45b0); have h_ := c46; simp only [ByteArray.size_extract, ByteArray.size_append] at h_ ⊢; omega)
                   refine hK.out _ _ ⟨v204, adz_v204, m6_, (by rw [ha.out]; exact putSel_upk 8 hb_ rfl rfl rfl), fun h0_ => absurd ((hon 5 (by kernel_rfl)).symm.trans h0_) (by decide), Q_HK, Q_HB, Q_HO205, Q_HA_HO205, Q_HI0_e5, Q_X6_⟩
                  refine steps_cons ?_ ?_
                  ·rintro b a w' ⟨v204, adz_v204, m6_, ha, Q_HI0, Q_HK, Q_HB, Q_HO205, Q_HA_HO205, Q_HI0_e5, Q_X6_⟩ hb_ hon hoff
                   refine ⟨_, rfl, fun K hK => ?_⟩
                   have e66 : a.tmps[66]? = some (.string (((x5_1.extract 0 (t201 : Int).toNat) ++ (rdOf ByteArray.empty y203 t206)) ++ (x5_1.extract ((ji43) : Int).toNat x5_1.size))) := by rw [ha]; exact putSel_on (e := (13, 66, .string (((x5_1.extract 0 (t201 : Int).toNat) ++ (rdOf ByteArray.empty y203 t206)) ++ (x5_1.extract ((ji43) : Int).toNat x5_1.size)))) 8 rfl rfl (hon 13 (by kernel_rfl)) rfl
                   replace ha := Aside0.mk ha
                   have HK := Aside0.mk Q_HK
                   have HB := Aside0.mk Q_HB
                   have HO205 := Aside0.mk (Q_HO205 (hon 3 (by kernel_rfl)))
                   have HA_HO205 := Aside0.mk (Q_HA_HO205 (hon 3 (by kernel_rfl)))
                   have HI0 := Aside0.mk (Q_HI0_e5 (hon 5 (by kernel_rfl)))
                   refine value_ (w1 := w') (v := .string (((x5_1.extract 0 (t201 : Int).toNat) ++ (rdOf ByteArray.empty y203 t206)) ++ (x5_1.extract ((ji43) : Int).toNat x5_1.size))) (by rfl) rfl ?_ ?_
                   ·go_simp
                    (try simp only [i64_w])
                    try rfl
                    try ((try have gc14b0_ := of_eq_true c14b0); (try have gc23b0_ := of_eq_true c23b0); (try have gc37b0_ := of_eq_true c37b0); (try have gc38b0_ := of_eq_true c38b0); (try have gc40b0_ := of_eq_true c40b0); (try have gc44b0_ := of_eq_true c44b0); (try have gc45b0_ := of_eq_true c45b0); have h_ := c42; simp only [ByteArray.size_extract, ByteArray.size_append] at h_ ⊢; omega)
                    try ((try have gc14b0_ := of_eq_true c14b0); (try have gc23b0_ := of_eq_true c23b0); (try have gc37b0_ := of_eq_true c37b0); (try have gc38b0_ := of_eq_true c38b0); (try have gc40b0_ := of_eq_true c40b0); (try have gc44b0_ := of_eq_true c44b0); (try have gc45b0_ := of_eq_true c45b0); have h_ := c46; simp only [ByteArray.size_extract, ByteArray.size_append] at h_ ⊢; omega)
                   refine hK.out _ _ ⟨v204, adz_v204, m6_, (by rw [ha.out]; exact putSel_upk 9 hb_ rfl rfl rfl), fun h0_ => absurd ((hon 5 (by kernel_rfl)).symm.trans h0_) (by decide), Q_HK, Q_HB, Q_HO205, Q_HA_HO205, Q_HI0_e5, Q_X6_⟩
                  exact steps_nil
                 rintro b a w53 hall ⟨v204, adz_v204, m6_, ha, Q_HI0, Q_HK, Q_HB, Q_HO205, Q_HA_HO205, Q_HI0_e5, Q_X6_⟩
                 clear HB HI0 HK
                 have hb2_ := hall 2 (by kernel_rfl)
                 have hb3_ := hall 3 (by kernel_rfl)
                 have hb5_ := hall 5 (by kernel_rfl)
                 have hb6_ := hall 6 (by kernel_rfl)
                 have hb7_ := hall 7 (by kernel_rfl)
                 have hb8_ := hall 8 (by kernel_rfl)
                 have hb11_ := hall 11 (by kernel_rfl)
                 have hb12_ := hall 12 (by kernel_rfl)
                 have hb13_ := hall 13 (by kernel_rfl)
                 have hb14_ := hall 14 (by kernel_rfl)
                 subst ha
                 obtain rfl := Q_X6_ hb6_
                 simp only [putSel, hb2_, hb3_, hb5_, hb6_, hb7_, hb8_, hb11_, hb12_, hb13_, hb14_, if_true, Act.put, List.setIfInBounds_toArray, List.set_cons_zero, List.set_cons_succ]
                 clear Q_HI0
                 have HK := Aside0.mk Q_HK
                 clear Q_HK
                 have HB := Aside0.mk Q_HB
                 clear Q_HB
                 have HO205 := Aside0.mk (Q_HO205 hb3_)
                 clear Q_HO205
                 have HA_HO205 := Aside0.mk (Q_HA_HO205 hb3_)
                 clear Q_HA_HO205
                 have HI0 := Aside0.mk (Q_HI0_e5 hb5_)
                 clear Q_HI0_e5
                 clear hall hb2_ hb3_ hb5_ hb6_ hb7_ hb8_ hb11_ hb12_ hb13_ hb14_
                 obtain ⟨co54, eo54⟩ := HA_HO205.out
                 clear HA_HO205
                 subst eo54
                 try go_wp2
                 go_ret
                 exact ⟨by first | rfl | (simp [errW_none, errW_some] <;> rfl) | (simp only [← hji43]; first | rfl | (simp [errW_none, errW_some] <;> rfl)) | (simp [*, errW_none, errW_some] <;> rfl), by repeat (first | (with_reducible first | exact HI0.out | apply IsS72.alloc | apply IsS72.drewN | apply IsS72.drew | apply IsS72.set_1) | exact HI0.out), by repeat (first | (with_reducible first | exact HB.out | apply below_alloc | apply pw_below_drewN | apply below_drew1 | refine below_set ?_ (IsS72.ge HI0.out)) | exact HB.out), by repeat (first | (with_reducible first | exact HK.out | apply KeepBut.set_ | apply keep_drewN | apply keep_drew | apply keep_alloc) | exact HK.out)⟩
                ·rw [if_neg c46] at H
                 exact absurd H (by simp)
               ·rw [if_neg c45] at H
                exact absurd H (by simp)
              ·rw [if_neg c44] at H
               exact absurd H (by simp)
             ·rw [if_neg c42] at H
              exact absurd H (by simp)
            ·rw [if_neg c41] at H
             exact absurd H (by simp)
           ·rw [if_neg c40] at H
            exact absurd H (by simp)
          ·rw [if_neg c38] at H
           exact absurd H (by simp)
         ·rw [if_neg c37] at H
          exact absurd H (by simp)
        ·replace c35 := Bool.eq_false_iff.mpr c35
         subst c35
         have H1 : (some (x5_1, x1001_29)) = some (r1, r2) := by rw [if_neg (show ¬ (false = true) by decide)] at H; exact H
         clear H
         have H := H1
         clear H1
         simp only [Option.some.injEq, Prod.mk.injEq] at H
         obtain ⟨rfl, rfl⟩ := H
         go_wp2
         go_ret
         exact ⟨by first | rfl | (simp [errW_none, errW_some] <;> rfl) | (simp [*, errW_none, errW_some] <;> rfl), by repeat (first | (with_reducible first | exact HI0.out | apply IsS72.alloc | apply IsS72.drewN | apply IsS72.drew | apply IsS72.set_1) | exact HI0.out), by repeat (first | (with_reducible first | exact HB.out | apply below_alloc | apply pw_below_drewN | apply below_drew1 | refine below_set ?_ (IsS72.ge HI0.out)) | exact HB.out), by repeat (first | (with_reducible first | exact HK.out | apply KeepBut.set_ | apply keep_drewN | apply keep_drew | apply keep_alloc) | exact HK.out)⟩

/-! ### spec_DrawRunStack: function 24 -/
def spec_DrawRunStack.f (k : Nat) (l0 : List Int) : Option (Int × ByteArray) := (spec_l20Open.f l0).bind fun bt209 => ((spec_l20Rd_pick.f k bt209.1 bt209.2 8).bind fun bt212 => ((spec_l20Rd_pick.f k bt209.1 bt212.2 20).bind fun bt214 => ((spec_l20Rd_pick.f k bt209.1 bt214.2 30).bind fun bt216 => ((spec_l20Moves.f k bt209.1 bt216.2 (wrap64 (1 + bt212.1))).bind fun bt218 => (some (wrap64 ((wrap64 ((wrap64 (1 + bt212.1)) + (wrap64 (Int.tdiv bt214.1 19)))) - (wrap64 (Int.tdiv bt216.1 29))), bt218.1))))))
set_option maxHeartbeats 8000000 in
set_option maxRecDepth 100000 in
theorem spec_DrawRunStack.calls (k : Nat) (A0 : Option Addr) (c0 : Nat) (l0 : List Int) (r1 : Int) (r2 : ByteArray) (w : World) (hr0 : Kd.C (Kd.int .u8) w A0 l0.length l0) (hc0 : l0.length ≤ c0) (h : spec_DrawRunStack.f k l0 = some (r1, r2)) :
  Calls Try.prog 24 #[.slice A0 l0.length c0] w fun e w' => e = .returned (.tuple #[.int .i64 r1, .string r2]) ∧ Below w.heap.size w w' := by
 have HR0 := Aside0.mk hr0
 have HC0 := Aside0.mk hc0
 clear hr0 hc0
 have HB := Aside0.mk (Below.refl w.heap.size w)
 have H : ((spec_l20Open.f l0).bind fun bt209 => ((spec_l20Rd_pick.f k bt209.1 bt209.2 8).bind fun bt212 => ((spec_l20Rd_pick.f k bt209.1 bt212.2 20).bind fun bt214 => ((spec_l20Rd_pick.f k bt209.1 bt214.2 30).bind fun bt216 => ((spec_l20Moves.f k bt209.1 bt216.2 (wrap64 (1 + bt212.1))).bind fun bt218 => (some (wrap64 ((wrap64 ((wrap64 (1 + bt212.1)) + (wrap64 (Int.tdiv bt214.1 19)))) - (wrap64 (Int.tdiv bt216.1 29))), bt218.1))))))) = some (r1, r2) := h
 clear h
 replace H := Option.bind_eq_some_iff.mp H
 obtain ⟨⟨t209, t210⟩, A20, H⟩ := H
 replace H : ((spec_l20Rd_pick.f k t209 t210 8).bind fun bt212 => ((spec_l20Rd_pick.f k t209 bt212.2 20).bind fun bt214 => ((spec_l20Rd_pick.f k t209 bt214.2 30).bind fun bt216 => ((spec_l20Moves.f k t209 bt216.2 (wrap64 (1 + bt212.1))).bind fun bt218 => (some (wrap64 ((wrap64 ((wrap64 (1 + bt212.1)) + (wrap64 (Int.tdiv bt214.1 19)))) - (wrap64 (Int.tdiv bt216.1 29))), bt218.1)))))) = some (r1, r2) := H
 have A2 := Aside0.mk A20
 clear A20
 replace H := Option.bind_eq_some_iff.mp H
 obtain ⟨⟨t212, t213⟩, A30, H⟩ := H
 replace H : ((spec_l20Rd_pick.f k t209 t213 20).bind fun bt214 => ((spec_l20Rd_pick.f k t209 bt214.2 30).bind fun bt216 => ((spec_l20Moves.f k t209 bt216.2 (wrap64 (1 + t212))).bind fun bt218 => (some (wrap64 ((wrap64 ((wrap64 (1 + t212)) + (wrap64 (Int.tdiv bt214.1 19)))) - (wrap64 (Int.tdiv bt216.1 29))), bt218.1))))) = some (r1, r2) := H
 have A3 := Aside0.mk A30
 clear A30
 replace H := Option.bind_eq_some_iff.mp H
 obtain ⟨⟨t214, t215⟩, A40, H⟩ := H
 replace H : ((spec_l20Rd_pick.f k t209 t215 30).bind fun bt216 => ((spec_l20Moves.f k t209 bt216.2 (wrap64 (1 + t212))).bind fun bt218 => (some (wrap64 ((wrap64 ((wrap64 (1 + t212)) + (wrap64 (Int.tdiv t214 19)))) - (wrap64 (Int.tdiv bt216.1 29))), bt218.1)))) = some (r1, r2) := H
 have A4 := Aside0.mk A40
 clear A40
 replace H := Option.bind_eq_some_iff.mp H
 obtain ⟨⟨t216, t217⟩, A50, H⟩ := H
 replace H : ((spec_l20Moves.f k t209 t217 (wrap64 (1 + t212))).bind fun bt218 => (some (wrap64 ((wrap64 ((wrap64 (1 + t212)) + (wrap64 (Int.tdiv t214 19)))) - (wrap64 (Int.tdiv t216 29))), bt218.1))) = some (r1, r2) := H
 have A5 := Aside0.mk A50
 clear A50
 replace H := Option.bind_eq_some_iff.mp H
 obtain ⟨⟨t218, t219⟩, A60, H⟩ := H
 replace H : (some (wrap64 ((wrap64 ((wrap64 (1 + t212)) + (wrap64 (Int.tdiv t214 19)))) - (wrap64 (Int.tdiv t216 29))), t218)) = some (r1, r2) := H
 have A6 := Aside0.mk A60
 clear A60
 simp only [Option.some.injEq, Prod.mk.injEq] at H
 obtain ⟨rfl, rfl⟩ := H
 go_enter Try.func24, Try.ntmps24
 go_wp2_with (first | ((with_reducible refine gate_callee (f := 50) rfl ?_); refine goesL_ (some 7) rfl rfl Try.func50 (by kernel_rfl) rfl #[.slice A0 l0.length c0] rfl (by (try simp only [List.map_toArray, List.map_cons, List.map_nil]); first | done | rfl | (simp only [List.length_drop, List.length_take]; rfl)) ?_; (with_reducible refine (spec_l20Open.calls _ _ l0 t209 t210 w _ ?side1 ?side2 ?side3 A2.out).mono ?_); (case side1 => repeat (first | (with_reducible first | exact HB.out | apply below_alloc | apply pw_below_drewN | apply below_drew1) | exact HB.out)); (case side2 => exact HR0.out); (case side3 => exact HC0.out); rintro e w7 ⟨g211, rfl, hi, hb, hb2⟩; refine ⟨_, rfl, ?_⟩; have n0_ := Aside0.mk (hb); have n1_ := Aside0.mk (hi); clear HB; have HB := n0_; have HI211 := n1_; clear n0_ n1_; (try clear hb); (try clear hb2); (try clear hk); (try clear hi)) | ((with_reducible refine gate_callee (f := 51) rfl ?_); refine goesL_ (some 9) rfl rfl Try.func51 (by kernel_rfl) rfl #[.pointer (some ⟨g211, 0, none⟩), .int .i64 8] rfl (by (try simp only [List.map_toArray, List.map_cons, List.map_nil]); first | done | rfl | (simp only [List.length_drop, List.length_take]; rfl)) ?_; (with_reducible refine (spec_l20Rd_pick.calls k g211 t209 t210 8 t212 t213 w _ ?side1 ?side2 A3.out).mono ?_); (case side1 => repeat (first | (with_reducible first | exact HI211.out | apply IsS72.alloc | apply IsS72.drewN | apply IsS72.drew | apply IsS72.set_1) | exact HI211.out)); (case side2 => repeat (first | (with_reducible first | exact HB.out | apply below_alloc | apply pw_below_drewN | apply below_drew1 | refine below_set ?_ (IsS72.ge HI211.out)) | exact HB.out)); rintro e w8 ⟨rfl, hi, hb, hk⟩; refine ⟨_, rfl, ?_⟩; have n0_ := Aside0.mk (hb); have n1_ := Aside0.mk (hi); clear HB; clear HI211; have HB := n0_; have HI211 := n1_; clear n0_ n1_; (try clear hb); (try clear hb2); (try clear hk); (try clear hi)) | ((with_reducible refine gate_callee (f := 51) rfl ?_); refine goesL_ (some 13) rfl rfl Try.func51 (by kernel_rfl) rfl #[.pointer (some ⟨g211, 0, none⟩), .int .i64 20] rfl (by (try simp only [List.map_toArray, List.map_cons, List.map_nil]); first | done | rfl | (simp only [List.length_drop, List.length_take]; rfl)) ?_; (with_reducible refine (spec_l20Rd_pick.calls k g211 t209 t213 20 t214 t215 w _ ?side1 ?side2 A4.out).mono ?_); (case side1 => repeat (first | (with_reducible first | exact HI211.out | apply IsS72.alloc | apply IsS72.drewN | apply IsS72.drew | apply IsS72.set_1) | exact HI211.out)); (case side2 => repeat (first | (with_reducible first | exact HB.out | apply below_alloc | apply pw_below_drewN | apply below_drew1 | refine below_set ?_ (IsS72.ge HI211.out)) | exact HB.out)); rintro e w9 ⟨rfl, hi, hb, hk⟩; refine ⟨_, rfl, ?_⟩; have n0_ := Aside0.mk (hb); have n1_ := Aside0.mk (hi); clear HB; clear HI211; have HB := n0_; have HI211 := n1_; clear n0_ n1_; (try clear hb); (try clear hb2); (try clear hk); (try clear hi)) | ((with_reducible refine gate_callee (f := 51) rfl ?_); refine goesL_ (some 17) rfl rfl Try.func51 (by kernel_rfl) rfl #[.pointer (some ⟨g211, 0, none⟩), .int .i64 30] rfl (by (try simp only [List.map_toArray, List.map_cons, List.map_nil]); first | done | rfl | (simp only [List.length_drop, List.length_take]; rfl)) ?_; (with_reducible refine (spec_l20Rd_pick.calls k g211 t209 t215 30 t216 t217 w _ ?side1 ?side2 A5.out).mono ?_); (case side1 => repeat (first | (with_reducible first | exact HI211.out | apply IsS72.alloc | apply IsS72.drewN | apply IsS72.drew | apply IsS72.set_1) | exact HI211.out)); (case side2 => repeat (first | (with_reducible first | exact HB.out | apply below_alloc | apply pw_below_drewN | apply below_drew1 | refine below_set ?_ (IsS72.ge HI211.out)) | exact HB.out)); rintro e w10 ⟨rfl, hi, hb, hk⟩; refine ⟨_, rfl, ?_⟩; have n0_ := Aside0.mk (hb); have n1_ := Aside0.mk (hi); clear HB; clear HI211; have HB := n0_; have HI211 := n1_; clear n0_ n1_; (try clear hb); (try clear hb2); (try clear hk); (try clear hi)) | ((with_reducible refine gate_callee (f := 52) rfl ?_); refine goesL_ (some 22) rfl rfl Try.func52 (by kernel_rfl) rfl #[.pointer (some ⟨g211, 0, none⟩), .int .i64 (wrap64 (1 + t212))] rfl (by (try simp only [List.map_toArray, List.map_cons, List.map_nil]); first | done | rfl | (simp only [List.length_drop, List.length_take]; rfl)) ?_; (with_reducible refine (spec_l20Moves.calls k g211 t209 t217 (wrap64 (1 + t212)) t218 t219 w _ ?side1 ?side2 A6.out).mono ?_); (case side1 => repeat (first | (with_reducible first | exact HI211.out | apply IsS72.alloc | apply IsS72.drewN | apply IsS72.drew | apply IsS72.set_1) | exact HI211.out)); (case side2 => repeat (first | (with_reducible first | exact HB.out | apply below_alloc | apply pw_below_drewN | apply below_drew1 | refine below_set ?_ (IsS72.ge HI211.out)) | exact HB.out)); rintro e w11 ⟨rfl, hi, hb, hk⟩; refine ⟨_, rfl, ?_⟩; have n0_ := Aside0.mk (hb); have n1_ := Aside0.mk (hi); clear HB; clear HI211; have HB := n0_; have HI211 := n1_; clear n0_ n1_; (try clear hb); (try clear hb2); (try clear hk); (try clear hi)))
 go_ret2
 exact ⟨by first | rfl | (simp [errW_none, errW_some] <;> rfl) | (simp [*, errW_none, errW_some] <;> rfl), by repeat (first | (with_reducible first | exact HB.out | apply below_alloc | apply pw_below_drewN | apply below_drew1 | refine below_set ?_ (IsS72.ge HI211.out)) | exact HB.out)⟩

end Go.Proofs.Ytdckgafgidfplaa.QFnRunStack
