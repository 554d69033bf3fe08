/- The eager machine: what RunEager does (the memory side). -/
import Derived.Test.YtdckgafgidfplaaProg
import Derived.Below
import Derived.Deep.Draws
import Derived.Deep.AppendLies
import Derived.Maps.AppendAt
import Derived.OwnWalk
import Derived.Laws.BytesArg
import Derived.Laws.MakeOwn
import Derived.Laws.OwnMore
import Derived.Deep.OwnRows
import Derived.Tactics
import Derived.Lib.ConvBytes
import Derived.Laws.Slices
import Derived.WalkKit
import Derived.KernelRfl
import Derived.RowKit3
import Derived.Deep.LoopGhost
import Derived.Deep.QuietTactic
import Derived.BigQuiet
import Derived.WideLaws
import Derived.Deep.DeepCutAuto
import Derived.Deep.CutBlock
import Derived.Deep.RegionHeld3
import Derived.Deep.RegionLaw
import Derived.Laws.Rows
import Derived.Lib.AppendStr
import Derived.ArgAppend
import Derived.OrdersHeld
import Derived.RowKit
import Derived.Test.YtdckgafgidfplaaWWords
import Derived.Test.YtdckgafgidfplaaWLast
import Derived.Test.YtdckgafgidfplaaWQPut
import Derived.Test.YtdckgafgidfplaaWMore
import Derived.Test.YtdckgafgidfplaaE1
import Derived.Test.YtdckgafgidfplaaM2
namespace Go.Proofs.Ytdckgafgidfplaa.Mach
open Go.RowKit Go.Proofs.YtdckgafgidfplaaW.PrintWords Go.Proofs.YtdckgafgidfplaaW.PrintLast Go.Proofs.YtdckgafgidfplaaW.PrintMore
attribute [local go_sem] max2_int min2_int max_two min_two max_three min_three max_four min_four
set_option linter.unusedVariables false
set_option linter.unusedSimpArgs false
theorem ranE_snoc (a1 : ByteArray) (k : Nat) (h : k < a1.size) (s s' : Hd.St) {n : Nat} (hs : Hd.runE ((bytesOf a1).take k) (Hd.St.start n) = some s) (hm : Hd.eagS ((a1[k]).toNat : Int) s = some s') : Hd.runE ((bytesOf a1).take (k + 1)) (Hd.St.start n) = some s' := by
  rw [bytes_take a1 k h, Hd.runE_append, hs]; simp [Hd.runE, hm]
theorem ranE_stop (a1 : ByteArray) (k : Nat) (h : k < a1.size) (s : Hd.St) {n : Nat} (hs : Hd.runE ((bytesOf a1).take k) (Hd.St.start n) = some s) (hm : Hd.eagS ((a1[k]).toNat : Int) s = none) : Hd.runE (bytesOf a1) (Hd.St.start n) = none := by
  have e : bytesOf a1 = ((bytesOf a1).take k ++ [((a1[k]).toNat : Int)]) ++ (bytesOf a1).drop (k + 1) := by
    rw [← bytes_take a1 k h]; exact (List.take_append_drop _ _).symm
  rw [e, Hd.runE_append, Hd.runE_append, hs]; simp [Hd.runE, hm]
def RanEI (w : World) (g gh ch n : Nat) (a1 : ByteArray) (i : Value) (wr : World) : Prop :=
  ∃ k : Nat, k ≤ a1.size ∧ i = .int .i64 k ∧ ∃ s, Hd.runE ((bytesOf a1).take k) (Hd.St.start n) = some s ∧ s.OK n ∧ Stk w g gh ch s wr
/-- RunEager's answer. -/
def runEF (a0 : Int) (a1 : ByteArray) : List Int × Bool := match Hd.ranE a0 (bytesOf a1) with
  | none => ([], false)
  | some s => (s.hs, true)
theorem RunP.no {w w' : World} {a0 : Int} {a1 : ByteArray} (h : Hd.ranE a0 (bytesOf a1) = none) (hb : Below w.heap.size w w') : RunP w (runEF a0 a1) (.returned (.tuple #[.slice none 0 0, .bool false])) w' := by
  unfold runEF; rw [h]; exact ⟨_, rfl, Kd.R_nil _ _ _ _ _, hb⟩
theorem RunP.yes {w w' : World} {a0 : Int} {a1 : ByteArray} {s : Hd.St} {gh ch M : Nat} (h : Hd.ranE a0 (bytesOf a1) = some s) (hM : M = s.hs.length) (hH : Kd.R (Kd.int .i64) 3 w' w.heap.size (fun k => k = gh) (.slice (some ⟨gh, 0, none⟩) s.hs.length ch) s.hs) (hb : Below w.heap.size w w') :
    RunP w (runEF a0 a1) (.returned (.tuple #[.slice (some ⟨gh, 0, none⟩) M ch, .bool true])) w' := by
  subst hM
  unfold runEF; rw [h]; exact ⟨_, rfl, Kd.R_mono hH (fun _ _ => trivial), hb⟩
set_option maxHeartbeats 8000000 in
set_option maxRecDepth 100000 in
theorem runE_out (a0 : Int) (a1 : ByteArray) (w : World) (h : a0 < 1 ∨ 8 < a0) : Calls Try.prog 32 #[.int .i64 a0, .string a1] w (RunP w (runEF a0 a1)) := by
  have hr : Hd.ranE a0 (bytesOf a1) = none := by rw [Hd.ranE, if_pos h]
  by_cases h1 : a0 < 1
  · go_enter Try.func32, Try.ntmps32
    go_wp2
    all_goals go_ret2
    all_goals exact RunP.no hr (Below.refl _ _)
  · have h8 : 8 < a0 := by omega
    go_enter Try.func32, Try.ntmps32
    go_wp2
    all_goals go_ret2
    all_goals exact RunP.no hr (Below.refl _ _)
set_option maxHeartbeats 8000000 in
set_option maxRecDepth 100000 in
theorem runE_in (n : Nat) (a1 : ByteArray) (w : World) (h1 : 1 ≤ n) (h8 : n ≤ 8) (hs : a1.size ≤ 140737488351232) : Calls Try.prog 32 #[.int .i64 n, .string a1] w (RunP w (runEF n a1)) := by
  have hr : Hd.ranE n (bytesOf a1) = (Hd.runE (bytesOf a1) (Hd.St.start n)).bind fun s => if s.nx < n ∨ Hd.zerosC s.hs s.hs.length ≠ 1 then none else some s := by rw [Hd.ranE, if_neg (by omega)]; rfl
  have HR := Aside0.mk hr
  clear hr
  have l1 : ¬ ((n : Int) < 1) := by omega
  have l8 : ¬ ((n : Int) > 8) := by omega
  go_enter Try.func32, Try.ntmps32
  go_wp2_with ((with_reducible refine gate_dst (N := 18) rfl ?_); refine Kd.R_make (Kd.int .i64) _ 3 rfl (N := 18) rfl 29 _ _ rfl (n : Int) rfl rfl Try.underlying29 (.int .i64 0) 8 info3 rfl (by decide) (by omega) 0 (ok := fun _ => True) (okp := fun _ => True) rfl (fun _ hk => hk) trivial (by omega) (by omega) (Below.refl _ _) (Nat.le_refl _) ?_; intro v1 w6 ho hb hg_ hnew_; clear hg_ hnew_; rw [Int.toNat_natCast] at ho; obtain ⟨gh, ch, ev, hgb, hgl, -⟩ := Kd.R_form ho (by rw [List.length_replicate]; omega); rw [List.length_replicate] at ev; subst ev; have HO := Aside0.mk ho; have HB := Aside0.mk hb; clear ho hb)
  have hgbl : w.heap.size ≤ w6.heap.size := HB.out.size
  have hS : Stk w w6.heap.size gh ch (Hd.St.start n) (w6.alloc (.cells #[.slice none 0 0, .int .i64 0, .slice (some ⟨gh, 0, none⟩) n ch, .int .i64 0] 52)) := by
    refine ⟨none, 0, ?_, below_alloc HB.out _, Kd.R_nil _ _ _ _ _, ?_⟩
    · rw [show (Hd.St.start n).hs.length = n from by simp [Hd.St.start]]; exact blk_new _ _
    · rw [show (Hd.St.start n).hs.length = n from by simp [Hd.St.start]]
      exact own_at_block (Kd.R_alloc (Kd.R_lower HO.out (Nat.le_refl _)) _) (by simp [Hd.St.start])
  obtain ⟨g, hg⟩ : ∃ g, g = w6.heap.size := ⟨_, rfl⟩
  rw [← hg] at hS hgbl ⊢
  have hneg : g ≠ gh := by omega
  generalize w6.alloc (.cells #[.slice none 0 0, .int .i64 0, .slice (some ⟨gh, 0, none⟩) n ch, .int .i64 0] 52) = W at hS ⊢
  have HG := Aside0.mk hgbl
  have HNE := Aside0.mk hneg
  have HS := Aside0.mk hS
  clear hg hgl hgb hgbl hneg hS HO HB
  go_loopw [23] (fun i wr => RanEI w g gh ch n a1 i wr) (fun i _ => a1.size - (intOf i).toNat)
  case atStart => exact ⟨0, Nat.zero_le _, rfl, Hd.St.start n, by simp [Hd.runE], Hd.St.OK.start h8, HS.out⟩
  case round =>
    obtain ⟨k, hk, rfl, s, hrun, ok, S⟩ := hrel
    have HRUN := Aside0.mk hrun
    have HOK := Aside0.mk ok
    clear hrun ok HS
    have HSS := Aside0.mk S
    clear S
    by_cases hlt : k < a1.size
    · cases hm : Hd.eagS ((a1[k]).toNat : Int) s with
      | some s' =>
        have HM := Aside0.mk hm
        clear hm
        go_wp2_with (go_at_call 60; refine (HSS.out.eag HOK.out HG.out HNE.out HM.out).mono ?_; rintro e w' ⟨rfl, S'⟩)
        go_roundw
        case rel => exact ⟨k + 1, by omega, by go_num, s', ranE_snoc a1 k hlt s s' HRUN.out HM.out, HOK.out.eag HM.out, S'⟩
        case measure => simp [intOf]; omega
      | none =>
        have HM := Aside0.mk hm
        clear hm
        go_wp2_with (go_at_call 60; refine (HSS.out.eag_not HOK.out HG.out HNE.out HM.out).mono ?_; rintro e w' ⟨rfl, nd, rfl⟩)
        go_ret2
        obtain ⟨_, _, _, hB, _⟩ := HSS.out
        exact RunP.no (by rw [HR.out, ranE_stop a1 k hlt s HRUN.out HM.out]; rfl) (pw_below_drewN hB _)
    · obtain rfl : k = a1.size := by omega
      obtain ⟨A, c, hb, hB, -, hH⟩ := id HSS.out
      have ol := HOK.out.len
      have HHc := Aside0.mk (show ∀ q : Nat, q < s.hs.length → wr.cell? ⟨gh, q, none⟩ = some (.int .i64 (s.hs.getD q 0)) from fun q hq => (Kd.R_cell (0 : Int) hH (q : Int) (by omega) (by omega)).1)
      obtain ⟨M, hM⟩ : ∃ M, M = s.hs.length := ⟨_, rfl⟩
      rw [← hM] at hb HHc ol
      obtain ⟨h0, h1', h2, h3⟩ := cells4 hb
      have hrw := HRUN.out
      rw [bytes_full] at hrw
      have HE := Aside0.mk (show Hd.ranE n (bytesOf a1) = if s.nx < n ∨ Hd.zerosC s.hs M ≠ 1 then none else some s by rw [HR.out, hrw, hM]; rfl)
      have HB := Aside0.mk hB
      have HH := Aside0.mk hH
      have HMM := Aside0.mk hM
      have hM8 : M ≤ 8 := by omega
      clear hrw hb hB hH hM h0 h3
      go_wp2
      go_loop [8, 38] (fun r i => ∃ q : Nat, q ≤ M ∧ i = .int .i64 q ∧ r = .int .i64 (Hd.zerosC s.hs q)) (fun _ i => M - (intOf i).toNat)
      case atStart => exact ⟨0, Nat.zero_le _, rfl, rfl⟩
      case round =>
        obtain ⟨q, hq, rfl, rfl⟩ := hrel
        have hbd := Hd.zerosC_bd s.hs q
        by_cases hlq : q < M
        · have hx := HHc.out q hlq
          have HS2 := Aside0.mk (show Hd.zerosC s.hs (q + 1) = Hd.zerosC s.hs q + if s.hs.getD q 0 = 0 then 1 else 0 from rfl)
          generalize s.hs.getD q 0 = a at hx HS2
          generalize hz : Hd.zerosC s.hs q = z at hbd HS2 ⊢
          have HZ := Aside0.mk hz
          clear hz
          have hlq' : (q : Int) < (M : Int) := by omega
          have h0q : (0 : Int) ≤ (q : Int) := by omega
          by_cases e1 : a = 0
          · have e1' : ((a : Int) == 0) = true := by simpa using e1
            have HV := Aside0.mk (show Hd.zerosC s.hs (q + 1) = z + 1 by rw [HS2.out, if_pos e1])
            clear e1
            go_wp2
            go_round
            case rel => exact ⟨q + 1, by omega, by go_num, by rw [HV.out]⟩
            case measure => simp [intOf]; omega
          · have e1' : ((a : Int) == 0) = false := by simpa using e1
            have HV := Aside0.mk (show Hd.zerosC s.hs (q + 1) = z by rw [HS2.out, if_neg e1]; omega)
            clear e1
            go_wp2
            go_round
            case rel => exact ⟨q + 1, by omega, by go_num, by rw [HV.out]⟩
            case measure => simp [intOf]; omega
        · obtain rfl : q = M := by omega
          generalize hz : Hd.zerosC s.hs q = z at hbd HE ⊢
          clear hz
          by_cases c1 : s.nx < n
          · have c1' : decide (s.nx < (n : Int)) = true := decide_eq_true c1
            have HN := Aside0.mk (show Hd.ranE n (bytesOf a1) = none by rw [HE.out, if_pos (.inl c1)])
            go_wp2
            go_ret2
            exact RunP.no HN.out HB.out
          · have c1' : decide (s.nx < (n : Int)) = false := decide_eq_false c1
            by_cases c2 : z = 1
            · have HN := Aside0.mk (show Hd.ranE n (bytesOf a1) = some s by rw [HE.out, if_neg (by omega)])
              have c2' : ((z : Int) != 1) = false := by simp [c2]
              clear c2
              go_wp2
              go_ret2
              exact RunP.yes HN.out (by have := HMM.out; omega) HH.out HB.out
            · have HN := Aside0.mk (show Hd.ranE n (bytesOf a1) = none by rw [HE.out, if_pos (.inr c2)])
              have c2' : ((z : Int) != 1) = true := by simpa using c2
              clear c2
              go_wp2
              go_ret2
              exact RunP.no HN.out HB.out
theorem run_eager (a0 : Int) (a1 : ByteArray) (w : World) (hs : a1.size ≤ 140737488351232) : Calls Try.prog 32 #[.int .i64 a0, .string a1] w (RunP w (runEF a0 a1)) := by
  by_cases h : a0 < 1 ∨ 8 < a0
  · exact runE_out a0 a1 w h
  · obtain ⟨n, rfl⟩ : ∃ n : Nat, a0 = n := ⟨a0.toNat, by omega⟩
    exact runE_in n a1 w (by omega) (by omega) hs
end Go.Proofs.Ytdckgafgidfplaa.Mach
