/- The machine with a stack: what ran, RunStack and DeepestStack do (the memory side). -/
import Derived.Test.YtdckgafgidfplaaProg
import Derived.Below
import Derived.Deep.Draws
import Derived.Deep.AppendLies
import Derived.Maps.AppendAt
import Derived.OwnWalk
import Derived.Laws.BytesArg
import Derived.Laws.MakeOwn
import Derived.Laws.OwnMore
import Derived.Deep.OwnRows
import Derived.Tactics
import Derived.Lib.ConvBytes
import Derived.Laws.Slices
import Derived.WalkKit
import Derived.KernelRfl
import Derived.RowKit3
import Derived.Deep.LoopGhost
import Derived.Deep.QuietTactic
import Derived.BigQuiet
import Derived.WideLaws
import Derived.Deep.DeepCutAuto
import Derived.Deep.CutBlock
import Derived.Deep.RegionHeld3
import Derived.Deep.RegionLaw
import Derived.Laws.Rows
import Derived.Lib.AppendStr
import Derived.ArgAppend
import Derived.OrdersHeld
import Derived.RowKit
import Derived.Test.YtdckgafgidfplaaWWords
import Derived.Test.YtdckgafgidfplaaWLast
import Derived.Test.YtdckgafgidfplaaWQPut
import Derived.Test.YtdckgafgidfplaaWMore
import Derived.Test.YtdckgafgidfplaaM1
namespace Go.Proofs.Ytdckgafgidfplaa.Mach
open Go.RowKit Go.Proofs.YtdckgafgidfplaaW.PrintWords Go.Proofs.YtdckgafgidfplaaW.PrintLast Go.Proofs.YtdckgafgidfplaaW.PrintMore
attribute [local go_sem] max2_int min2_int max_two min_two max_three min_three max_four min_four
set_option linter.unusedVariables false
set_option linter.unusedSimpArgs false
theorem bytes_take (a1 : ByteArray) (k : Nat) (h : k < a1.size) : (bytesOf a1).take (k + 1) = (bytesOf a1).take k ++ [((a1[k]).toNat : Int)] := by
  have hl : k < (bytesOf a1).length := by rw [bytesOf_length]; exact h
  rw [List.take_succ_eq_append_getElem hl]
  have e : (bytesOf a1)[k] = ((a1[k]).toNat : Int) := by simp [bytesOf]; rfl
  rw [e]
theorem bytes_full (a1 : ByteArray) : (bytesOf a1).take a1.size = bytesOf a1 := by rw [← bytesOf_length]; exact List.take_length
theorem run_snoc (a1 : ByteArray) (k : Nat) (h : k < a1.size) (s s' : Hd.St) {n : Nat} (hs : Hd.runM ((bytesOf a1).take k) (Hd.St.start n) = some s) (hm : Hd.moveS ((a1[k]).toNat : Int) s = some s') : Hd.runM ((bytesOf a1).take (k + 1)) (Hd.St.start n) = some s' := by
  rw [bytes_take a1 k h, Hd.runM_append, hs]; simp [Hd.runM, hm]
theorem run_stop (a1 : ByteArray) (k : Nat) (h : k < a1.size) (s : Hd.St) {n : Nat} (hs : Hd.runM ((bytesOf a1).take k) (Hd.St.start n) = some s) (hm : Hd.moveS ((a1[k]).toNat : Int) s = none) : Hd.runM (bytesOf a1) (Hd.St.start n) = none := by
  have e : bytesOf a1 = ((bytesOf a1).take k ++ [((a1[k]).toNat : Int)]) ++ (bytesOf a1).drop (k + 1) := by
    rw [← bytes_take a1 k h]; exact (List.take_append_drop _ _).symm
  rw [e, Hd.runM_append, Hd.runM_append, hs]; simp [Hd.runM, hm]
/-- What ran hands back: nil, or the machine. -/
def RanP (w : World) (a0 : Int) (a1 : ByteArray) (e : Ending) (w' : World) : Prop :=
  match Hd.ranS a0 (bytesOf a1) with
  | none => e = .returned (.pointer none) ∧ Below w.heap.size w w'
  | some s => ∃ g gh ch, e = .returned (.pointer (some ⟨g, 0, none⟩)) ∧ Stk w g gh ch s w' ∧ w.heap.size ≤ g ∧ g ≠ gh
theorem RanP.no {w w' : World} {a0 : Int} {a1 : ByteArray} (h : Hd.ranS a0 (bytesOf a1) = none) (hb : Below w.heap.size w w') : RanP w a0 a1 (.returned (.pointer none)) w' := by
  unfold RanP; rw [h]; exact ⟨rfl, hb⟩
theorem RanP.yes {w w' : World} {a0 : Int} {a1 : ByteArray} {s : Hd.St} {g gh ch : Nat} (h : Hd.ranS a0 (bytesOf a1) = some s) (S : Stk w g gh ch s w') (hg : w.heap.size ≤ g) (hne : g ≠ gh) : RanP w a0 a1 (.returned (.pointer (some ⟨g, 0, none⟩))) w' := by
  unfold RanP; rw [h]; exact ⟨g, gh, ch, rfl, S, hg, hne⟩
def RanI (w : World) (g gh ch n : Nat) (a1 : ByteArray) (i : Value) (wr : World) : Prop :=
  ∃ k : Nat, k ≤ a1.size ∧ i = .int .i64 k ∧ ∃ s, Hd.runM ((bytesOf a1).take k) (Hd.St.start n) = some s ∧ s.OK n ∧ Stk w g gh ch s wr
theorem own_at_block {w : World} {base gh n ch : Nat} {xs : List Int} (h : Kd.R (Kd.int .i64) 3 w base (fun _ => True) (.slice (some ⟨gh, 0, none⟩) n ch) xs) (hn : n = xs.length) : Kd.R (Kd.int .i64) 3 w base (fun k => k = gh) (.slice (some ⟨gh, 0, none⟩) n ch) xs := by
  subst hn
  exact Kd.R_of_own (Kd.own_of_R h) (fun k hk => by simpa [Value.ownBlock] using hk.symm)
set_option maxHeartbeats 8000000 in
set_option maxRecDepth 100000 in
theorem ran_out (a0 : Int) (a1 : ByteArray) (w : World) (h : a0 < 1 ∨ 8 < a0) : Calls Try.prog 46 #[.int .i64 a0, .string a1] w (RanP w a0 a1) := by
  have hr : Hd.ranS a0 (bytesOf a1) = none := by rw [Hd.ranS, if_pos h]
  by_cases h1 : a0 < 1
  · go_enter Try.func46, Try.ntmps46
    go_wp2
    all_goals go_ret
    all_goals exact RanP.no hr (Below.refl _ _)
  · have h8 : 8 < a0 := by omega
    go_enter Try.func46, Try.ntmps46
    go_wp2
    all_goals go_ret
    all_goals exact RanP.no hr (Below.refl _ _)
set_option maxHeartbeats 8000000 in
set_option maxRecDepth 100000 in
theorem ran_in (n : Nat) (a1 : ByteArray) (w : World) (h1 : 1 ≤ n) (h8 : n ≤ 8) (hs : a1.size ≤ 140737488351232) : Calls Try.prog 46 #[.int .i64 n, .string a1] w (RanP w n a1) := by
  have hr : Hd.ranS n (bytesOf a1) = (Hd.runM (bytesOf a1) (Hd.St.start n)).bind fun s => if s.nx < n ∨ s.ws.length ≠ 1 then none else some s := by rw [Hd.ranS, if_neg (by omega)]; rfl
  have HR := Aside0.mk hr
  clear hr
  have l1 : ¬ ((n : Int) < 1) := by omega
  have l8 : ¬ ((n : Int) > 8) := by omega
  go_enter Try.func46, Try.ntmps46
  go_wp2_with ((with_reducible refine gate_dst (N := 14) rfl ?_); refine Kd.R_make (Kd.int .i64) _ 3 rfl (N := 14) rfl 29 _ _ rfl (n : Int) rfl rfl Try.underlying29 (.int .i64 0) 8 info3 rfl (by decide) (by omega) 0 (ok := fun _ => True) (okp := fun _ => True) rfl (fun _ hk => hk) trivial (by omega) (by omega) (Below.refl _ _) (Nat.le_refl _) ?_; intro v1 w6 ho hb hg_ hnew_; clear hg_ hnew_; rw [Int.toNat_natCast] at ho; obtain ⟨gh, ch, ev, hgb, hgl, -⟩ := Kd.R_form ho (by rw [List.length_replicate]; omega); rw [List.length_replicate] at ev; subst ev; have HO := Aside0.mk ho; have HB := Aside0.mk hb; clear ho hb)
  have hgbl : w.heap.size ≤ w6.heap.size := HB.out.size
  have hS : Stk w w6.heap.size gh ch (Hd.St.start n) (w6.alloc (.cells #[.slice none 0 0, .int .i64 0, .slice (some ⟨gh, 0, none⟩) n ch, .int .i64 0] 52)) := by
    refine ⟨none, 0, ?_, below_alloc HB.out _, Kd.R_nil _ _ _ _ _, ?_⟩
    · rw [show (Hd.St.start n).hs.length = n from by simp [Hd.St.start]]; exact blk_new _ _
    · rw [show (Hd.St.start n).hs.length = n from by simp [Hd.St.start]]
      exact own_at_block (Kd.R_alloc (Kd.R_lower HO.out (Nat.le_refl _)) _) (by simp [Hd.St.start])
  obtain ⟨g, hg⟩ : ∃ g, g = w6.heap.size := ⟨_, rfl⟩
  rw [← hg] at hS hgbl ⊢
  have hneg : g ≠ gh := by omega
  generalize w6.alloc (.cells #[.slice none 0 0, .int .i64 0, .slice (some ⟨gh, 0, none⟩) n ch, .int .i64 0] 52) = W at hS ⊢
  have HG := Aside0.mk hgbl
  have HNE := Aside0.mk hneg
  have HS := Aside0.mk hS
  clear hg hgl hgb hgbl hneg hS HO HB
  go_loopw [19] (fun i wr => RanI w g gh ch n a1 i wr) (fun i _ => a1.size - (intOf i).toNat)
  case atStart => exact ⟨0, Nat.zero_le _, rfl, Hd.St.start n, by simp [Hd.runM], Hd.St.OK.start h8, HS.out⟩
  case round =>
    obtain ⟨k, hk, rfl, s, hrun, ok, S⟩ := hrel
    have HRUN := Aside0.mk hrun
    have HOK := Aside0.mk ok
    clear hrun ok HS
    have HSS := Aside0.mk S
    clear S
    by_cases hlt : k < a1.size
    · cases hm : Hd.moveS ((a1[k]).toNat : Int) s with
      | some s' =>
        have HM := Aside0.mk hm
        clear hm
        go_wp2_with (go_at_call 54; refine (HSS.out.move HOK.out HG.out HNE.out HM.out).mono ?_; rintro e w' ⟨rfl, S'⟩)
        go_roundw
        case rel => exact ⟨k + 1, by omega, by go_num, s', run_snoc a1 k hlt s s' HRUN.out HM.out, HOK.out.move HM.out, S'⟩
        case measure => simp [intOf]; omega
      | none =>
        have HM := Aside0.mk hm
        clear hm
        go_wp2_with (go_at_call 54; refine (HSS.out.move_not HM.out).mono ?_; rintro e w' ⟨rfl, nd, rfl⟩)
        go_ret
        obtain ⟨_, _, _, hB, _⟩ := HSS.out
        exact RanP.no (by rw [HR.out, run_stop a1 k hlt s HRUN.out HM.out]; rfl) (pw_below_drewN hB _)
    · obtain rfl : k = a1.size := by omega
      obtain ⟨A, c, hb, hB, -, -⟩ := id HSS.out
      obtain ⟨h0, h1', h2, h3⟩ := cells4 hb
      have hrw := HRUN.out
      rw [bytes_full] at hrw
      by_cases c1 : s.nx < n
      · have c1' : decide (s.nx < (n : Int)) = true := decide_eq_true c1
        have HN := Aside0.mk (show Hd.ranS n (bytesOf a1) = none by rw [HR.out, hrw]; simp [c1])
        have HB := Aside0.mk hB
        clear hrw hb hB
        go_wp2
        go_ret
        exact RanP.no HN.out HB.out
      · have c1' : decide (s.nx < (n : Int)) = false := decide_eq_false c1
        by_cases c2 : s.ws.length = 1
        · have HN := Aside0.mk (show Hd.ranS n (bytesOf a1) = some s by rw [HR.out, hrw]; simp [c2]; omega)
          have HB := Aside0.mk hB
          clear hrw hb hB
          have c2' : ((s.ws.length : Int) != 1) = false := by simp [c2]
          rw [c2] at h0 
          clear c2 c2'
          go_wp2
          go_ret
          exact RanP.yes HN.out HSS.out HG.out HNE.out
        · have HN := Aside0.mk (show Hd.ranS n (bytesOf a1) = none by rw [HR.out, hrw]; simp [c2])
          have HB := Aside0.mk hB
          clear hrw hb hB
          have c2' : ((s.ws.length : Int) != 1) = true := by simp; omega
          clear c2
          go_wp2
          go_ret
          exact RanP.no HN.out HB.out
theorem ran_all (a0 : Int) (a1 : ByteArray) (w : World) (hs : a1.size ≤ 140737488351232) : Calls Try.prog 46 #[.int .i64 a0, .string a1] w (RanP w a0 a1) := by
  by_cases h : a0 < 1 ∨ 8 < a0
  · exact ran_out a0 a1 w h
  · obtain ⟨n, rfl⟩ : ∃ n : Nat, a0 = n := ⟨a0.toNat, by omega⟩
    exact ran_in n a1 w (by omega) (by omega) hs
/-- RunStack's answer. -/
def runF (a0 : Int) (a1 : ByteArray) : List Int × Bool := match Hd.ranS a0 (bytesOf a1) with
  | none => ([], false)
  | some s => (s.hs, true)
def RunP (w : World) (r : List Int × Bool) (e : Ending) (w' : World) : Prop := ∃ v0_ : Value, e = .returned (.tuple #[v0_, .bool r.2]) ∧ Kd.R (Kd.int .i64) 3 w' w.heap.size (fun _ => True) v0_ r.1 ∧ Below w.heap.size w w'
set_option maxHeartbeats 8000000 in
set_option maxRecDepth 100000 in
theorem run_stack (a0 : Int) (a1 : ByteArray) (w : World) (hs : a1.size ≤ 140737488351232) : Calls Try.prog 20 #[.int .i64 a0, .string a1] w (RunP w (runF a0 a1)) := by
  have hc := ran_all a0 a1 w hs
  unfold RanP at hc
  unfold runF
  cases hr : Hd.ranS a0 (bytesOf a1) with
  | none =>
    rw [hr] at hc
    clear hr
    go_enter Try.func20, Try.ntmps20
    go_wp2_with (go_at_call 46; refine hc.mono ?_; rintro e w' ⟨rfl, hb⟩)
    go_ret2
    exact ⟨_, rfl, Kd.R_nil _ _ _ _ _, hb⟩
  | some s =>
    rw [hr] at hc
    clear hr
    go_enter Try.func20, Try.ntmps20
    go_wp2_with (go_at_call 46; refine hc.mono ?_; rintro e w' ⟨g, gh, ch, rfl, ⟨A, c, hb, hB, hR, hH⟩, hg, hne⟩; obtain ⟨h0, h1, h2, h3⟩ := cells4 hb; have HB := Aside0.mk hB; have HH := Aside0.mk hH; clear hb hB hR hH hg hne h0 h1 h3)
    go_ret2
    exact ⟨_, rfl, Kd.R_mono HH.out (fun _ _ => trivial), HB.out⟩
end Go.Proofs.Ytdckgafgidfplaa.Mach
