/- The machine with a stack: what push does (the memory side). -/
import Derived.Test.YtdckgafgidfplaaProg
import Derived.Below
import Derived.Deep.Draws
import Derived.Deep.AppendLies
import Derived.Maps.AppendAt
import Derived.OwnWalk
import Derived.Laws.BytesArg
import Derived.Laws.MakeOwn
import Derived.Laws.OwnMore
import Derived.Deep.OwnRows
import Derived.Tactics
import Derived.Lib.ConvBytes
import Derived.Laws.Slices
import Derived.WalkKit
import Derived.KernelRfl
import Derived.RowKit3
import Derived.Deep.LoopGhost
import Derived.Deep.QuietTactic
import Derived.BigQuiet
import Derived.WideLaws
import Derived.Deep.DeepCutAuto
import Derived.Deep.CutBlock
import Derived.Deep.RegionHeld3
import Derived.Deep.RegionLaw
import Derived.Laws.Rows
import Derived.Lib.AppendStr
import Derived.ArgAppend
import Derived.OrdersHeld
import Derived.RowKit
import Derived.Test.YtdckgafgidfplaaWWords
import Derived.Test.YtdckgafgidfplaaWLast
import Derived.Test.YtdckgafgidfplaaWQPut
import Derived.Test.YtdckgafgidfplaaWMore
import Derived.Test.YtdckgafgidfplaaHdC
namespace Go.Proofs.Ytdckgafgidfplaa.Mach
open Go.RowKit Go.Proofs.YtdckgafgidfplaaW.PrintWords Go.Proofs.YtdckgafgidfplaaW.PrintLast Go.Proofs.YtdckgafgidfplaaW.PrintMore
attribute [local go_sem] max2_int min2_int max_two min_two max_three min_three max_four min_four
set_option linter.unusedVariables false
set_option linter.unusedSimpArgs false
theorem info3 : (Try.prog.info? 3).map (fun i => (i.zero, i.size, i.bytes)) = some (some (.int .i64 0), 1, 8) := by kernel_rfl
theorem cells4 {w : World} {g : Nat} {a b c d : Value} {t : TypeId} (h : w.heap[g]? = some (.cells #[a, b, c, d] t (0, 0))) : w.cell? ⟨g, 0, none⟩ = some a ∧ w.cell? ⟨g, 1, none⟩ = some b ∧ w.cell? ⟨g, 2, none⟩ = some c ∧ w.cell? ⟨g, 3, none⟩ = some d := by
  simp [World.cell?, h]
/-- push says no where no word is left. -/
def Same (b : Bool) (w : World) (e : Ending) (w' : World) : Prop := e = .returned (.bool b) ∧ ∃ m, w' = w.drewN m
set_option maxHeartbeats 8000000 in
set_option maxRecDepth 100000 in
theorem push_no (w : World) (g : Nat) (A1 A2 : Option Addr) (n1 c1 n2 c2 : Nat) (nx dp : Int) (hb : w.heap[g]? = some (.cells #[.slice A1 n1 c1, .int .i64 nx, .slice A2 n2 c2, .int .i64 dp] 52 (0, 0))) (he : nx = (n2 : Int)) :
    Calls Try.prog 76 #[.pointer (some ⟨g, 0, none⟩)] w (Same false w) := by
  obtain ⟨h0, h1, h2, h3⟩ := cells4 hb
  subst he
  go_enter Try.func76, Try.ntmps76
  go_wp2
  go_region_held3 (fun w' => w'.cell? ⟨g, 1, none⟩ = some (.int .i64 (n2 : Int)) ∧ w'.cell? ⟨g, 2, none⟩ = some (.slice A2 n2 c2)) (go_keep) (fail)
  all_goals go_wp2
  all_goals go_ret
  all_goals exact ⟨rfl, 1, rfl⟩
def Pushed (w0 : World) (g : Nat) (A2 : Option Addr) (n2 c2 : Nat) (ws : List Int) (nx dp : Int) (ok : Nat → Prop) (gh : Nat) (hs : List Int) (okh : Nat → Prop) (e : Ending) (w' : World) : Prop :=
  e = .returned (.bool true) ∧ ∃ v', w'.heap[g]? = some (.cells #[v', .int .i64 (nx + 1), .slice A2 n2 c2, .int .i64 (mx dp (ws.length + 1))] 52 (0, 0)) ∧ Below w0.heap.size w0 w' ∧ Kd.R (Kd.int .i64) 3 w' w0.heap.size ok v' (ws ++ [nx + 1]) ∧ Kd.R (Kd.int .i64) 3 w' w0.heap.size okh (.slice A2 n2 c2) hs
set_option maxHeartbeats 8000000 in
set_option maxRecDepth 100000 in
theorem push_yes (w0 w : World) (g : Nat) (v1 : Value) (ws : List Int) (A2 : Option Addr) (n2 c2 : Nat) (nx dp : Int) (ok : Nat → Prop) (gh : Nat) (hs : List Int) (okh : Nat → Prop)
    (hb : w.heap[g]? = some (.cells #[v1, .int .i64 nx, .slice A2 n2 c2, .int .i64 dp] 52 (0, 0))) (hB : Below w0.heap.size w0 w) (hg0 : w0.heap.size ≤ g)
    (hok : ∀ k, ok k → k ≠ g) (hR : Kd.R (Kd.int .i64) 3 w w0.heap.size ok v1 ws) (hH : Kd.R (Kd.int .i64) 3 w w0.heap.size okh (.slice A2 n2 c2) hs) (hokh : ∀ k, okh k → k ≠ g ∧ ¬ ok k) (hfr : ∀ k, w.heap.size ≤ k → ok k)
    (hne : ¬ nx = (n2 : Int)) (hnx : 0 ≤ nx ∧ nx ≤ 100) (hl : ws.length ≤ 100) :
    Calls Try.prog 76 #[.pointer (some ⟨g, 0, none⟩)] w (Pushed w0 g A2 n2 c2 ws nx dp ok gh hs okh) := by
  obtain ⟨Ao1, co1, eo1⟩ := Kd.R_slice hR
  subst eo1
  obtain ⟨h0, h1, h2, h3⟩ := cells4 hb
  have f0 := blk_frozen hb 0
  have f1 := blk_frozen hb 1
  have f3 := blk_frozen hb 3
  have hb1 : (w.setCell ⟨g, 1, none⟩ (.int .i64 (nx + 1))).heap[g]? = some (.cells #[(.slice Ao1 ws.length co1 : Value), .int .i64 (nx + 1), .slice A2 n2 c2, .int .i64 dp] 52 (0, 0)) := blk_put hb 1 _ (by simp)
  have hR1 := Kd.R_far hR (p := ⟨g, 1, none⟩) hok (.int .i64 (nx + 1))
  have hH1 := Aside0.mk (Kd.R_far hH (p := ⟨g, 1, none⟩) (fun k h => (hokh k h).1) (.int .i64 (nx + 1)))
  clear hH
  have hB1 : Below w0.heap.size w0 (w.setCell ⟨g, 1, none⟩ (.int .i64 (nx + 1))) := below_set hB hg0
  go_enter Try.func76, Try.ntmps76
  go_wp2
  go_region_held3 (fun w' => w'.cell? ⟨g, 1, none⟩ = some (.int .i64 nx) ∧ w'.cell? ⟨g, 2, none⟩ = some (.slice A2 n2 c2)) (go_keep) (fail)
  go_wp2
  have hfr1 : ∀ k, (w.setCell ⟨g, 1, none⟩ (.int .i64 (nx + 1))).heap.size ≤ k → ok k := fun k h => hfr k (by simpa using h)
  generalize w.setCell ⟨g, 1, none⟩ (.int .i64 (nx + 1)) = W1 at hb1 hR1 hB1 hfr1 hH1 ⊢
  obtain ⟨k0, k1, k2, k3⟩ := cells4 hb1
  have e0 := blk_frozen hb1 0
  have hgne : some g ≠ (Value.slice Ao1 ws.length co1).ownBlock := fun e => hok g (hR.1 g e.symm) rfl
  have hhne := Aside0.mk (show ∀ k, okh k → some k ≠ (Value.slice Ao1 ws.length co1).ownBlock from fun k h e => (hokh k h).2 (hR.1 k e.symm))
  have new0 := World.new_ne W1 _ k0
  have hlt := blk_lt hb1
  have hng : ¬ g = W1.heap.size := by omega
  have ka0 : (W1.alloc (.cells #[.int .i64 (nx + 1)] 3)).cell? ⟨g, 0, none⟩ = some (.slice Ao1 ws.length co1) := (blk_cell (blk_alloc hb1 _) 0).trans rfl
  have new1 := World.new_ne W1 _ k1
  go_region_law ((refine Kd.R_append_step (Kd.int .i64) (w0 := w0) (W := W1.drew.drew) w0.heap.size (by rfl) (.tmp 24) (.tmp 29) 29 3 (.int .i64 0) 8 (by rfl) Try.underlying29 info3 (by rfl) (by decide) (by omega) (.slice Ao1 ws.length co1 : Value) ws (nx + 1) [.int .i64 (nx + 1)] ok (fun _ => False) (by rfl) (by rfl) (by first | exact rfl | exact ⟨rfl, trivial⟩ | simp [Kd.M, Kd.int]) (fun _ h => h.elim) hfr1 (by (with_reducible repeat (first | apply Kd.R_alloc | apply Kd.R_drewN | apply Kd.R_drew)); exact hR1) (by repeat (first | (with_reducible first | exact hB1 | apply below_alloc | apply pw_below_drewN | apply below_drew1) | exact hB1)) (below_size (by repeat (first | (with_reducible first | exact hB1 | apply below_alloc | apply pw_below_drewN | apply below_drew1) | exact hB1))) (by omega) ?_; intro v2 w2 ho2 hb2 hg2 hat2; obtain ⟨Ao2, co2, eo2⟩ := Kd.R_slice ho2; subst eo2; have hbz := blk_grown (w := W1.drew.drew) hb1 hg2 hgne; have hH2 := Aside0.mk (Kd.R_grown (w := W1.drew.drew) (Kd.R_drew (Kd.R_drew hH1.out)) hg2 hhne.out); have ez := blk_frozen hbz 0; have kz : w2.cell? ⟨g, 0, none⟩ = some (.slice Ao1 ws.length co1) := (blk_cell hbz 0).trans rfl; have kz1 : w2.cell? ⟨g, 1, none⟩ = some (.int .i64 (nx + 1)) := (blk_cell hbz 1).trans rfl))
  all_goals
    have hb3 : (w2.setCell ⟨g, 0, none⟩ (.slice Ao2 (ws.length + 1) co2)).heap[g]? = some (.cells #[.slice Ao2 (ws.length + 1) co2, .int .i64 (nx + 1), .slice A2 n2 c2, .int .i64 dp] 52 (0, 0)) := blk_put hbz 0 _ (by simp)
    have hR3 := Kd.R_far ho2 (p := ⟨g, 0, none⟩) hok (.slice Ao2 (ws.length + 1) co2)
    have hH3 := Aside0.mk (Kd.R_far hH2.out (p := ⟨g, 0, none⟩) (fun k h => (hokh k h).1) (.slice Ao2 (ws.length + 1) co2))
    have hB3 : Below w0.heap.size w0 (w2.setCell ⟨g, 0, none⟩ (.slice Ao2 (ws.length + 1) co2)) := below_set hb2 hg0
    go_wp2
    simp only [List.length_append, List.length_singleton] at *
    generalize w2.setCell ⟨g, 0, none⟩ (.slice Ao2 (ws.length + 1) co2) = W3 at hb3 hR3 hB3 hH3 ⊢
    obtain ⟨m0, m1, m2, m3⟩ := cells4 hb3
    have d3 := blk_frozen hb3 3
    have hfin : ∀ m : Int, (W3.setCell ⟨g, 3, none⟩ (.int .i64 m)).heap[g]? = some (.cells #[.slice Ao2 (ws.length + 1) co2, .int .i64 (nx + 1), .slice A2 n2 c2, .int .i64 m] 52 (0, 0)) := fun m => blk_put hb3 3 _ (by simp)
    have hRf := fun m : Int => Kd.R_far hR3 (p := ⟨g, 3, none⟩) hok (.int .i64 m)
    have hHf := Aside0.mk (fun m : Int => Kd.R_far hH3.out (p := ⟨g, 3, none⟩) (fun k h => (hokh k h).1) (.int .i64 m))
    have hBf : ∀ m : Int, Below w0.heap.size w0 (W3.setCell ⟨g, 3, none⟩ (.int .i64 m)) := fun m => below_set hB3 hg0
    go_region_law (fail)
  all_goals go_wp2
  all_goals go_ret
  all_goals unfold Pushed
  all_goals first
    | (rw [show mx dp ((ws.length : Int) + 1) = dp from by unfold mx; split <;> omega]; exact ⟨rfl, _, hfin dp, below_drew1 (hBf dp), Kd.R_drew (hRf dp), Kd.R_drew (hHf.out dp)⟩)
    | (rw [show mx dp ((ws.length : Int) + 1) = (ws.length : Int) + 1 from by unfold mx; split <;> omega]; exact ⟨rfl, _, hfin _, below_drew1 (hBf _), Kd.R_drew (hRf _), Kd.R_drew (hHf.out _)⟩)
end Go.Proofs.Ytdckgafgidfplaa.Mach
