/- The machine with a stack: what move does (the memory side). -/
import Derived.Test.YtdckgafgidfplaaProg
import Derived.Below
import Derived.Deep.Draws
import Derived.Deep.AppendLies
import Derived.Maps.AppendAt
import Derived.OwnWalk
import Derived.Laws.BytesArg
import Derived.Laws.MakeOwn
import Derived.Laws.OwnMore
import Derived.Deep.OwnRows
import Derived.Tactics
import Derived.Lib.ConvBytes
import Derived.Laws.Slices
import Derived.WalkKit
import Derived.KernelRfl
import Derived.RowKit3
import Derived.Deep.LoopGhost
import Derived.Deep.QuietTactic
import Derived.BigQuiet
import Derived.WideLaws
import Derived.Deep.DeepCutAuto
import Derived.Deep.CutBlock
import Derived.Deep.RegionHeld3
import Derived.Deep.RegionLaw
import Derived.Laws.Rows
import Derived.Lib.AppendStr
import Derived.ArgAppend
import Derived.OrdersHeld
import Derived.RowKit
import Derived.Test.YtdckgafgidfplaaWWords
import Derived.Test.YtdckgafgidfplaaWLast
import Derived.Test.YtdckgafgidfplaaWQPut
import Derived.Test.YtdckgafgidfplaaWMore
import Derived.Test.YtdckgafgidfplaaHdC
import Derived.Test.YtdckgafgidfplaaM0
namespace Go.Proofs.Ytdckgafgidfplaa.Mach
open Go.RowKit Go.Proofs.YtdckgafgidfplaaW.PrintWords Go.Proofs.YtdckgafgidfplaaW.PrintLast Go.Proofs.YtdckgafgidfplaaW.PrintMore
attribute [local go_sem] max2_int min2_int max_two min_two max_three min_three max_four min_four
set_option linter.unusedVariables false
set_option linter.unusedSimpArgs false
/-- The machine lies in block g: its words in a row of their own, its heads in block gh. -/
def Stk (w0 : World) (g gh ch : Nat) (s : Hd.St) (w : World) : Prop :=
  ∃ (A : Option Addr) (c : Nat), w.heap[g]? = some (.cells #[.slice A s.ws.length c, .int .i64 s.nx, .slice (some ⟨gh, 0, none⟩) s.hs.length ch, .int .i64 s.dp] 52 (0, 0)) ∧ Below w0.heap.size w0 w ∧ Kd.R (Kd.int .i64) 3 w w0.heap.size (fun k => k ≠ g ∧ k ≠ gh) (.slice A s.ws.length c) s.ws ∧ Kd.R (Kd.int .i64) 3 w w0.heap.size (fun k => k = gh) (.slice (some ⟨gh, 0, none⟩) s.hs.length ch) s.hs
def Did (b : Bool) (w0 : World) (g gh ch : Nat) (s : Hd.St) (e : Ending) (w' : World) : Prop := e = .returned (.bool b) ∧ Stk w0 g gh ch s w'
theorem stk_mk {w0 w1 : World} {g gh ch c3 M n : Nat} {a : Value} {A3 : Option Addr} {xs hs : List Int} {nx dp : Int} (hne : g ≠ gh) (hg0 : w0.heap.size ≤ g)
    (hz : w1.heap[g]? = some (.cells #[a, .int .i64 nx, .slice (some ⟨gh, 0, none⟩) M ch, .int .i64 dp] 52 (0, 0))) (hb : Below w0.heap.size w0 w1)
    (ho : Kd.R (Kd.int .i64) 3 w1 w0.heap.size (fun k => k ≠ g ∧ k ≠ gh) (.slice A3 xs.length c3) xs) (hh : Kd.R (Kd.int .i64) 3 w1 w0.heap.size (fun k => k = gh) (.slice (some ⟨gh, 0, none⟩) hs.length ch) hs)
    (hM : M = hs.length) (hn : n = xs.length) : Stk w0 g gh ch ⟨xs, nx, hs, dp⟩ (w1.setCell ⟨g, 0, none⟩ (.slice A3 n c3)) := by
  subst hM hn
  exact ⟨A3, c3, blk_put hz 0 _ (by simp), below_set hb hg0, Kd.R_far ho (p := ⟨g, 0, none⟩) (fun k hk => hk.1) _, Kd.R_far hh (p := ⟨g, 0, none⟩) (fun k hk => by subst hk; exact hne.symm) _⟩
set_option maxHeartbeats 8000000 in
set_option maxRecDepth 100000 in
theorem move_L (w0 w : World) (g gh ch n : Nat) (s : Hd.St) (o : s.OK n) (hg0 : w0.heap.size ≤ g) (hne : g ≠ gh) (S : Stk w0 g gh ch s w) (h2 : 2 ≤ s.ws.length) :
    Calls Try.prog 54 #[.pointer (some ⟨g, 0, none⟩), .int .u8 76] w (Did true w0 g gh ch (Hd.leftS s)) := by
  have olow := o.low h2
  have otop := o.top (by omega)
  have olen := o.len
  have o8 := o.n8
  have hfin : Hd.leftS s = ⟨s.ws.take (s.ws.length - 2) ++ [Hd.topW s], s.nx, s.hs.set (Hd.lowW s - 1).toNat (Hd.topW s), s.dp⟩ := rfl
  have HF := Aside0.mk hfin
  clear hfin
  obtain ⟨A, c, hb, hB, hR, hH⟩ := S
  obtain ⟨b, hbd⟩ : ∃ b, b = Hd.lowW s := ⟨_, rfl⟩
  obtain ⟨u, hud⟩ : ∃ u, u = Hd.topW s := ⟨_, rfl⟩
  rw [← hbd] at olow
  rw [← hud] at otop
  obtain ⟨N, hN⟩ : ∃ N, N = s.ws.length := ⟨_, rfl⟩
  obtain ⟨j2, hj2⟩ : ∃ j : Int, wrap64 ((N : Int) - 2) = j := ⟨_, rfl⟩
  obtain ⟨j1, hj1⟩ : ∃ j : Int, wrap64 ((N : Int) - 1) = j := ⟨_, rfl⟩
  have hwl : s.ws.length ≤ 8 := by have := o.wl; have := o.nx1; omega
  have q2 : j2 = (N : Int) - 2 := by rw [← hj2]; unfold wrap64; omega
  have q1 : j1 = (N : Int) - 1 := by rw [← hj1]; unfold wrap64; omega
  have hw2 : (IntKind.i64.wrap ((N : Int) - 2)) = j2 := (i64_w _).trans hj2
  have hw1 : (IntKind.i64.wrap ((N : Int) - 1)) = j1 := (i64_w _).trans hj1
  have hcN := (Kd.R_reads' hR).2.1
  obtain ⟨ad, ea, xb⟩ := Kd.at_int (Kd.R_reads' hR).2.2 j2 (by omega) (by omega)
  obtain ⟨ad', ea', xu⟩ := Kd.at_int (Kd.R_reads' hR).2.2 j1 (by omega) (by omega)
  subst ea
  obtain rfl := Option.some.inj ea'
  rw [show rd s.ws j2 = b from by rw [hbd, Hd.lowW, rd, show j2.toNat = s.ws.length - 2 by omega]] at xb
  rw [show rd s.ws j1 = u from by rw [hud, Hd.topW, rd, show j1.toNat = s.ws.length - 1 by omega]] at xu
  rw [← hN] at hb hR hcN
  have HT : Aside0 (s.ws.length - 2 = j2.toNat) := ⟨by omega⟩
  have p2 : 0 ≤ j2 := by omega
  have p1 : 0 ≤ j1 := by omega
  have r2 : j2 < (N : Int) := by omega
  have r1 : j1 < (N : Int) := by omega
  have HN := Aside0.mk hN
  have Q2 := Aside0.mk q2
  have hN2 : ¬ (N : Int) < 2 := by omega
  have hN2' : decide ((N : Int) < 2) = false := decide_eq_false hN2
  obtain ⟨i3, hi3, _⟩ := info_parts info3
  have hcut := cut_to (P := Try.prog) 29 3 .i64 Try.underlying29 hi3 (some ad) N c j2 p2 (by omega) hcN
  have hRt := Kd.R_take hR (m := j2.toNat) (by omega)
  -- the heads' cell
  obtain ⟨M, hM⟩ : ∃ M, M = s.hs.length := ⟨_, rfl⟩
  have hlow : 1 ≤ b ∧ b ≤ (M : Int) := by omega
  obtain ⟨jl, hjl⟩ : ∃ j : Int, wrap64 (b - 1) = j := ⟨_, rfl⟩
  have hjw : (IntKind.i64.wrap (b - 1)) = jl := (i64_w _).trans hjl
  have hjv : jl = b - 1 := by rw [← hjl]; unfold wrap64; omega
  have hl0 : 0 ≤ jl := by omega
  have hl1 : jl < (M : Int) := by omega
  obtain ⟨xh, fh⟩ := Kd.R_cell (0 : Int) hH jl hl0 (by omega)
  have hHp := Kd.R_put hH jl u
  rw [← hM] at hb hHp hH
  obtain ⟨h0, h1, hc2, h3⟩ := cells4 hb
  have f0 := blk_frozen hb 0
  have hgl := blk_lt hb
  have hghl : gh < w.heap.size := Kd.R_lt hH gh rfl
  have hnegh : ¬ gh = g := fun e => hne e.symm
  have hneg : ¬ g = gh := hne
  -- the world behind both stores
  have hbS : ((w.setCell ⟨g, 0, none⟩ (.slice (some ad) j2.toNat c)).setCell ⟨gh, jl.toNat, none⟩ (.int .i64 u)).heap[g]? = some (.cells #[.slice (some ad) j2.toNat c, .int .i64 s.nx, .slice (some ⟨gh, 0, none⟩) M ch, .int .i64 s.dp] 52 (0, 0)) :=
    blk_far (blk_put hb 0 _ (by simp)) (p := ⟨gh, jl.toNat, none⟩) hne _
  have hRS : Kd.R (Kd.int .i64) 3 ((w.setCell ⟨g, 0, none⟩ (.slice (some ad) j2.toNat c)).setCell ⟨gh, jl.toNat, none⟩ (.int .i64 u)) w0.heap.size (fun k => k ≠ g ∧ k ≠ gh) (.slice (some ad) j2.toNat c) (s.ws.take j2.toNat) :=
    Kd.R_far (Kd.R_far hRt (p := ⟨g, 0, none⟩) (fun k hk => hk.1) _) (p := ⟨gh, jl.toNat, none⟩) (fun k hk => hk.2) _
  have hBS : Below w0.heap.size w0 ((w.setCell ⟨g, 0, none⟩ (.slice (some ad) j2.toNat c)).setCell ⟨gh, jl.toNat, none⟩ (.int .i64 u)) := below_set (below_set hB hg0) (Kd.R_base hH gh rfl)
  have hHS : Kd.R (Kd.int .i64) 3 ((w.setCell ⟨g, 0, none⟩ (.slice (some ad) j2.toNat c)).setCell ⟨gh, jl.toNat, none⟩ (.int .i64 u)) w0.heap.size (fun k => k = gh) (.slice (some ⟨gh, 0, none⟩) (s.hs.set jl.toNat u).length ch) (s.hs.set jl.toNat u) := by
    have h := Kd.R_far hH (p := ⟨g, 0, none⟩) (fun k hk => by subst hk; exact hnegh) (.slice (some ad) j2.toNat c)
    rw [hM] at h
    rw [List.length_set]
    exact (Kd.R_put h jl u).1
  have hszS : ((w.setCell ⟨g, 0, none⟩ (.slice (some ad) j2.toNat c)).setCell ⟨gh, jl.toNat, none⟩ (.int .i64 u)).heap.size = w.heap.size := by simp [World.setCell]
  have HbS := Aside0.mk hbS
  have HRS := Aside0.mk hRS
  have HBS := Aside0.mk hBS
  have HHS := Aside0.mk hHS
  have HZ := Aside0.mk hszS
  have HLM := Aside0.mk hM
  have HNG := Aside0.mk (show some g ≠ (Value.slice (some ad) j2.toNat c).ownBlock from fun e => (hR.1 g (by simpa [Value.ownBlock] using e.symm)).1 rfl)
  have HNH := Aside0.mk (show some gh ≠ (Value.slice (some ad) j2.toNat c).ownBlock from fun e => (hR.1 gh (by simpa [Value.ownBlock] using e.symm)).2 rfl)
  have HTL := Aside0.mk (show (s.ws.take j2.toNat).length = j2.toNat from by rw [List.length_take]; omega)
  have HL8 := Aside0.mk (show (s.ws.take j2.toNat).length ≤ 8 from by rw [List.length_take]; omega)
  have HBD := Aside0.mk hbd
  have HUD := Aside0.mk hud
  have HJL := Aside0.mk hjv
  have HFR := Aside0.mk (show ∀ k, ((w.setCell ⟨g, 0, none⟩ (.slice (some ad) j2.toNat c)).setCell ⟨gh, jl.toNat, none⟩ (.int .i64 u)).heap.size ≤ k → k ≠ g ∧ k ≠ gh from fun k hk => by rw [hszS] at hk; constructor <;> omega)
  clear hbS hRS hBS hHS hszS hM hR hH hHp hRt hB hbd hud q2 q1 hN hj2 hj1 olen hjv hjl hlow olow otop
  go_enter Try.func54, Try.ntmps54
  go_wp2
  go_region_held3 (fun w' => w'.cell? ⟨g, 0, none⟩ = some (.slice (some ad) N c) ∧ w'.cell? (ad.add j2.toNat) = some (.int .i64 b) ∧ w'.cell? (ad.add j1.toNat) = some (.int .i64 u)) (go_keep) (fail)
  all_goals go_wp2_with ((with_reducible refine gate_builtin (b := .append) (xs := #[.tmp 67, .tmp 69]) rfl ?_); at_builtin; refine Kd.R_append (Kd.int .i64) (w0 := w0) (W := ((w.setCell ⟨g, 0, none⟩ (.slice (some ad) j2.toNat c)).setCell ⟨gh, jl.toNat, none⟩ (.int .i64 u)).drew) w0.heap.size rfl (.tmp 67) (.tmp 69) 29 3 (.int .i64 0) 8 rfl Try.underlying29 info3 rfl (by decide) (by omega) (.slice (some ad) j2.toNat c) (s.ws.take j2.toNat) u [.int .i64 u] (fun k => k ≠ g ∧ k ≠ gh) (fun _ => False) rfl ?aX ?aP (fun _ hk => hk.elim) ?aF ?aO ?aB ?aS ?aL ?_; (case aX => exact (congrArg (fun k => Value.slice (some ⟨k, 0, none⟩) 1 1) HZ.out.symm)); (case aP => exact rfl); (case aF => exact HFR.out); (case aO => exact Kd.R_drew HRS.out); (case aB => exact below_drew1 HBS.out); (case aS => exact HBS.out.size); (case aL => have := HL8.out; omega); intro v1 w1 ho hb1 hg1 hat; obtain ⟨A3, c3, e3⟩ := Kd.R_slice ho; subst e3; have hbz := blk_grown (show ((w.setCell ⟨g, 0, none⟩ (.slice (some ad) j2.toNat c)).setCell ⟨gh, jl.toNat, none⟩ (.int .i64 u)).drew.heap[g]? = _ from HbS.out) hg1 HNG.out; have z0 := (cells4 hbz).1; have zf := blk_frozen hbz 0; have Ho := Aside0.mk ho; have Hb1 := Aside0.mk hb1; have Hg1 := Aside0.mk hg1; have Hz := Aside0.mk hbz; clear ho hb1 hg1 hat hbz)
  all_goals go_ret
  all_goals refine ⟨rfl, ?_⟩
  all_goals rw [show Hd.leftS s = ⟨s.ws.take j2.toNat ++ [u], s.nx, s.hs.set jl.toNat u, s.dp⟩ from by rw [HF.out, HT.out, ← HBD.out, ← HUD.out, ← HJL.out]]
  all_goals exact stk_mk hne hg0 Hz.out Hb1.out Ho.out (Kd.R_grown (Kd.R_drew HHS.out) Hg1.out (fun k hk => by rw [hk]; exact HNH.out)) (by rw [List.length_set]; exact HLM.out) (by simp)

set_option maxHeartbeats 8000000 in
set_option maxRecDepth 100000 in
theorem move_R (w0 w : World) (g gh ch n : Nat) (s : Hd.St) (o : s.OK n) (hg0 : w0.heap.size ≤ g) (hne : g ≠ gh) (S : Stk w0 g gh ch s w) (h2 : 2 ≤ s.ws.length) :
    Calls Try.prog 54 #[.pointer (some ⟨g, 0, none⟩), .int .u8 82] w (Did true w0 g gh ch (Hd.rightS s)) := by
  have olow := o.low h2
  have otop := o.top (by omega)
  have olen := o.len
  have o8 := o.n8
  have hfin : Hd.rightS s = ⟨s.ws.take (s.ws.length - 2) ++ [Hd.lowW s], s.nx, s.hs.set (Hd.topW s - 1).toNat (Hd.lowW s), s.dp⟩ := rfl
  have HF := Aside0.mk hfin
  clear hfin
  obtain ⟨A, c, hb, hB, hR, hH⟩ := S
  obtain ⟨b, hbd⟩ : ∃ b, b = Hd.lowW s := ⟨_, rfl⟩
  obtain ⟨u, hud⟩ : ∃ u, u = Hd.topW s := ⟨_, rfl⟩
  rw [← hbd] at olow
  rw [← hud] at otop
  obtain ⟨N, hN⟩ : ∃ N, N = s.ws.length := ⟨_, rfl⟩
  obtain ⟨j2, hj2⟩ : ∃ j : Int, wrap64 ((N : Int) - 2) = j := ⟨_, rfl⟩
  obtain ⟨j1, hj1⟩ : ∃ j : Int, wrap64 ((N : Int) - 1) = j := ⟨_, rfl⟩
  have hwl : s.ws.length ≤ 8 := by have := o.wl; have := o.nx1; omega
  have q2 : j2 = (N : Int) - 2 := by rw [← hj2]; unfold wrap64; omega
  have q1 : j1 = (N : Int) - 1 := by rw [← hj1]; unfold wrap64; omega
  have hw2 : (IntKind.i64.wrap ((N : Int) - 2)) = j2 := (i64_w _).trans hj2
  have hw1 : (IntKind.i64.wrap ((N : Int) - 1)) = j1 := (i64_w _).trans hj1
  have hcN := (Kd.R_reads' hR).2.1
  obtain ⟨ad, ea, xb⟩ := Kd.at_int (Kd.R_reads' hR).2.2 j2 (by omega) (by omega)
  obtain ⟨ad', ea', xu⟩ := Kd.at_int (Kd.R_reads' hR).2.2 j1 (by omega) (by omega)
  subst ea
  obtain rfl := Option.some.inj ea'
  rw [show rd s.ws j2 = b from by rw [hbd, Hd.lowW, rd, show j2.toNat = s.ws.length - 2 by omega]] at xb
  rw [show rd s.ws j1 = u from by rw [hud, Hd.topW, rd, show j1.toNat = s.ws.length - 1 by omega]] at xu
  rw [← hN] at hb hR hcN
  have HT : Aside0 (s.ws.length - 2 = j2.toNat) := ⟨by omega⟩
  have p2 : 0 ≤ j2 := by omega
  have p1 : 0 ≤ j1 := by omega
  have r2 : j2 < (N : Int) := by omega
  have r1 : j1 < (N : Int) := by omega
  have HN := Aside0.mk hN
  have Q2 := Aside0.mk q2
  have hN2 : ¬ (N : Int) < 2 := by omega
  have hN2' : decide ((N : Int) < 2) = false := decide_eq_false hN2
  obtain ⟨i3, hi3, _⟩ := info_parts info3
  have hcut := cut_to (P := Try.prog) 29 3 .i64 Try.underlying29 hi3 (some ad) N c j2 p2 (by omega) hcN
  have hRt := Kd.R_take hR (m := j2.toNat) (by omega)
  -- the heads' cell
  obtain ⟨M, hM⟩ : ∃ M, M = s.hs.length := ⟨_, rfl⟩
  have hlow : 1 ≤ u ∧ u ≤ (M : Int) := by omega
  obtain ⟨jl, hjl⟩ : ∃ j : Int, wrap64 (u - 1) = j := ⟨_, rfl⟩
  have hjw : (IntKind.i64.wrap (u - 1)) = jl := (i64_w _).trans hjl
  have hjv : jl = u - 1 := by rw [← hjl]; unfold wrap64; omega
  have hl0 : 0 ≤ jl := by omega
  have hl1 : jl < (M : Int) := by omega
  obtain ⟨xh, fh⟩ := Kd.R_cell (0 : Int) hH jl hl0 (by omega)
  have hHp := Kd.R_put hH jl b
  rw [← hM] at hb hHp hH
  obtain ⟨h0, h1, hc2, h3⟩ := cells4 hb
  have f0 := blk_frozen hb 0
  have hgl := blk_lt hb
  have hghl : gh < w.heap.size := Kd.R_lt hH gh rfl
  have hnegh : ¬ gh = g := fun e => hne e.symm
  have hneg : ¬ g = gh := hne
  -- the world behind both stores
  have hbS : ((w.setCell ⟨g, 0, none⟩ (.slice (some ad) j2.toNat c)).setCell ⟨gh, jl.toNat, none⟩ (.int .i64 b)).heap[g]? = some (.cells #[.slice (some ad) j2.toNat c, .int .i64 s.nx, .slice (some ⟨gh, 0, none⟩) M ch, .int .i64 s.dp] 52 (0, 0)) :=
    blk_far (blk_put hb 0 _ (by simp)) (p := ⟨gh, jl.toNat, none⟩) hne _
  have hRS : Kd.R (Kd.int .i64) 3 ((w.setCell ⟨g, 0, none⟩ (.slice (some ad) j2.toNat c)).setCell ⟨gh, jl.toNat, none⟩ (.int .i64 b)) w0.heap.size (fun k => k ≠ g ∧ k ≠ gh) (.slice (some ad) j2.toNat c) (s.ws.take j2.toNat) :=
    Kd.R_far (Kd.R_far hRt (p := ⟨g, 0, none⟩) (fun k hk => hk.1) _) (p := ⟨gh, jl.toNat, none⟩) (fun k hk => hk.2) _
  have hBS : Below w0.heap.size w0 ((w.setCell ⟨g, 0, none⟩ (.slice (some ad) j2.toNat c)).setCell ⟨gh, jl.toNat, none⟩ (.int .i64 b)) := below_set (below_set hB hg0) (Kd.R_base hH gh rfl)
  have hHS : Kd.R (Kd.int .i64) 3 ((w.setCell ⟨g, 0, none⟩ (.slice (some ad) j2.toNat c)).setCell ⟨gh, jl.toNat, none⟩ (.int .i64 b)) w0.heap.size (fun k => k = gh) (.slice (some ⟨gh, 0, none⟩) (s.hs.set jl.toNat b).length ch) (s.hs.set jl.toNat b) := by
    have h := Kd.R_far hH (p := ⟨g, 0, none⟩) (fun k hk => by subst hk; exact hnegh) (.slice (some ad) j2.toNat c)
    rw [hM] at h
    rw [List.length_set]
    exact (Kd.R_put h jl b).1
  have hszS : ((w.setCell ⟨g, 0, none⟩ (.slice (some ad) j2.toNat c)).setCell ⟨gh, jl.toNat, none⟩ (.int .i64 b)).heap.size = w.heap.size := by simp [World.setCell]
  have HbS := Aside0.mk hbS
  have HRS := Aside0.mk hRS
  have HBS := Aside0.mk hBS
  have HHS := Aside0.mk hHS
  have HZ := Aside0.mk hszS
  have HLM := Aside0.mk hM
  have HNG := Aside0.mk (show some g ≠ (Value.slice (some ad) j2.toNat c).ownBlock from fun e => (hR.1 g (by simpa [Value.ownBlock] using e.symm)).1 rfl)
  have HNH := Aside0.mk (show some gh ≠ (Value.slice (some ad) j2.toNat c).ownBlock from fun e => (hR.1 gh (by simpa [Value.ownBlock] using e.symm)).2 rfl)
  have HTL := Aside0.mk (show (s.ws.take j2.toNat).length = j2.toNat from by rw [List.length_take]; omega)
  have HL8 := Aside0.mk (show (s.ws.take j2.toNat).length ≤ 8 from by rw [List.length_take]; omega)
  have HBD := Aside0.mk hbd
  have HUD := Aside0.mk hud
  have HJL := Aside0.mk hjv
  have HFR := Aside0.mk (show ∀ k, ((w.setCell ⟨g, 0, none⟩ (.slice (some ad) j2.toNat c)).setCell ⟨gh, jl.toNat, none⟩ (.int .i64 b)).heap.size ≤ k → k ≠ g ∧ k ≠ gh from fun k hk => by rw [hszS] at hk; constructor <;> omega)
  clear hbS hRS hBS hHS hszS hM hR hH hHp hRt hB hbd hud q2 q1 hN hj2 hj1 olen hjv hjl hlow olow otop
  go_enter Try.func54, Try.ntmps54
  go_wp2
  go_region_held3 (fun w' => w'.cell? ⟨g, 0, none⟩ = some (.slice (some ad) N c) ∧ w'.cell? (ad.add j2.toNat) = some (.int .i64 b) ∧ w'.cell? (ad.add j1.toNat) = some (.int .i64 u)) (go_keep) (fail)
  all_goals go_wp2_with ((with_reducible refine gate_builtin (b := .append) (xs := #[.tmp 85, .tmp 87]) rfl ?_); at_builtin; refine Kd.R_append (Kd.int .i64) (w0 := w0) (W := ((w.setCell ⟨g, 0, none⟩ (.slice (some ad) j2.toNat c)).setCell ⟨gh, jl.toNat, none⟩ (.int .i64 b)).drew) w0.heap.size rfl (.tmp 85) (.tmp 87) 29 3 (.int .i64 0) 8 rfl Try.underlying29 info3 rfl (by decide) (by omega) (.slice (some ad) j2.toNat c) (s.ws.take j2.toNat) b [.int .i64 b] (fun k => k ≠ g ∧ k ≠ gh) (fun _ => False) rfl ?aX ?aP (fun _ hk => hk.elim) ?aF ?aO ?aB ?aS ?aL ?_; (case aX => exact (congrArg (fun k => Value.slice (some ⟨k, 0, none⟩) 1 1) HZ.out.symm)); (case aP => exact rfl); (case aF => exact HFR.out); (case aO => exact Kd.R_drew HRS.out); (case aB => exact below_drew1 HBS.out); (case aS => exact HBS.out.size); (case aL => have := HL8.out; omega); intro v1 w1 ho hb1 hg1 hat; obtain ⟨A3, c3, e3⟩ := Kd.R_slice ho; subst e3; have hbz := blk_grown (show ((w.setCell ⟨g, 0, none⟩ (.slice (some ad) j2.toNat c)).setCell ⟨gh, jl.toNat, none⟩ (.int .i64 b)).drew.heap[g]? = _ from HbS.out) hg1 HNG.out; have z0 := (cells4 hbz).1; have zf := blk_frozen hbz 0; have Ho := Aside0.mk ho; have Hb1 := Aside0.mk hb1; have Hg1 := Aside0.mk hg1; have Hz := Aside0.mk hbz; clear ho hb1 hg1 hat hbz)
  all_goals go_ret
  all_goals refine ⟨rfl, ?_⟩
  all_goals rw [show Hd.rightS s = ⟨s.ws.take j2.toNat ++ [b], s.nx, s.hs.set jl.toNat b, s.dp⟩ from by rw [HF.out, HT.out, ← HBD.out, ← HUD.out, ← HJL.out]]
  all_goals exact stk_mk hne hg0 Hz.out Hb1.out Ho.out (Kd.R_grown (Kd.R_drew HHS.out) Hg1.out (fun k hk => by rw [hk]; exact HNH.out)) (by rw [List.length_set]; exact HLM.out) (by simp)

set_option maxHeartbeats 8000000 in
set_option maxRecDepth 100000 in
theorem move_short (w0 w : World) (g gh ch n : Nat) (s : Hd.St) (m : Int) (S : Stk w0 g gh ch s w) (h2 : s.ws.length < 2) (hm : m ≠ 83) :
    Calls Try.prog 54 #[.pointer (some ⟨g, 0, none⟩), .int .u8 m] w (Same false w) := by
  obtain ⟨A, c, hb, -, -, -⟩ := S
  obtain ⟨h0, h1, hc2, h3⟩ := cells4 hb
  have m83 : ((m : Int) == 83) = false := by simpa using hm
  have l2 : decide ((s.ws.length : Int) < 2) = true := by simp; omega
  have l2' : (s.ws.length : Int) < 2 := by omega
  clear hm
  go_enter Try.func54, Try.ntmps54
  go_wp2
  all_goals go_ret
  all_goals exact ⟨rfl, 0, rfl⟩
set_option maxHeartbeats 8000000 in
set_option maxRecDepth 100000 in
theorem move_other (w0 w : World) (g gh ch n : Nat) (s : Hd.St) (m : Int) (S : Stk w0 g gh ch s w) (hm : m ≠ 83) (hm1 : m ≠ 76) (hm2 : m ≠ 82) :
    Calls Try.prog 54 #[.pointer (some ⟨g, 0, none⟩), .int .u8 m] w (Same false w) := by
  obtain ⟨A, c, hb, -, -, -⟩ := S
  obtain ⟨h0, h1, hc2, h3⟩ := cells4 hb
  have m83 : ((m : Int) == 83) = false := by simpa using hm
  have m76 : ((m : Int) != 76) = true := by simpa using hm1
  have m82 : ((m : Int) != 82) = true := by simpa using hm2
  clear hm hm1 hm2
  by_cases l2 : (s.ws.length : Int) < 2
  all_goals
    go_enter Try.func54, Try.ntmps54
    go_wp2
    all_goals go_ret
    all_goals exact ⟨rfl, 0, rfl⟩
set_option maxHeartbeats 8000000 in
set_option maxRecDepth 100000 in
theorem move_S (w : World) (g : Nat) (A : Option Addr) (c : Nat) (s : Hd.St) (x : Value) (h0 : w.cell? ⟨g, 0, none⟩ = some (.slice A s.ws.length c)) (P : Ending → World → Prop)
    (hp : Calls Try.prog 76 #[.pointer (some ⟨g, 0, none⟩)] w fun e w' => ∃ b, e = .returned (.bool b) ∧ P (.returned (.bool b)) w') :
    Calls Try.prog 54 #[.pointer (some ⟨g, 0, none⟩), .int .u8 83] w P := by
  go_enter Try.func54, Try.ntmps54
  go_wp2_with (go_at_call 76; refine hp.mono ?_; rintro e w' ⟨b, rfl, hP⟩)
  exact hP
theorem Stk.push {w0 w : World} {g gh ch n : Nat} {s s' : Hd.St} (o : s.OK n) (hg0 : w0.heap.size ≤ g) (hne : g ≠ gh) (S : Stk w0 g gh ch s w) (h : Hd.pushS s = some s') :
    Calls Try.prog 76 #[.pointer (some ⟨g, 0, none⟩)] w (Did true w0 g gh ch s') := by
  obtain ⟨A, c, hb, hB, hR, hH⟩ := S
  have hghl : gh < w.heap.size := Kd.R_lt hH gh rfl
  have hgl := blk_lt hb
  have hc : ¬ s.nx = (s.hs.length : Int) := fun e => by simp [Hd.pushS, e] at h
  rw [Hd.pushS, if_neg hc] at h
  obtain rfl := Option.some.inj h
  have h1 := o.wl; have h2 := o.nx1; have h3 := o.nx0; have h4 := o.n8; have h5 := o.dp0
  refine (push_yes w0 w g _ s.ws _ _ ch s.nx s.dp (fun k => k ≠ g ∧ k ≠ gh) gh s.hs (fun k => k = gh) hb hB hg0 (fun k hk => hk.1) hR hH (fun k hk => ⟨by rw [hk]; exact hne.symm, fun x => x.2 hk⟩) (fun k hk => ⟨by omega, by omega⟩) hc ⟨h3, by omega⟩ (by omega)).mono ?_
  rintro e w' ⟨rfl, v', hb', hB', hR', hH'⟩
  obtain ⟨A', c', rfl⟩ := Kd.R_slice hR'
  refine ⟨rfl, A', c', ?_, hB', hR', hH'⟩
  rw [show mx s.dp ((s.ws.length : Int) + 1) = (if s.dp ≤ (s.ws.length : Int) + 1 then (s.ws.length : Int) + 1 else s.dp) from by unfold mx; split <;> split <;> omega] at hb'
  exact hb'
theorem Stk.push_not {w0 w : World} {g gh ch : Nat} {s : Hd.St} (S : Stk w0 g gh ch s w) (h : Hd.pushS s = none) :
    Calls Try.prog 76 #[.pointer (some ⟨g, 0, none⟩)] w (Same false w) := by
  obtain ⟨A, c, hb, hB, hR, hH⟩ := S
  by_cases hc : s.nx = (s.hs.length : Int)
  · exact push_no w g _ _ _ _ _ _ _ _ hb hc
  · rw [Hd.pushS, if_neg hc] at h; cases h
theorem Stk.drewN {w0 w : World} {g gh ch : Nat} {s : Hd.St} (S : Stk w0 g gh ch s w) (m : Nat) : Stk w0 g gh ch s (w.drewN m) := by
  obtain ⟨A, c, hb, hB, hR, hH⟩ := S
  exact ⟨A, c, blk_drewN hb m, pw_below_drewN hB m, Kd.R_drewN hR m, Kd.R_drewN hH m⟩
/-- **move: what it does to the machine.** -/
theorem Stk.move {w0 w : World} {g gh ch n : Nat} {s s' : Hd.St} {m : Int} (o : s.OK n) (hg0 : w0.heap.size ≤ g) (hne : g ≠ gh) (S : Stk w0 g gh ch s w) (h : Hd.moveS m s = some s') :
    Calls Try.prog 54 #[.pointer (some ⟨g, 0, none⟩), .int .u8 m] w (Did true w0 g gh ch s') := by
  unfold Hd.moveS at h
  by_cases c : m = 83
  · rw [if_pos c] at h
    subst c
    obtain ⟨A, cc, hb, _⟩ := id S
    refine move_S w g A cc s (.bool true) (cells4 hb).1 _ ((S.push o hg0 hne h).mono ?_)
    rintro e w' ⟨rfl, k⟩
    exact ⟨true, rfl, rfl, k⟩
  rw [if_neg c] at h
  by_cases c2 : s.ws.length < 2
  · rw [if_pos c2] at h; cases h
  rw [if_neg c2] at h
  by_cases c3 : m = 76
  · rw [if_pos c3] at h; cases h; subst c3; exact move_L w0 w g gh ch n s o hg0 hne S (by omega)
  rw [if_neg c3] at h
  by_cases c4 : m = 82
  · rw [if_pos c4] at h; cases h; subst c4; exact move_R w0 w g gh ch n s o hg0 hne S (by omega)
  rw [if_neg c4] at h; cases h
theorem Stk.move_not {w0 w : World} {g gh ch : Nat} {s : Hd.St} {m : Int} (S : Stk w0 g gh ch s w) (h : Hd.moveS m s = none) :
    Calls Try.prog 54 #[.pointer (some ⟨g, 0, none⟩), .int .u8 m] w (Same false w) := by
  unfold Hd.moveS at h
  by_cases c : m = 83
  · rw [if_pos c] at h
    subst c
    obtain ⟨A, cc, hb, _⟩ := id S
    refine move_S w g A cc s (.bool true) (cells4 hb).1 _ ((S.push_not h).mono ?_)
    rintro e w' ⟨rfl, k⟩
    exact ⟨false, rfl, rfl, k⟩
  rw [if_neg c] at h
  by_cases c2 : s.ws.length < 2
  · exact move_short w0 w g gh ch 0 s m S c2 c
  rw [if_neg c2] at h
  by_cases c3 : m = 76
  · rw [if_pos c3] at h; cases h
  rw [if_neg c3] at h
  by_cases c4 : m = 82
  · rw [if_pos c4] at h; cases h
  exact move_other w0 w g gh ch 0 s m S c c3 c4
end Go.Proofs.Ytdckgafgidfplaa.Mach
