/- The eager machine: what a move does (the memory side). -/
import Derived.Test.YtdckgafgidfplaaProg
import Derived.Below
import Derived.Deep.Draws
import Derived.Deep.AppendLies
import Derived.Maps.AppendAt
import Derived.OwnWalk
import Derived.Laws.BytesArg
import Derived.Laws.MakeOwn
import Derived.Laws.OwnMore
import Derived.Deep.OwnRows
import Derived.Tactics
import Derived.Lib.ConvBytes
import Derived.Laws.Slices
import Derived.WalkKit
import Derived.KernelRfl
import Derived.RowKit3
import Derived.Deep.LoopGhost
import Derived.Deep.QuietTactic
import Derived.BigQuiet
import Derived.WideLaws
import Derived.Deep.DeepCutAuto
import Derived.Deep.CutBlock
import Derived.Deep.RegionHeld3
import Derived.Deep.RegionLaw
import Derived.Laws.Rows
import Derived.Lib.AppendStr
import Derived.ArgAppend
import Derived.OrdersHeld
import Derived.RowKit
import Derived.Test.YtdckgafgidfplaaWWords
import Derived.Test.YtdckgafgidfplaaWLast
import Derived.Test.YtdckgafgidfplaaWQPut
import Derived.Test.YtdckgafgidfplaaWMore
import Derived.Test.YtdckgafgidfplaaHdF
import Derived.Test.YtdckgafgidfplaaM1
namespace Go.Proofs.Ytdckgafgidfplaa.Mach
open Go.RowKit Go.Proofs.YtdckgafgidfplaaW.PrintWords Go.Proofs.YtdckgafgidfplaaW.PrintLast Go.Proofs.YtdckgafgidfplaaW.PrintMore
attribute [local go_sem] max2_int min2_int max_two min_two max_three min_three max_four min_four
set_option linter.unusedVariables false
set_option linter.unusedSimpArgs false
set_option maxHeartbeats 8000000 in
set_option maxRecDepth 100000 in
theorem eag_L_far (w0 w : World) (g gh ch n : Nat) (s : Hd.St) (o : s.OK n) (hg0 : w0.heap.size ≤ g) (hne : g ≠ gh) (S : Stk w0 g gh ch s w) (h1 : 1 ≤ s.ws.length) (hm : ¬ s.nx < (s.hs.length : Int)) :
    Calls Try.prog 60 #[.pointer (some ⟨g, 0, none⟩), .int .u8 76] w (Same false w) := by
  have o8 := o.n8
  have olen := o.len
  have onx := o.nx0
  have onx1 := o.nx1
  have otop := o.top h1
  have hwl : s.ws.length ≤ 8 := by have := o.wl; omega
  obtain ⟨A, c, hb, hB, hR, hH⟩ := S
  obtain ⟨u, hud⟩ : ∃ u, u = Hd.topW s := ⟨_, rfl⟩
  rw [← hud] at otop 
  obtain ⟨N, hN⟩ : ∃ N, N = s.ws.length := ⟨_, rfl⟩
  obtain ⟨M, hM⟩ : ∃ M, M = s.hs.length := ⟨_, rfl⟩
  obtain ⟨j1, hj1⟩ : ∃ j : Int, wrap64 ((N : Int) - 1) = j := ⟨_, rfl⟩
  have q1 : j1 = (N : Int) - 1 := by rw [← hj1]; unfold wrap64; omega
  have hw1 : (IntKind.i64.wrap ((N : Int) - 1)) = j1 := (i64_w _).trans hj1
  have hcN := (Kd.R_reads' hR).2.1
  obtain ⟨ad, ea, xu⟩ := Kd.at_int (Kd.R_reads' hR).2.2 j1 (by omega) (by omega)
  subst ea
  rw [show rd s.ws j1 = u from by rw [hud, Hd.topW, rd, show j1.toNat = s.ws.length - 1 by omega]] at xu
  obtain ⟨jl, hjl⟩ : ∃ j : Int, wrap64 (u - 1) = j := ⟨_, rfl⟩
  have hjw : (IntKind.i64.wrap (u - 1)) = jl := (i64_w _).trans hjl
  have hjv : jl = u - 1 := by rw [← hjl]; unfold wrap64; omega
  obtain ⟨xh, fh⟩ := Kd.R_cell (0 : Int) hH jl (by omega) (by omega)
  have HX := Aside0.mk (show s.hs.getD (u - 1).toNat 0 = rdOf (0 : Int) s.hs jl by rw [hjv]; rfl)
  generalize hxv : rdOf (0 : Int) s.hs jl = xv at xh HX
  have HXV := Aside0.mk hxv
  clear hxv
  have hl0 : 0 ≤ jl := by omega
  have hl1 : jl < (M : Int) := by omega
  have p1 : 0 ≤ j1 := by omega
  have r1 : j1 < (N : Int) := by omega
  have hN0 : ((N : Int) == 0) = false := by simp; omega
  rw [← hN, ← hM] at hb
  obtain ⟨h0, hc1, hc2, h3⟩ := cells4 hb
  have hm1 : ¬ s.nx < (M : Int) := by omega
  clear hb hB hR hH hud hN hM hj1 q1 hcN olen otop onx onx1 hjl hjv hwl o8 o hm
  go_enter Try.func60, Try.ntmps60
  go_wp2
  go_region_held3 (fun w' => w'.cell? ⟨g, 0, none⟩ = some (.slice (some ad) N c) ∧ w'.cell? (ad.add j1.toNat) = some (.int .i64 u) ∧ w'.cell? ⟨g, 1, none⟩ = some (.int .i64 s.nx) ∧ w'.cell? ⟨g, 2, none⟩ = some (.slice (some ⟨gh, 0, none⟩) M ch)) (go_keep) (fail)
  all_goals go_wp2
  all_goals go_ret
  all_goals exact ⟨rfl, 1, rfl⟩

set_option maxHeartbeats 8000000 in
set_option maxRecDepth 100000 in
theorem eag_L_has (w0 w : World) (g gh ch n : Nat) (s : Hd.St) (o : s.OK n) (hg0 : w0.heap.size ≤ g) (hne : g ≠ gh) (S : Stk w0 g gh ch s w) (h1 : 1 ≤ s.ws.length) (hm : s.nx < (s.hs.length : Int)) (hz : s.hs.getD (Hd.topW s - 1).toNat 0 ≠ 0) :
    Calls Try.prog 60 #[.pointer (some ⟨g, 0, none⟩), .int .u8 76] w (Same false w) := by
  have o8 := o.n8
  have olen := o.len
  have onx := o.nx0
  have onx1 := o.nx1
  have otop := o.top h1
  have hwl : s.ws.length ≤ 8 := by have := o.wl; omega
  obtain ⟨A, c, hb, hB, hR, hH⟩ := S
  obtain ⟨u, hud⟩ : ∃ u, u = Hd.topW s := ⟨_, rfl⟩
  rw [← hud] at otop hz
  obtain ⟨N, hN⟩ : ∃ N, N = s.ws.length := ⟨_, rfl⟩
  obtain ⟨M, hM⟩ : ∃ M, M = s.hs.length := ⟨_, rfl⟩
  obtain ⟨j1, hj1⟩ : ∃ j : Int, wrap64 ((N : Int) - 1) = j := ⟨_, rfl⟩
  have q1 : j1 = (N : Int) - 1 := by rw [← hj1]; unfold wrap64; omega
  have hw1 : (IntKind.i64.wrap ((N : Int) - 1)) = j1 := (i64_w _).trans hj1
  have hcN := (Kd.R_reads' hR).2.1
  obtain ⟨ad, ea, xu⟩ := Kd.at_int (Kd.R_reads' hR).2.2 j1 (by omega) (by omega)
  subst ea
  rw [show rd s.ws j1 = u from by rw [hud, Hd.topW, rd, show j1.toNat = s.ws.length - 1 by omega]] at xu
  obtain ⟨jl, hjl⟩ : ∃ j : Int, wrap64 (u - 1) = j := ⟨_, rfl⟩
  have hjw : (IntKind.i64.wrap (u - 1)) = jl := (i64_w _).trans hjl
  have hjv : jl = u - 1 := by rw [← hjl]; unfold wrap64; omega
  obtain ⟨xh, fh⟩ := Kd.R_cell (0 : Int) hH jl (by omega) (by omega)
  have HX := Aside0.mk (show s.hs.getD (u - 1).toNat 0 = rdOf (0 : Int) s.hs jl by rw [hjv]; rfl)
  generalize hxv : rdOf (0 : Int) s.hs jl = xv at xh HX
  have HXV := Aside0.mk hxv
  clear hxv
  have hl0 : 0 ≤ jl := by omega
  have hl1 : jl < (M : Int) := by omega
  have p1 : 0 ≤ j1 := by omega
  have r1 : j1 < (N : Int) := by omega
  have hN0 : ((N : Int) == 0) = false := by simp; omega
  rw [← hN, ← hM] at hb
  obtain ⟨h0, hc1, hc2, h3⟩ := cells4 hb
  have hm1 : s.nx < (M : Int) := by omega
  rw [HX.out] at hz
  have hz1 : ((xv : Int) == 0) = false := by simpa using hz
  clear hb hB hR hH hud hN hM hj1 q1 hcN olen otop onx onx1 hjl hjv hwl o8 o hm hz
  go_enter Try.func60, Try.ntmps60
  go_wp2
  go_region_held3 (fun w' => w'.cell? ⟨g, 0, none⟩ = some (.slice (some ad) N c) ∧ w'.cell? (ad.add j1.toNat) = some (.int .i64 u) ∧ w'.cell? ⟨g, 1, none⟩ = some (.int .i64 s.nx) ∧ w'.cell? ⟨g, 2, none⟩ = some (.slice (some ⟨gh, 0, none⟩) M ch)) (go_keep) (fail)
  all_goals go_wp2
  all_goals go_ret
  all_goals exact ⟨rfl, 1, rfl⟩

set_option maxHeartbeats 8000000 in
set_option maxRecDepth 100000 in
theorem eag_R_far (w0 w : World) (g gh ch n : Nat) (s : Hd.St) (o : s.OK n) (hg0 : w0.heap.size ≤ g) (hne : g ≠ gh) (S : Stk w0 g gh ch s w) (h1 : 1 ≤ s.ws.length) (hm : ¬ s.nx < (s.hs.length : Int)) :
    Calls Try.prog 60 #[.pointer (some ⟨g, 0, none⟩), .int .u8 82] w (Same false w) := by
  have o8 := o.n8
  have olen := o.len
  have onx := o.nx0
  have onx1 := o.nx1
  have otop := o.top h1
  have hwl : s.ws.length ≤ 8 := by have := o.wl; omega
  obtain ⟨A, c, hb, hB, hR, hH⟩ := S
  obtain ⟨u, hud⟩ : ∃ u, u = Hd.topW s := ⟨_, rfl⟩
  rw [← hud] at otop 
  obtain ⟨N, hN⟩ : ∃ N, N = s.ws.length := ⟨_, rfl⟩
  obtain ⟨M, hM⟩ : ∃ M, M = s.hs.length := ⟨_, rfl⟩
  obtain ⟨j1, hj1⟩ : ∃ j : Int, wrap64 ((N : Int) - 1) = j := ⟨_, rfl⟩
  have q1 : j1 = (N : Int) - 1 := by rw [← hj1]; unfold wrap64; omega
  have hw1 : (IntKind.i64.wrap ((N : Int) - 1)) = j1 := (i64_w _).trans hj1
  have hcN := (Kd.R_reads' hR).2.1
  obtain ⟨ad, ea, xu⟩ := Kd.at_int (Kd.R_reads' hR).2.2 j1 (by omega) (by omega)
  subst ea
  rw [show rd s.ws j1 = u from by rw [hud, Hd.topW, rd, show j1.toNat = s.ws.length - 1 by omega]] at xu
  obtain ⟨jl, hjl⟩ : ∃ j : Int, wrap64 (u - 1) = j := ⟨_, rfl⟩
  have hjw : (IntKind.i64.wrap (u - 1)) = jl := (i64_w _).trans hjl
  have hjv : jl = u - 1 := by rw [← hjl]; unfold wrap64; omega
  obtain ⟨xh, fh⟩ := Kd.R_cell (0 : Int) hH jl (by omega) (by omega)
  have HX := Aside0.mk (show s.hs.getD (u - 1).toNat 0 = rdOf (0 : Int) s.hs jl by rw [hjv]; rfl)
  generalize hxv : rdOf (0 : Int) s.hs jl = xv at xh HX
  have HXV := Aside0.mk hxv
  clear hxv
  have hl0 : 0 ≤ jl := by omega
  have hl1 : jl < (M : Int) := by omega
  have p1 : 0 ≤ j1 := by omega
  have r1 : j1 < (N : Int) := by omega
  have hN0 : ((N : Int) == 0) = false := by simp; omega
  rw [← hN, ← hM] at hb
  obtain ⟨h0, hc1, hc2, h3⟩ := cells4 hb
  have hm1 : ¬ s.nx < (M : Int) := by omega
  clear hb hB hR hH hud hN hM hj1 q1 hcN olen otop onx onx1 hjl hjv hwl o8 o hm
  go_enter Try.func60, Try.ntmps60
  go_wp2
  go_region_held3 (fun w' => w'.cell? ⟨g, 0, none⟩ = some (.slice (some ad) N c) ∧ w'.cell? (ad.add j1.toNat) = some (.int .i64 u) ∧ w'.cell? ⟨g, 1, none⟩ = some (.int .i64 s.nx) ∧ w'.cell? ⟨g, 2, none⟩ = some (.slice (some ⟨gh, 0, none⟩) M ch)) (go_keep) (fail)
  all_goals go_wp2
  all_goals go_ret
  all_goals exact ⟨rfl, 1, rfl⟩

set_option maxHeartbeats 8000000 in
set_option maxRecDepth 100000 in
theorem eag_D_not (w0 w : World) (g gh ch n : Nat) (s : Hd.St) (o : s.OK n) (hg0 : w0.heap.size ≤ g) (hne : g ≠ gh) (S : Stk w0 g gh ch s w) (h1 : 1 ≤ s.ws.length) (hz : s.hs.getD (Hd.topW s - 1).toNat 0 = 0) :
    Calls Try.prog 60 #[.pointer (some ⟨g, 0, none⟩), .int .u8 68] w (Same false w) := by
  have o8 := o.n8
  have olen := o.len
  have onx := o.nx0
  have onx1 := o.nx1
  have otop := o.top h1
  have hwl : s.ws.length ≤ 8 := by have := o.wl; omega
  obtain ⟨A, c, hb, hB, hR, hH⟩ := S
  obtain ⟨u, hud⟩ : ∃ u, u = Hd.topW s := ⟨_, rfl⟩
  rw [← hud] at otop hz
  obtain ⟨N, hN⟩ : ∃ N, N = s.ws.length := ⟨_, rfl⟩
  obtain ⟨M, hM⟩ : ∃ M, M = s.hs.length := ⟨_, rfl⟩
  obtain ⟨j1, hj1⟩ : ∃ j : Int, wrap64 ((N : Int) - 1) = j := ⟨_, rfl⟩
  have q1 : j1 = (N : Int) - 1 := by rw [← hj1]; unfold wrap64; omega
  have hw1 : (IntKind.i64.wrap ((N : Int) - 1)) = j1 := (i64_w _).trans hj1
  have hcN := (Kd.R_reads' hR).2.1
  obtain ⟨ad, ea, xu⟩ := Kd.at_int (Kd.R_reads' hR).2.2 j1 (by omega) (by omega)
  subst ea
  rw [show rd s.ws j1 = u from by rw [hud, Hd.topW, rd, show j1.toNat = s.ws.length - 1 by omega]] at xu
  obtain ⟨jl, hjl⟩ : ∃ j : Int, wrap64 (u - 1) = j := ⟨_, rfl⟩
  have hjw : (IntKind.i64.wrap (u - 1)) = jl := (i64_w _).trans hjl
  have hjv : jl = u - 1 := by rw [← hjl]; unfold wrap64; omega
  obtain ⟨xh, fh⟩ := Kd.R_cell (0 : Int) hH jl (by omega) (by omega)
  have HX := Aside0.mk (show s.hs.getD (u - 1).toNat 0 = rdOf (0 : Int) s.hs jl by rw [hjv]; rfl)
  generalize hxv : rdOf (0 : Int) s.hs jl = xv at xh HX
  have HXV := Aside0.mk hxv
  clear hxv
  have hl0 : 0 ≤ jl := by omega
  have hl1 : jl < (M : Int) := by omega
  have p1 : 0 ≤ j1 := by omega
  have r1 : j1 < (N : Int) := by omega
  have hN0 : ((N : Int) == 0) = false := by simp; omega
  rw [← hN, ← hM] at hb
  obtain ⟨h0, hc1, hc2, h3⟩ := cells4 hb
  rw [HX.out] at hz
  have hz1 : ((xv : Int) != 0) = false := by simpa using hz
  clear hb hB hR hH hud hN hM hj1 q1 hcN olen otop onx onx1 hjl hjv hwl o8 o hz
  go_enter Try.func60, Try.ntmps60
  go_wp2
  go_region_held3 (fun w' => w'.cell? ⟨g, 0, none⟩ = some (.slice (some ad) N c) ∧ w'.cell? (ad.add j1.toNat) = some (.int .i64 u) ∧ w'.cell? ⟨g, 1, none⟩ = some (.int .i64 s.nx) ∧ w'.cell? ⟨g, 2, none⟩ = some (.slice (some ⟨gh, 0, none⟩) M ch)) (go_keep) (fail)
  all_goals go_wp2
  all_goals go_ret
  all_goals exact ⟨rfl, 1, rfl⟩

set_option maxHeartbeats 8000000 in
set_option maxRecDepth 100000 in
theorem eag_other (w0 w : World) (g gh ch n : Nat) (s : Hd.St) (m : Int) (o : s.OK n) (hg0 : w0.heap.size ≤ g) (hne : g ≠ gh) (S : Stk w0 g gh ch s w) (h1 : 1 ≤ s.ws.length) (a83 : m ≠ 83) (a76 : m ≠ 76) (a82 : m ≠ 82) (a68 : m ≠ 68) :
    Calls Try.prog 60 #[.pointer (some ⟨g, 0, none⟩), .int .u8 m] w (Same false w) := by
  have o8 := o.n8
  have olen := o.len
  have onx := o.nx0
  have onx1 := o.nx1
  have otop := o.top h1
  have hwl : s.ws.length ≤ 8 := by have := o.wl; omega
  obtain ⟨A, c, hb, hB, hR, hH⟩ := S
  obtain ⟨u, hud⟩ : ∃ u, u = Hd.topW s := ⟨_, rfl⟩
  rw [← hud] at otop 
  obtain ⟨N, hN⟩ : ∃ N, N = s.ws.length := ⟨_, rfl⟩
  obtain ⟨M, hM⟩ : ∃ M, M = s.hs.length := ⟨_, rfl⟩
  obtain ⟨j1, hj1⟩ : ∃ j : Int, wrap64 ((N : Int) - 1) = j := ⟨_, rfl⟩
  have q1 : j1 = (N : Int) - 1 := by rw [← hj1]; unfold wrap64; omega
  have hw1 : (IntKind.i64.wrap ((N : Int) - 1)) = j1 := (i64_w _).trans hj1
  have hcN := (Kd.R_reads' hR).2.1
  obtain ⟨ad, ea, xu⟩ := Kd.at_int (Kd.R_reads' hR).2.2 j1 (by omega) (by omega)
  subst ea
  rw [show rd s.ws j1 = u from by rw [hud, Hd.topW, rd, show j1.toNat = s.ws.length - 1 by omega]] at xu
  obtain ⟨jl, hjl⟩ : ∃ j : Int, wrap64 (u - 1) = j := ⟨_, rfl⟩
  have hjw : (IntKind.i64.wrap (u - 1)) = jl := (i64_w _).trans hjl
  have hjv : jl = u - 1 := by rw [← hjl]; unfold wrap64; omega
  obtain ⟨xh, fh⟩ := Kd.R_cell (0 : Int) hH jl (by omega) (by omega)
  have HX := Aside0.mk (show s.hs.getD (u - 1).toNat 0 = rdOf (0 : Int) s.hs jl by rw [hjv]; rfl)
  generalize hxv : rdOf (0 : Int) s.hs jl = xv at xh HX
  have HXV := Aside0.mk hxv
  clear hxv
  have hl0 : 0 ≤ jl := by omega
  have hl1 : jl < (M : Int) := by omega
  have p1 : 0 ≤ j1 := by omega
  have r1 : j1 < (N : Int) := by omega
  have hN0 : ((N : Int) == 0) = false := by simp; omega
  rw [← hN, ← hM] at hb
  obtain ⟨h0, hc1, hc2, h3⟩ := cells4 hb
  have m83 : ((m : Int) == 83) = false := by simpa using a83
  have m76 : ((m : Int) == 76) = false := by simpa using a76
  have m82 : ((m : Int) == 82) = false := by simpa using a82
  have m68 : ((m : Int) == 68) = false := by simpa using a68
  clear hb hB hR hH hud hN hM hj1 q1 hcN olen otop onx onx1 hjl hjv hwl o8 o a83 a76 a82 a68
  go_enter Try.func60, Try.ntmps60
  go_wp2
  go_region_held3 (fun w' => w'.cell? ⟨g, 0, none⟩ = some (.slice (some ad) N c) ∧ w'.cell? (ad.add j1.toNat) = some (.int .i64 u) ∧ w'.cell? ⟨g, 1, none⟩ = some (.int .i64 s.nx) ∧ w'.cell? ⟨g, 2, none⟩ = some (.slice (some ⟨gh, 0, none⟩) M ch)) (go_keep) (fail)
  all_goals go_wp2
  all_goals go_ret
  all_goals exact ⟨rfl, 1, rfl⟩

set_option maxHeartbeats 8000000 in
set_option maxRecDepth 100000 in
theorem eag_L (w0 w : World) (g gh ch n : Nat) (s : Hd.St) (o : s.OK n) (hg0 : w0.heap.size ≤ g) (hne : g ≠ gh) (S : Stk w0 g gh ch s w) (h1 : 1 ≤ s.ws.length) (hm : s.nx < (s.hs.length : Int)) (hz : s.hs.getD (Hd.topW s - 1).toNat 0 = 0) :
    Calls Try.prog 60 #[.pointer (some ⟨g, 0, none⟩), .int .u8 76] w (Did true w0 g gh ch (Hd.popS s (s.hs.set (Hd.topW s - 1).toNat (s.nx + 1)))) := by
  have o8 := o.n8
  have olen := o.len
  have onx := o.nx0
  have onx1 := o.nx1
  have otop := o.top h1
  have hwl : s.ws.length ≤ 8 := by have := o.wl; omega
  obtain ⟨A, c, hb, hB, hR, hH⟩ := S
  obtain ⟨u, hud⟩ : ∃ u, u = Hd.topW s := ⟨_, rfl⟩
  rw [← hud] at otop hz
  obtain ⟨N, hN⟩ : ∃ N, N = s.ws.length := ⟨_, rfl⟩
  obtain ⟨M, hM⟩ : ∃ M, M = s.hs.length := ⟨_, rfl⟩
  obtain ⟨j1, hj1⟩ : ∃ j : Int, wrap64 ((N : Int) - 1) = j := ⟨_, rfl⟩
  have q1 : j1 = (N : Int) - 1 := by rw [← hj1]; unfold wrap64; omega
  have hw1 : (IntKind.i64.wrap ((N : Int) - 1)) = j1 := (i64_w _).trans hj1
  have hcN := (Kd.R_reads' hR).2.1
  obtain ⟨ad, ea, xu⟩ := Kd.at_int (Kd.R_reads' hR).2.2 j1 (by omega) (by omega)
  subst ea
  rw [show rd s.ws j1 = u from by rw [hud, Hd.topW, rd, show j1.toNat = s.ws.length - 1 by omega]] at xu
  obtain ⟨jl, hjl⟩ : ∃ j : Int, wrap64 (u - 1) = j := ⟨_, rfl⟩
  have hjw : (IntKind.i64.wrap (u - 1)) = jl := (i64_w _).trans hjl
  have hjv : jl = u - 1 := by rw [← hjl]; unfold wrap64; omega
  obtain ⟨xh, fh⟩ := Kd.R_cell (0 : Int) hH jl (by omega) (by omega)
  have HX := Aside0.mk (show s.hs.getD (u - 1).toNat 0 = rdOf (0 : Int) s.hs jl by rw [hjv]; rfl)
  generalize hxv : rdOf (0 : Int) s.hs jl = xv at xh HX
  have HXV := Aside0.mk hxv
  clear hxv
  have hl0 : 0 ≤ jl := by omega
  have hl1 : jl < (M : Int) := by omega
  have p1 : 0 ≤ j1 := by omega
  have r1 : j1 < (N : Int) := by omega
  have hN0 : ((N : Int) == 0) = false := by simp; omega
  rw [← hN, ← hM] at hb
  obtain ⟨h0, hc1, hc2, h3⟩ := cells4 hb
  rw [HX.out] at hz
  have hz1 : ((xv : Int) == 0) = true := by simpa using hz
  have hm1 : s.nx < (M : Int) := by omega
  have hneg : ¬ g = gh := hne
  have hnegh : ¬ gh = g := fun e => hne e.symm
  have f0 := blk_frozen hb 0
  obtain ⟨i3, hi3, _⟩ := info_parts info3
  have hcut := cut_to (P := Try.prog) 29 3 .i64 Try.underlying29 hi3 (some ad) N c j1 p1 (by omega) (by omega)
  have hRt := Kd.R_take hR (m := j1.toNat) (by omega)
  have hB1 : Below w0.heap.size w0 (w.setCell ⟨gh, jl.toNat, none⟩ (.int .i64 (s.nx + 1))) := below_set hB (Kd.R_base hH gh rfl)
  have hb1 : (w.setCell ⟨gh, jl.toNat, none⟩ (.int .i64 (s.nx + 1))).heap[g]? = some (.cells #[.slice (some ad) N c, .int .i64 s.nx, .slice (some ⟨gh, 0, none⟩) M ch, .int .i64 s.dp] 52 (0, 0)) := blk_far hb (p := ⟨gh, jl.toNat, none⟩) hne _
  have hR1 : Kd.R (Kd.int .i64) 3 (w.setCell ⟨gh, jl.toNat, none⟩ (.int .i64 (s.nx + 1))) w0.heap.size (fun k => k ≠ g ∧ k ≠ gh) (.slice (some ad) j1.toNat c) (s.ws.take j1.toNat) := Kd.R_far hRt (p := ⟨gh, jl.toNat, none⟩) (fun k hk => hk.2) _
  have hH1 : Kd.R (Kd.int .i64) 3 (w.setCell ⟨gh, jl.toNat, none⟩ (.int .i64 (s.nx + 1))) w0.heap.size (fun k => k = gh) (.slice (some ⟨gh, 0, none⟩) (s.hs.set jl.toNat (s.nx + 1)).length ch) (s.hs.set jl.toNat (s.nx + 1)) := by
    rw [List.length_set]
    exact (Kd.R_put hH jl (s.nx + 1)).1
  have hM8 : M ≤ 8 := by omega
  obtain ⟨k0, -, -, -⟩ := cells4 hb1
  have e0 := blk_frozen hb1 0
  have HB1 := Aside0.mk hb1
  have HR1 := Aside0.mk hR1
  have HH1 := Aside0.mk hH1
  have HBE := Aside0.mk hB1
  have HE := Aside0.mk (show Hd.popS s (s.hs.set (Hd.topW s - 1).toNat (s.nx + 1)) = ⟨s.ws.take j1.toNat, s.nx, s.hs.set jl.toNat (s.nx + 1), s.dp⟩ from by rw [Hd.popS, show s.ws.length - 1 = j1.toNat by omega, ← hud, hjv])
  have HL := Aside0.mk (show (s.ws.take j1.toNat).length = j1.toNat from by rw [List.length_take]; omega)
  have HM := Aside0.mk hM
  clear hb hB hR hH hud hN hM hj1 q1 hcN olen otop onx1 hjl hjv hwl o8 o hm hz hb1 hR1 hH1 hB1 hRt
  go_enter Try.func60, Try.ntmps60
  go_wp2
  go_region_held3 (fun w' => w'.cell? ⟨g, 0, none⟩ = some (.slice (some ad) N c) ∧ w'.cell? (ad.add j1.toNat) = some (.int .i64 u) ∧ w'.cell? ⟨g, 1, none⟩ = some (.int .i64 s.nx) ∧ w'.cell? ⟨g, 2, none⟩ = some (.slice (some ⟨gh, 0, none⟩) M ch)) (go_keep) (fail)
  all_goals go_wp2
  all_goals go_region_law (fail)
  all_goals go_wp2
  all_goals go_ret
  all_goals refine ⟨rfl, ?_⟩
  all_goals rw [HE.out]
  all_goals exact (stk_mk (hs := s.hs.set jl.toNat (s.nx + 1)) (xs := s.ws.take j1.toNat) hne hg0 HB1.out HBE.out (by rw [HL.out]; exact HR1.out) HH1.out (by rw [List.length_set]; exact HM.out) HL.out.symm).drewN 2

set_option maxHeartbeats 8000000 in
set_option maxRecDepth 100000 in
theorem eag_D (w0 w : World) (g gh ch n : Nat) (s : Hd.St) (o : s.OK n) (hg0 : w0.heap.size ≤ g) (hne : g ≠ gh) (S : Stk w0 g gh ch s w) (h1 : 1 ≤ s.ws.length) (hz : s.hs.getD (Hd.topW s - 1).toNat 0 ≠ 0) :
    Calls Try.prog 60 #[.pointer (some ⟨g, 0, none⟩), .int .u8 68] w (Did true w0 g gh ch (Hd.popS s s.hs)) := by
  have o8 := o.n8
  have olen := o.len
  have onx := o.nx0
  have onx1 := o.nx1
  have otop := o.top h1
  have hwl : s.ws.length ≤ 8 := by have := o.wl; omega
  obtain ⟨A, c, hb, hB, hR, hH⟩ := S
  obtain ⟨u, hud⟩ : ∃ u, u = Hd.topW s := ⟨_, rfl⟩
  rw [← hud] at otop hz
  obtain ⟨N, hN⟩ : ∃ N, N = s.ws.length := ⟨_, rfl⟩
  obtain ⟨M, hM⟩ : ∃ M, M = s.hs.length := ⟨_, rfl⟩
  obtain ⟨j1, hj1⟩ : ∃ j : Int, wrap64 ((N : Int) - 1) = j := ⟨_, rfl⟩
  have q1 : j1 = (N : Int) - 1 := by rw [← hj1]; unfold wrap64; omega
  have hw1 : (IntKind.i64.wrap ((N : Int) - 1)) = j1 := (i64_w _).trans hj1
  have hcN := (Kd.R_reads' hR).2.1
  obtain ⟨ad, ea, xu⟩ := Kd.at_int (Kd.R_reads' hR).2.2 j1 (by omega) (by omega)
  subst ea
  rw [show rd s.ws j1 = u from by rw [hud, Hd.topW, rd, show j1.toNat = s.ws.length - 1 by omega]] at xu
  obtain ⟨jl, hjl⟩ : ∃ j : Int, wrap64 (u - 1) = j := ⟨_, rfl⟩
  have hjw : (IntKind.i64.wrap (u - 1)) = jl := (i64_w _).trans hjl
  have hjv : jl = u - 1 := by rw [← hjl]; unfold wrap64; omega
  obtain ⟨xh, fh⟩ := Kd.R_cell (0 : Int) hH jl (by omega) (by omega)
  have HX := Aside0.mk (show s.hs.getD (u - 1).toNat 0 = rdOf (0 : Int) s.hs jl by rw [hjv]; rfl)
  generalize hxv : rdOf (0 : Int) s.hs jl = xv at xh HX
  have HXV := Aside0.mk hxv
  clear hxv
  have hl0 : 0 ≤ jl := by omega
  have hl1 : jl < (M : Int) := by omega
  have p1 : 0 ≤ j1 := by omega
  have r1 : j1 < (N : Int) := by omega
  have hN0 : ((N : Int) == 0) = false := by simp; omega
  rw [← hN, ← hM] at hb
  obtain ⟨h0, hc1, hc2, h3⟩ := cells4 hb
  rw [HX.out] at hz
  have hz1 : ((xv : Int) != 0) = true := by simpa using hz
  have hneg : ¬ g = gh := hne
  have hnegh : ¬ gh = g := fun e => hne e.symm
  have f0 := blk_frozen hb 0
  obtain ⟨i3, hi3, _⟩ := info_parts info3
  have hcut := cut_to (P := Try.prog) 29 3 .i64 Try.underlying29 hi3 (some ad) N c j1 p1 (by omega) (by omega)
  have hRt := Kd.R_take hR (m := j1.toNat) (by omega)
  have HB1 := Aside0.mk hb
  have HR1 := Aside0.mk hRt
  have HH1 := Aside0.mk hH
  have HBE := Aside0.mk hB
  have HE := Aside0.mk (show Hd.popS s s.hs = ⟨s.ws.take j1.toNat, s.nx, s.hs, s.dp⟩ from by rw [Hd.popS, show s.ws.length - 1 = j1.toNat by omega])
  have HL := Aside0.mk (show (s.ws.take j1.toNat).length = j1.toNat from by rw [List.length_take]; omega)
  have HM := Aside0.mk hM
  clear hb hB hR hH hud hN hM hj1 q1 hcN olen otop onx onx1 hjl hjv hwl o8 o hz hRt
  go_enter Try.func60, Try.ntmps60
  go_wp2
  go_region_held3 (fun w' => w'.cell? ⟨g, 0, none⟩ = some (.slice (some ad) N c) ∧ w'.cell? (ad.add j1.toNat) = some (.int .i64 u) ∧ w'.cell? ⟨g, 1, none⟩ = some (.int .i64 s.nx) ∧ w'.cell? ⟨g, 2, none⟩ = some (.slice (some ⟨gh, 0, none⟩) M ch)) (go_keep) (fail)
  all_goals go_wp2
  all_goals go_ret
  all_goals refine ⟨rfl, ?_⟩
  all_goals rw [HE.out]
  all_goals exact (stk_mk (hs := s.hs) (xs := s.ws.take j1.toNat) hne hg0 HB1.out HBE.out (by rw [HL.out]; exact HR1.out) HH1.out HM.out HL.out.symm).drewN 1

set_option maxHeartbeats 8000000 in
set_option maxRecDepth 100000 in
theorem eag_R (w0 w : World) (g gh ch n : Nat) (s : Hd.St) (o : s.OK n) (hg0 : w0.heap.size ≤ g) (hne : g ≠ gh) (S : Stk w0 g gh ch s w) (h1 : 1 ≤ s.ws.length) (s' : Hd.St) (hm : s.nx < (s.hs.length : Int)) (hp : Hd.pushS ⟨s.ws, s.nx, s.hs.set s.nx.toNat (Hd.topW s), s.dp⟩ = some s') :
    Calls Try.prog 60 #[.pointer (some ⟨g, 0, none⟩), .int .u8 82] w (Did true w0 g gh ch s') := by
  have o8 := o.n8
  have olen := o.len
  have onx := o.nx0
  have onx1 := o.nx1
  have otop := o.top h1
  have hwl : s.ws.length ≤ 8 := by have := o.wl; omega
  obtain ⟨A, c, hb, hB, hR, hH⟩ := S
  obtain ⟨u, hud⟩ : ∃ u, u = Hd.topW s := ⟨_, rfl⟩
  rw [← hud] at otop hp
  obtain ⟨N, hN⟩ : ∃ N, N = s.ws.length := ⟨_, rfl⟩
  obtain ⟨M, hM⟩ : ∃ M, M = s.hs.length := ⟨_, rfl⟩
  obtain ⟨j1, hj1⟩ : ∃ j : Int, wrap64 ((N : Int) - 1) = j := ⟨_, rfl⟩
  have q1 : j1 = (N : Int) - 1 := by rw [← hj1]; unfold wrap64; omega
  have hw1 : (IntKind.i64.wrap ((N : Int) - 1)) = j1 := (i64_w _).trans hj1
  have hcN := (Kd.R_reads' hR).2.1
  obtain ⟨ad, ea, xu⟩ := Kd.at_int (Kd.R_reads' hR).2.2 j1 (by omega) (by omega)
  subst ea
  rw [show rd s.ws j1 = u from by rw [hud, Hd.topW, rd, show j1.toNat = s.ws.length - 1 by omega]] at xu
  obtain ⟨jl, hjl⟩ : ∃ j : Int, wrap64 (u - 1) = j := ⟨_, rfl⟩
  have hjw : (IntKind.i64.wrap (u - 1)) = jl := (i64_w _).trans hjl
  have hjv : jl = u - 1 := by rw [← hjl]; unfold wrap64; omega
  obtain ⟨xh, fh⟩ := Kd.R_cell (0 : Int) hH jl (by omega) (by omega)
  have HX := Aside0.mk (show s.hs.getD (u - 1).toNat 0 = rdOf (0 : Int) s.hs jl by rw [hjv]; rfl)
  generalize hxv : rdOf (0 : Int) s.hs jl = xv at xh HX
  have HXV := Aside0.mk hxv
  clear hxv
  have hl0 : 0 ≤ jl := by omega
  have hl1 : jl < (M : Int) := by omega
  have p1 : 0 ≤ j1 := by omega
  have r1 : j1 < (N : Int) := by omega
  have hN0 : ((N : Int) == 0) = false := by simp; omega
  rw [← hN, ← hM] at hb
  obtain ⟨h0, hc1, hc2, h3⟩ := cells4 hb
  have hm1 : s.nx < (M : Int) := by omega
  have hneg : ¬ g = gh := hne
  have hnegh : ¬ gh = g := fun e => hne e.symm
  obtain ⟨xn, fn⟩ := Kd.R_cell (0 : Int) hH s.nx onx (by omega)
  have hS1 : Stk w0 g gh ch ⟨s.ws, s.nx, s.hs.set s.nx.toNat u, s.dp⟩ (w.setCell ⟨gh, s.nx.toNat, none⟩ (.int .i64 u)) :=
    ⟨some ad, c, by rw [List.length_set, ← hM, ← hN]; exact blk_far hb (p := ⟨gh, s.nx.toNat, none⟩) hne _, below_set hB (Kd.R_base hH gh rfl), Kd.R_far hR (p := ⟨gh, s.nx.toNat, none⟩) (fun k hk => hk.2) _, by rw [List.length_set]; exact (Kd.R_put hH s.nx u).1⟩
  have HS1 := Aside0.mk hS1
  have HO1 := Aside0.mk (o.heads (hs := s.hs.set s.nx.toNat u) (by rw [List.length_set]; exact olen))
  have HP := Aside0.mk hp
  clear hb hB hR hH hud hN hM hj1 q1 hcN olen otop onx1 hjl hjv hwl o8 o hm hS1 hp
  go_enter Try.func60, Try.ntmps60
  go_wp2
  go_region_held3 (fun w' => w'.cell? ⟨g, 0, none⟩ = some (.slice (some ad) N c) ∧ w'.cell? (ad.add j1.toNat) = some (.int .i64 u) ∧ w'.cell? ⟨g, 1, none⟩ = some (.int .i64 s.nx) ∧ w'.cell? ⟨g, 2, none⟩ = some (.slice (some ⟨gh, 0, none⟩) M ch)) (go_keep) (fail)
  all_goals go_wp2
  all_goals go_region_law (fail)
  all_goals go_wp2_with (go_at_call 76; refine (Stk.push HO1.out hg0 hne (HS1.out.drewN 2) HP.out).mono ?_; rintro e w' ⟨rfl, hS⟩; have HS := Aside0.mk hS; clear hS)
  all_goals go_ret
  all_goals exact ⟨rfl, HS.out⟩

set_option maxHeartbeats 8000000 in
set_option maxRecDepth 100000 in
theorem eag_zero (w0 w : World) (g gh ch : Nat) (s : Hd.St) (m : Int) (S : Stk w0 g gh ch s w) (hm : m ≠ 83) (h0 : s.ws.length = 0) :
    Calls Try.prog 60 #[.pointer (some ⟨g, 0, none⟩), .int .u8 m] w (Same false w) := by
  obtain ⟨A, c, hb, -, -, -⟩ := S
  rw [h0] at hb
  obtain ⟨k0, -, -, -⟩ := cells4 hb
  have m83 : ((m : Int) == 83) = false := by simpa using hm
  clear hm hb
  go_enter Try.func60, Try.ntmps60
  go_wp2
  go_ret
  exact ⟨rfl, 0, rfl⟩
set_option maxHeartbeats 8000000 in
set_option maxRecDepth 100000 in
theorem eag_S (w : World) (g : Nat) (P : Ending → World → Prop)
    (hp : Calls Try.prog 76 #[.pointer (some ⟨g, 0, none⟩)] w fun e w' => ∃ b, e = .returned (.bool b) ∧ P (.returned (.bool b)) w') :
    Calls Try.prog 60 #[.pointer (some ⟨g, 0, none⟩), .int .u8 83] w P := by
  go_enter Try.func60, Try.ntmps60
  go_wp2_with (go_at_call 76; refine hp.mono ?_; rintro e w' ⟨b, rfl, hP⟩)
  exact hP
/-- **eager: what it does to the machine.** -/
theorem Stk.eag {w0 w : World} {g gh ch n : Nat} {s s' : Hd.St} {m : Int} (o : s.OK n) (hg0 : w0.heap.size ≤ g) (hne : g ≠ gh) (S : Stk w0 g gh ch s w) (h : Hd.eagS m s = some s') :
    Calls Try.prog 60 #[.pointer (some ⟨g, 0, none⟩), .int .u8 m] w (Did true w0 g gh ch s') := by
  have hl := o.len
  rcases Hd.eagS_cases o h with ⟨rfl, e⟩ | ⟨h1, rfl, hm, hz, rfl⟩ | ⟨h1, rfl, hm, e⟩ | ⟨h1, rfl, hz, rfl⟩
  · refine eag_S w g _ ((S.push o hg0 hne e).mono ?_)
    rintro e w' ⟨rfl, k⟩
    exact ⟨true, rfl, rfl, k⟩
  · exact eag_L w0 w g gh ch n s o hg0 hne S h1 (by omega) hz
  · exact eag_R w0 w g gh ch n s o hg0 hne S h1 s' (by omega) e
  · exact eag_D w0 w g gh ch n s o hg0 hne S h1 hz
theorem Stk.eag_not {w0 w : World} {g gh ch n : Nat} {s : Hd.St} {m : Int} (o : s.OK n) (hg0 : w0.heap.size ≤ g) (hne : g ≠ gh) (S : Stk w0 g gh ch s w) (h : Hd.eagS m s = none) :
    Calls Try.prog 60 #[.pointer (some ⟨g, 0, none⟩), .int .u8 m] w (Same false w) := by
  have hl := o.len
  unfold Hd.eagS at h
  by_cases c : m = 83
  · rw [if_pos c] at h
    subst c
    refine eag_S w g _ ((S.push_not h).mono ?_)
    rintro e w' ⟨rfl, k⟩
    exact ⟨false, rfl, rfl, k⟩
  rw [if_neg c] at h
  by_cases c2 : s.ws.length = 0
  · exact eag_zero w0 w g gh ch s m S c c2
  rw [if_neg c2] at h
  have h1 : 1 ≤ s.ws.length := by omega
  by_cases a76 : m = 76
  · subst a76
    by_cases hm : s.nx < (s.hs.length : Int)
    · by_cases hz : s.hs.getD (Hd.topW s - 1).toNat 0 = 0
      · rw [if_pos ⟨rfl, hm, hz⟩] at h; cases h
      · exact eag_L_has w0 w g gh ch n s o hg0 hne S h1 hm hz
    · exact eag_L_far w0 w g gh ch n s o hg0 hne S h1 hm
  rw [if_neg (fun z => a76 z.1)] at h
  by_cases a82 : m = 82
  · subst a82
    by_cases hm : s.nx < (s.hs.length : Int)
    · rw [if_pos ⟨rfl, hm⟩] at h
      simp only [Hd.pushS, List.length_set] at h
      rw [if_neg (by omega)] at h; cases h
    · exact eag_R_far w0 w g gh ch n s o hg0 hne S h1 hm
  rw [if_neg (fun z => a82 z.1)] at h
  by_cases a68 : m = 68
  · subst a68
    by_cases hz : s.hs.getD (Hd.topW s - 1).toNat 0 = 0
    · exact eag_D_not w0 w g gh ch n s o hg0 hne S h1 hz
    · rw [if_pos ⟨rfl, hz⟩] at h; cases h
  exact eag_other w0 w g gh ch n s m o hg0 hne S h1 c a76 a82 a68
end Go.Proofs.Ytdckgafgidfplaa.Mach
