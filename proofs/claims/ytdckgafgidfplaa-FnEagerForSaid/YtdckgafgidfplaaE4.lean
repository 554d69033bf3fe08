/- The eager machine: what EagerFor does (the memory side). -/
import Derived.Test.YtdckgafgidfplaaProg
import Derived.Below
import Derived.Deep.Draws
import Derived.Deep.AppendLies
import Derived.Maps.AppendAt
import Derived.OwnWalk
import Derived.Laws.BytesArg
import Derived.Laws.MakeOwn
import Derived.Laws.OwnMore
import Derived.Deep.OwnRows
import Derived.Tactics
import Derived.Lib.ConvBytes
import Derived.Laws.Slices
import Derived.WalkKit
import Derived.KernelRfl
import Derived.RowKit3
import Derived.Deep.LoopGhost
import Derived.Deep.QuietTactic
import Derived.BigQuiet
import Derived.WideLaws
import Derived.Deep.DeepCutAuto
import Derived.Deep.CutBlock
import Derived.Deep.RegionHeld3
import Derived.Deep.RegionLaw
import Derived.Laws.Rows
import Derived.Lib.AppendStr
import Derived.ArgAppend
import Derived.OrdersHeld
import Derived.RowKit
import Derived.Test.YtdckgafgidfplaaWWords
import Derived.Test.YtdckgafgidfplaaWLast
import Derived.Test.YtdckgafgidfplaaWQPut
import Derived.Test.YtdckgafgidfplaaWMore
import Derived.Test.YtdckgafgidfplaaE3
namespace Go.Proofs.Ytdckgafgidfplaa.Mach
open Go.RowKit Go.Proofs.YtdckgafgidfplaaW.PrintWords Go.Proofs.YtdckgafgidfplaaW.PrintLast Go.Proofs.YtdckgafgidfplaaW.PrintMore
attribute [local go_sem] max2_int min2_int max_two min_two max_three min_three max_four min_four
set_option linter.unusedVariables false
set_option linter.unusedSimpArgs false
theorem encE83 : Utf8.encode 83 = ⟨#[83]⟩ := by decide
theorem encE76 : Utf8.encode 76 = ⟨#[76]⟩ := by decide
theorem encE82 : Utf8.encode 82 = ⟨#[82]⟩ := by decide
theorem encE68 : Utf8.encode 68 = ⟨#[68]⟩ := by decide
/-- EagerFor's answer for a flat tree. -/
def eagerF (h : List Int) : ByteArray × Bool := Hd.eagF h (2 * h.length + 1) (Hd.St.start h.length) ⟨#[]⟩
def EagP (w : World) (r : ByteArray × Bool) (e : Ending) (w' : World) : Prop := e = .returned (.tuple #[.string r.1, .bool r.2]) ∧ Below w.heap.size w w'
theorem Stk.drewE {w0 w : World} {g gh ch : Nat} {s : Hd.St} (S : Stk w0 g gh ch s w) : Stk w0 g gh ch s w.drew := S.drewN 1
theorem Stk.allocE {w0 w : World} {g gh ch : Nat} {s : Hd.St} (S : Stk w0 g gh ch s w) (o : Obj) : Stk w0 g gh ch s (w.alloc o) := by
  obtain ⟨A, c, hb, hB, hR, hH⟩ := S
  exact ⟨A, c, blk_alloc hb o, below_alloc hB o, Kd.R_alloc hR o, Kd.R_alloc hH o⟩
set_option maxHeartbeats 8000000 in
set_option maxRecDepth 100000 in
theorem eager_no (w : World) (A0 : Option Addr) (n c0 : Nat) (hf : Calls Try.prog 27 #[.slice A0 n c0] (w.alloc (.cells #[.slice A0 n c0] 29)) fun e w' => e = .returned (.bool false) ∧ Below (w.alloc (.cells #[.slice A0 n c0] 29)).heap.size (w.alloc (.cells #[.slice A0 n c0] 29)) w') :
    Calls Try.prog 34 #[.slice A0 n c0] w (EagP w (⟨#[]⟩, false)) := by
  have hB0 : Below w.heap.size w (w.alloc (.cells #[.slice A0 n c0] 29)) := below_alloc (Below.refl _ w) _
  go_enter Try.func34, Try.ntmps34
  go_wp2_with (go_at_call 27; refine hf.mono ?_; rintro e w' ⟨rfl, hd⟩)
  go_ret2
  exact ⟨rfl, hB0.trans (hd.mono (by simp))⟩
def EagI (w1 : World) (g gh n : Nat) (h : List Int) (r : ByteArray × Bool) (gk : Nat) (o : Value) (wr : World) : Prop :=
  ∃ s x, o = .string x ∧ s.OK n ∧ Stk w1 g gh n s wr ∧ Hd.eagF h gk s x = r ∧ Hd.todo n s < gk ∧ x.size + Hd.todo n s ≤ 100
def Hd2P (h : List Int) (s : Hd.St) : Int → Bool := nextP h (s.nx + 1)
set_option maxHeartbeats 16000000 in
set_option maxRecDepth 100000 in
theorem eager_yes (w : World) (adh : Addr) (c0 n : Nat) (h : List Int) (hC : Kd.C (Kd.int .i64) w (some adh) h.length h) (hn : h.length = n) (h1 : 1 ≤ n) (h8 : n ≤ 8)
    (hf : Calls Try.prog 27 #[.slice (some adh) n c0] (w.alloc (.cells #[.slice (some adh) n c0] 29)) fun e w' => e = .returned (.bool true) ∧ Below (w.alloc (.cells #[.slice (some adh) n c0] 29)).heap.size (w.alloc (.cells #[.slice (some adh) n c0] 29)) w') :
    Calls Try.prog 34 #[.slice (some adh) n c0] w (EagP w (eagerF h)) := by
  have hB0 : Below w.heap.size w (w.alloc (.cells #[.slice (some adh) n c0] 29)) := below_alloc (Below.refl _ w) _
  have hC1 := Kd.C_below hC hB0
  have hbx1 : (w.alloc (.cells #[.slice (some adh) n c0] 29)).cell? ⟨w.heap.size, 0, none⟩ = some (.slice (some adh) n c0) := by go_simp
  have hz0 : (w.alloc (.cells #[.slice (some adh) n c0] 29)).heap.size = w.heap.size + 1 := World.size_alloc _ _
  obtain ⟨Bh, hBh⟩ : ∃ Bh, Bh = w.heap.size := ⟨_, rfl⟩
  obtain ⟨RR, hRR⟩ : ∃ RR, RR = eagerF h := ⟨_, rfl⟩
  obtain ⟨rb, rk⟩ := RR
  rw [← hRR]
  have HRR := Aside0.mk hRR
  have HN := Aside0.mk hn
  have HB0 := Aside0.mk hB0
  have HZB := Aside0.mk hBh
  clear hRR hC hn hB0
  go_enter Try.func34, Try.ntmps34
  go_wp2_with (go_at_call 27; refine hf.mono ?_; rintro e W ⟨rfl, hbW⟩)
  clear hf
  rw [← hBh] at hbx1 hz0 ⊢
  generalize w.alloc (.cells #[.slice (some adh) n c0] 29) = w1 at hC1 hbx1 hz0 HB0 hbW ⊢
  have HZ0 := Aside0.mk (show w.heap.size ≤ w1.heap.size by omega)
  have HC1 := Aside0.mk hC1
  have HBX := Aside0.mk hbx1
  have hBhl : Bh < w1.heap.size := by omega
  have HBL := Aside0.mk hBhl
  have hbxW : W.cell? ⟨Bh, 0, none⟩ = some (.slice (some adh) n c0) := (hbW.cell (p := ⟨Bh, 0, none⟩) hBhl).trans hbx1
  have HBW := Aside0.mk hbW
  clear hbx1 hC1 hbW hBh hz0 hBhl
  have hmk : ∀ w : World, (Instr.makeSlice 29 (.int .i64 n) (.int .i64 n)).run Try.prog w = .ok (.slice (some ⟨w.heap.size, 0, none⟩) n n) (w.alloc (.cells (madeCells #[.int .i64 0] n) 3)) :=
    fun w => run_make_row' 29 3 (.int .i64 0) 8 Try.underlying29 info3 rfl .i64 .i64 n (by omega) (by omega) w
  go_wp2
  go_region_held3 (fun w' => w'.cell? ⟨Bh, 0, none⟩ = some (.slice (some adh) n c0)) (go_keep) (fail)
  have hSZ : w1.heap.size ≤ W.heap.size := HBW.out.size
  have hS : Stk w1 (W.heap.size + 1) W.heap.size n (Hd.St.start n) ((W.alloc (.cells (madeCells #[.int .i64 0] n) 3)).alloc (.cells #[.slice none 0 0, .int .i64 0, .slice (some ⟨W.heap.size, 0, none⟩) n n, .int .i64 0] 52)).drew := by
    have hl : (Hd.St.start n).hs.length = n := by simp [Hd.St.start]
    have hz : (W.alloc (.cells (madeCells #[.int .i64 0] n) 3)).heap.size = W.heap.size + 1 := World.size_alloc _ _
    refine ⟨none, 0, ?_, below_drew1 (below_alloc (below_alloc HBW.out _) _), Kd.R_nil _ _ _ _ _, ?_⟩
    · rw [hl, ← hz]; exact blk_new _ _
    · rw [hl]
      refine Kd.R_drew (Kd.R_alloc ?_ _)
      exact Kd.R_of_own (own_made' W w1.heap.size 3 .i64 n hSZ (by omega)) (fun k hk => by simpa [Value.ownBlock] using hk.symm)
  obtain ⟨g, hg⟩ : ∃ g, g = W.heap.size + 1 := ⟨_, rfl⟩
  obtain ⟨gh, hgh⟩ : ∃ gh, gh = W.heap.size := ⟨_, rfl⟩
  have HG := Aside0.mk (show w1.heap.size ≤ g by omega)
  have HNE := Aside0.mk (show g ≠ gh by omega)
  rw [← hg, ← hgh] at hS
  rw [← hg, ← hgh]
  clear hg hgh hSZ hmk HBW hbxW
  have HS0 := Aside0.mk hS
  clear hS
  try clear hHeld
  go_wp2
  go_loopg [4] (2 * n + 1) (fun gk o wr => EagI w1 g gh n h (rb, rk) gk o wr)
  case atStart => exact ⟨Hd.St.start n, ⟨#[]⟩, rfl, Hd.St.OK.start h8, HS0.out, by rw [HRR.out, eagerF, HN.out], by simp [Hd.todo, Hd.St.start]; omega, by show 0 + _ ≤ 100; simp [Hd.todo, Hd.St.start]; omega⟩
  case round =>
    obtain ⟨s, x, rfl, ok, S, hF, htd, hsz⟩ := hrel
    clear HS0
    cases gk with
    | zero => exact absurd htd (by omega)
    | succ k1 =>
      have HOK := Aside0.mk ok
      have HF0 := Aside0.mk hF
      have HTD := Aside0.mk htd
      have HSZ := Aside0.mk hsz
      have hxs : x.size + 1 ≤ 9223372036854775807 := by omega
      obtain ⟨A, c, hb, hB, hR, hH⟩ := id S
      have hbx : wr.cell? ⟨Bh, 0, none⟩ = some (.slice (some adh) n c0) := (hB.cell (p := ⟨Bh, 0, none⟩) HBL.out).trans HBX.out
      have olen := ok.len
      have onx := ok.nx0
      have onx1 := ok.nx1
      rw [olen] at hb
      obtain ⟨q0, q1, q2, -⟩ := cells4 hb
      have hgl := blk_lt hb
      have HB1 := Aside0.mk hB
      have HSS := Aside0.mk S
      clear hb hB hR hH ok hF htd hsz S
      by_cases hlt : s.nx < (n : Int)
      · have hlt1 : s.nx < (n : Int) := hlt
        have HF := Aside0.mk (show (match Hd.eagS (Hd.ruleE h s) s with
          | some t => Hd.eagF h k1 t (x ++ ⟨#[(Hd.ruleE h s).toNat.toUInt8]⟩)
          | none => ((⟨#[]⟩ : ByteArray), false)) = (rb, rk) from by have h_ := HF0.out; rw [Hd.eagF, if_pos (by rw [HN.out]; exact hlt)] at h_; exact h_)
        clear hlt HF0
        go_wp2
        go_region_held3 (fun w' => w'.cell? ⟨g, 1, none⟩ = some (.int .i64 s.nx) ∧ w'.cell? ⟨Bh, 0, none⟩ = some (.slice (some adh) n c0)) (go_keep) (fail)
        try clear hHeld
        have hSd := HSS.out.drewE
        have hbxd : wr.drew.cell? ⟨Bh, 0, none⟩ = some (.slice (some adh) n c0) := hbx
        have q0d : wr.drew.cell? ⟨g, 0, none⟩ = _ := q0
        have q1d : wr.drew.cell? ⟨g, 1, none⟩ = _ := q1
        have hgld : g < wr.drew.heap.size := hgl
        clear HSS hbx q0 q1 q2 hgl HB1
        go_wp2
        generalize wr.drew = wd at hSd hbxd q0d q1d hgld ⊢
        have HSd := Aside0.mk hSd
        clear hSd
        go_wp2
        have onx8 : s.nx ≤ 8 := by omega
        have hne1 : ¬ g = wd.heap.size := by omega
        have new1 := World.new_ne wd _ q1d
        go_region_law (fail)
        · have hwr : IntKind.i64.wrap (s.nx + 1) = s.nx + 1 := (i64_w _).trans (by unfold wrap64; omega)
          rw [hwr]
          clear hwr
          have hS2 := (HSd.out.allocE (.cells #[.int .i64 (s.nx + 1)] 3)).drewE
          have hbn : (wd.alloc (.cells #[.int .i64 (s.nx + 1)] 3)).drew.cell? ⟨wd.heap.size, 0, none⟩ = some (.int .i64 (s.nx + 1)) := by go_simp
          obtain ⟨Bn, hBn⟩ : ∃ Bn, Bn = wd.heap.size := ⟨_, rfl⟩
          rw [← hBn] at hbn ⊢
          generalize (wd.alloc (.cells #[.int .i64 (s.nx + 1)] 3)).drew = W2 at hS2 hbn ⊢
          clear q0d q1d hbxd hgld hne1 new1 HSd hBn
          obtain ⟨A2, c2, hb2, hB2, hR2, hH2⟩ := id hS2
          have hbx2 : W2.cell? ⟨Bh, 0, none⟩ = some (.slice (some adh) n c0) := (hB2.cell (p := ⟨Bh, 0, none⟩) HBL.out).trans HBX.out
          have hCW := Kd.C_below HC1.out hB2
          rw [olen] at hb2
          obtain ⟨r0, -, -, -⟩ := cells4 hb2
          have SS := Aside0.mk hS2
          have hec83 := encE83
          have hec76 := encE76
          have hec82 := encE82
          have hec68 := encE68
          by_cases hw0 : s.ws.length = 0
          · have hrule : Hd.ruleE h s = 83 := by rw [Hd.ruleE, if_pos hw0]
            rw [hw0] at r0
            clear hb2 hB2 hR2 hH2 hS2 hw0 hCW hec76 hec82 hec68 olen
            have HRU := Aside0.mk hrule
            clear hrule
            cases hm : Hd.eagS 83 s with
            | some t =>
              have HM := Aside0.mk hm
              have HN2 := Aside0.mk (show Hd.eagF h k1 t (x ++ ⟨#[83]⟩) = (rb, rk) from by rw [← HF.out, HRU.out, hm]; rfl)
              clear hm
              go_wp2_with (first | (go_at_call 60; (with_reducible refine (Stk.eag HOK.out HG.out HNE.out SS.out HM.out).mono ?_); rintro e w2 ⟨rfl, S2⟩; have HS2 := Aside0.mk S2; clear S2))
              go_roundg k1
              case measure => omega
              case rel => exact ⟨t, _, rfl, HOK.out.eag HM.out, HS2.out, HN2.out, by have := Hd.eag_todo HOK.out HM.out; have := HTD.out; omega, by have := Hd.eag_todo HOK.out HM.out; have := HSZ.out; rw [ByteArray.size_append, show ((⟨#[83]⟩ : ByteArray)).size = 1 from rfl]; omega⟩
            | none =>
              have HM := Aside0.mk hm
              have HN2 := Aside0.mk (show ((⟨#[]⟩ : ByteArray), false) = (rb, rk) from by rw [← HF.out, HRU.out, hm])
              clear hm
              go_wp2_with (first | (go_at_call 60; (with_reducible refine (Stk.eag_not HOK.out HG.out HNE.out SS.out HM.out).mono ?_); rintro e w2 ⟨rfl, nd, rfl⟩))
              go_ret2
              obtain ⟨e1, e2⟩ := Prod.mk.inj HN2.out
              obtain ⟨_, _, _, hB_, _⟩ := SS.out
              exact ⟨by rw [← e1, ← e2]; rfl, HB0.out.trans ((pw_below_drewN hB_ _).mono HZ0.out)⟩
          · have hw1 : 1 ≤ s.ws.length := by omega
            have hwl : s.ws.length ≤ 8 := by have := HOK.out.wl; omega
            have otop := HOK.out.top hw1
            obtain ⟨top, htop⟩ : ∃ u, u = Hd.topW s := ⟨_, rfl⟩
            rw [← htop] at otop
            obtain ⟨N, hN⟩ : ∃ N, N = s.ws.length := ⟨_, rfl⟩
            obtain ⟨j1, hj1⟩ : ∃ j : Int, wrap64 ((N : Int) - 1) = j := ⟨_, rfl⟩
            have v1 : j1 = (N : Int) - 1 := by rw [← hj1]; unfold wrap64; omega
            have hw1' : (IntKind.i64.wrap ((N : Int) - 1)) = j1 := (i64_w _).trans hj1
            have hcN := (Kd.R_reads' hR2).2.1
            have hCws := (Kd.R_reads' hR2).2.2
            obtain ⟨ad, ea, xu⟩ := Kd.at_int hCws j1 (by omega) (by omega)
            subst ea
            rw [show rd s.ws j1 = top from by rw [htop, Hd.topW, rd, show j1.toNat = s.ws.length - 1 by omega]] at xu
            rw [← hN] at r0
            obtain ⟨jl, hjl⟩ : ∃ j : Int, wrap64 (top - 1) = j := ⟨_, rfl⟩
            have hjlw : (IntKind.i64.wrap (top - 1)) = jl := (i64_w _).trans hjl
            have vl : jl = top - 1 := by rw [← hjl]; unfold wrap64; omega
            have hln := HN.out
            obtain ⟨ad1, e1_, xl⟩ := Kd.at_int hCW jl (by omega) (by omega)
            obtain rfl := Option.some.inj e1_
            obtain ⟨ad2, e2_, xn⟩ := Kd.at_int hCW s.nx (by omega) (by omega)
            obtain rfl := Option.some.inj e2_
            have hrl : Hd.ruleE h s = if rd h jl = s.nx + 1 then 76 else if rd h s.nx = top then 82 else if Hd.anyE h s = true then 68 else 83 := by
              rw [Hd.ruleE, if_neg (by omega), ← htop, show h.getD (top - 1).toNat 0 = rd h jl by rw [vl]; rfl, show h.getD s.nx.toNat 0 = rd h s.nx from rfl]
            have HHC := Aside0.mk (show ∀ k : Nat, k < h.length → W2.cell? (adh.add k) = some (.int .i64 (h.getD k 0)) from fun k hk => by
              obtain ⟨ad', e', xc⟩ := Kd.at_int hCW (k : Int) (by omega) (by omega)
              obtain rfl := Option.some.inj e'
              exact xc)
            have HTL := Aside0.mk (show (s.ws.take j1.toNat).length = j1.toNat from by rw [List.length_take]; omega)
            have HWC2 := Aside0.mk (show ∀ k : Nat, k < (s.ws.take j1.toNat).length → W2.cell? (ad.add k) = some (.int .i64 ((s.ws.take j1.toNat).getD k 0)) from fun k hk => by
              rw [HTL.out] at hk
              obtain ⟨ad', e', xc⟩ := Kd.at_int hCws (k : Int) (by omega) (by omega)
              obtain rfl := Option.some.inj e'
              rw [List.getD_eq_getElem?_getD, List.getElem?_take_of_lt hk, ← List.getD_eq_getElem?_getD]
              exact xc)
            have HANY := Aside0.mk (show (s.ws.take j1.toNat).any (Hd2P h s) = Hd.anyE h s from by
              unfold Hd.anyE Hd2P nextP
              rw [show s.ws.length - 1 = j1.toNat by omega, show s.nx + 1 - 1 = s.nx by omega])
            have HX := Aside0.mk (show ∀ x, x ∈ s.ws.take j1.toNat → 1 ≤ x ∧ x ≤ (h.length : Int) from fun x hx => by have := HOK.out.mem x (List.mem_of_mem_take hx); rw [HN.out]; exact this)
            generalize rd h jl = a1 at xl hrl
            generalize rd h s.nx = a2 at xn hrl
            have HRL := Aside0.mk hrl
            obtain ⟨i3, hi3, _⟩ := info_parts info3
            have hcut := cut_to (P := Try.prog) 29 3 .i64 Try.underlying29 hi3 (some ad) N c2 j1 (by omega) (by omega) (by omega)
            have HBX2 := Aside0.mk (show W2.cell? ⟨Bh, 0, none⟩ = some (.slice (some adh) h.length c0) from by rw [HN.out]; exact hbx2)
            have p1 : 0 ≤ j1 := by omega
            have r1 : j1 < (N : Int) := by omega
            have l0 : 0 ≤ jl := by omega
            have l1 : jl < (n : Int) := by omega
            have hN0 : 0 < (N : Int) := by omega
            have HNX := Aside0.mk (show 1 ≤ s.nx + 1 ∧ s.nx + 1 ≤ (h.length : Int) by omega)
            have HJ8 := Aside0.mk (show j1.toNat ≤ 1000 by omega)
            have H8 := Aside0.mk (show h.length ≤ 8 by omega)
            clear hb2 hB2 hR2 hH2 hS2 hw0 hCW hCws hw1 hwl otop htop hN hj1 v1 hcN hjl vl hln hrl olen
            go_wp2
            go_region_held3 (fun w' => w'.cell? ⟨Bh, 0, none⟩ = some (.slice (some adh) n c0) ∧ w'.cell? (adh.add jl.toNat) = some (.int .i64 a1) ∧ w'.cell? ⟨Bn, 0, none⟩ = some (.int .i64 (s.nx + 1))) (go_keep) (fail)
            have SS2 := Aside0.mk SS.out.drewE
            have r0d : W2.drew.cell? ⟨g, 0, none⟩ = _ := r0
            have xnd : W2.drew.cell? (adh.add s.nx.toNat) = _ := xn
            have hbnd : W2.drew.cell? ⟨Bn, 0, none⟩ = _ := hbn
            have hbxd : W2.drew.cell? ⟨Bh, 0, none⟩ = _ := hbx2
            have HBX3 := Aside0.mk (show W2.drew.cell? ⟨Bh, 0, none⟩ = some (.slice (some adh) h.length c0) from HBX2.out)
            have HHC3 := Aside0.mk (show ∀ k : Nat, k < h.length → W2.drew.cell? (adh.add k) = some (.int .i64 (h.getD k 0)) from HHC.out)
            have HWC := Aside0.mk (show ∀ k : Nat, k < (s.ws.take j1.toNat).length → W2.drew.cell? (ad.add k) = some (.int .i64 ((s.ws.take j1.toNat).getD k 0)) from HWC2.out)
            clear SS r0 xn hbn hbx2 HBX2 xl xu HHC HWC2
            have SS := SS2
            clear SS2
            generalize W2.drew = W3 at SS r0d xnd hbnd hbxd HBX3 HHC3 HWC ⊢
            have HCL := Aside0.mk (show ∀ (x : Int) (q : Nat), x ∈ s.ws.take j1.toNat → Calls Try.prog 63 (#[.int .i64 x] ++ #[.pointer (some ⟨Bh, 0, none⟩), .pointer (some ⟨Bn, 0, none⟩)]) (W3.drewN q) (SameV (.bool (Hd2P h s x)) (W3.drewN q)) from
              fun x q hx => clos (W3.drewN q) Bh Bn adh c0 h (s.nx + 1) x HBX3.out hbnd HHC3.out HNX.out (HX.out x hx) H8.out)
            clear HBX3 HHC3
            by_cases he1 : a1 = s.nx + 1
            · have e1 : ((a1 : Int) == s.nx + 1) = true := by simpa using he1
              have hrule : Hd.ruleE h s = 76 := by rw [HRL.out, if_pos he1]
              clear he1
              have HRU := Aside0.mk hrule
              clear hrule
              cases hm : Hd.eagS 76 s with
              | some t =>
                have HM := Aside0.mk hm
                have HN2 := Aside0.mk (show Hd.eagF h k1 t (x ++ ⟨#[76]⟩) = (rb, rk) from by rw [← HF.out, HRU.out, hm]; rfl)
                clear hm
                go_wp2_with (first | (go_at_call 60; (with_reducible refine (Stk.eag HOK.out HG.out HNE.out SS.out HM.out).mono ?_); rintro e w2 ⟨rfl, S2⟩; have HS2 := Aside0.mk S2; clear S2))
                go_roundg k1
                case measure => omega
                case rel => exact ⟨t, _, rfl, HOK.out.eag HM.out, HS2.out, HN2.out, by have := Hd.eag_todo HOK.out HM.out; have := HTD.out; omega, by have := Hd.eag_todo HOK.out HM.out; have := HSZ.out; rw [ByteArray.size_append, show ((⟨#[76]⟩ : ByteArray)).size = 1 from rfl]; omega⟩
              | none =>
                have HM := Aside0.mk hm
                have HN2 := Aside0.mk (show ((⟨#[]⟩ : ByteArray), false) = (rb, rk) from by rw [← HF.out, HRU.out, hm])
                clear hm
                go_wp2_with (first | (go_at_call 60; (with_reducible refine (Stk.eag_not HOK.out HG.out HNE.out SS.out HM.out).mono ?_); rintro e w2 ⟨rfl, nd, rfl⟩))
                go_ret2
                obtain ⟨e1, e2⟩ := Prod.mk.inj HN2.out
                obtain ⟨_, _, _, hB_, _⟩ := SS.out
                exact ⟨by rw [← e1, ← e2]; rfl, HB0.out.trans ((pw_below_drewN hB_ _).mono HZ0.out)⟩
            · have e1 : ((a1 : Int) == s.nx + 1) = false := by simpa using he1
              by_cases he2 : a2 = top
              · have e2 : ((a2 : Int) == top) = true := by simpa using he2
                have hrule : Hd.ruleE h s = 82 := by rw [HRL.out, if_neg he1, if_pos he2]
                clear he1 he2
                have HRU := Aside0.mk hrule
                clear hrule
                cases hm : Hd.eagS 82 s with
                | some t =>
                  have HM := Aside0.mk hm
                  have HN2 := Aside0.mk (show Hd.eagF h k1 t (x ++ ⟨#[82]⟩) = (rb, rk) from by rw [← HF.out, HRU.out, hm]; rfl)
                  clear hm
                  go_wp2_with (first | (go_at_call 60; (with_reducible refine (Stk.eag HOK.out HG.out HNE.out SS.out HM.out).mono ?_); rintro e w2 ⟨rfl, S2⟩; have HS2 := Aside0.mk S2; clear S2))
                  go_roundg k1
                  case measure => omega
                  case rel => exact ⟨t, _, rfl, HOK.out.eag HM.out, HS2.out, HN2.out, by have := Hd.eag_todo HOK.out HM.out; have := HTD.out; omega, by have := Hd.eag_todo HOK.out HM.out; have := HSZ.out; rw [ByteArray.size_append, show ((⟨#[82]⟩ : ByteArray)).size = 1 from rfl]; omega⟩
                | none =>
                  have HM := Aside0.mk hm
                  have HN2 := Aside0.mk (show ((⟨#[]⟩ : ByteArray), false) = (rb, rk) from by rw [← HF.out, HRU.out, hm])
                  clear hm
                  go_wp2_with (first | (go_at_call 60; (with_reducible refine (Stk.eag_not HOK.out HG.out HNE.out SS.out HM.out).mono ?_); rintro e w2 ⟨rfl, nd, rfl⟩))
                  go_ret2
                  obtain ⟨e1, e2⟩ := Prod.mk.inj HN2.out
                  obtain ⟨_, _, _, hB_, _⟩ := SS.out
                  exact ⟨by rw [← e1, ← e2]; rfl, HB0.out.trans ((pw_below_drewN hB_ _).mono HZ0.out)⟩
              · have e2 : ((a2 : Int) == top) = false := by simpa using he2
                have hcf0 := contains_func (Hd2P h s) #[.pointer (some ⟨Bh, 0, none⟩), .pointer (some ⟨Bn, 0, none⟩)] W3 ad c2 (s.ws.take j1.toNat) (by rw [HTL.out]; exact HJ8.out) HCL.out HWC.out
                rw [HANY.out, HTL.out] at hcf0
                cases hany : Hd.anyE h s with
                | true =>
                  have hrule : Hd.ruleE h s = 68 := by rw [HRL.out, if_neg he1, if_neg he2, if_pos hany]
                  rw [hany] at hcf0
                  have hcf := hcf0
                  clear he1 he2 hany hcf0
                  have HRU := Aside0.mk hrule
                  clear hrule
                  cases hm : Hd.eagS 68 s with
                  | some t =>
                    have HM := Aside0.mk hm
                    have HN2 := Aside0.mk (show Hd.eagF h k1 t (x ++ ⟨#[68]⟩) = (rb, rk) from by rw [← HF.out, HRU.out, hm]; rfl)
                    clear hm
                    go_wp2_with (first | (go_at_call 62; (with_reducible refine hcf.mono ?_); rintro e w_ ⟨rfl, mm, rfl⟩) | (go_at_call 60; (with_reducible refine (Stk.eag HOK.out HG.out HNE.out (SS.out.drewN _) HM.out).mono ?_); rintro e w2 ⟨rfl, S2⟩; have HS2 := Aside0.mk S2; clear S2))
                    go_roundg k1
                    case measure => omega
                    case rel => exact ⟨t, _, rfl, HOK.out.eag HM.out, HS2.out, HN2.out, by have := Hd.eag_todo HOK.out HM.out; have := HTD.out; omega, by have := Hd.eag_todo HOK.out HM.out; have := HSZ.out; rw [ByteArray.size_append, show ((⟨#[68]⟩ : ByteArray)).size = 1 from rfl]; omega⟩
                  | none =>
                    have HM := Aside0.mk hm
                    have HN2 := Aside0.mk (show ((⟨#[]⟩ : ByteArray), false) = (rb, rk) from by rw [← HF.out, HRU.out, hm])
                    clear hm
                    go_wp2_with (first | (go_at_call 62; (with_reducible refine hcf.mono ?_); rintro e w_ ⟨rfl, mm, rfl⟩) | (go_at_call 60; (with_reducible refine (Stk.eag_not HOK.out HG.out HNE.out (SS.out.drewN _) HM.out).mono ?_); rintro e w2 ⟨rfl, nd, rfl⟩))
                    go_ret2
                    obtain ⟨e1, e2⟩ := Prod.mk.inj HN2.out
                    obtain ⟨_, _, _, hB_, _⟩ := SS.out
                    exact ⟨by rw [← e1, ← e2]; rfl, HB0.out.trans ((pw_below_drewN hB_ _).mono HZ0.out)⟩
                | false =>
                  have hrule : Hd.ruleE h s = 83 := by rw [HRL.out, if_neg he1, if_neg he2, if_neg (by rw [hany]; simp)]
                  rw [hany] at hcf0
                  have hcf := hcf0
                  clear he1 he2 hany hcf0
                  have HRU := Aside0.mk hrule
                  clear hrule
                  cases hm : Hd.eagS 83 s with
                  | some t =>
                    have HM := Aside0.mk hm
                    have HN2 := Aside0.mk (show Hd.eagF h k1 t (x ++ ⟨#[83]⟩) = (rb, rk) from by rw [← HF.out, HRU.out, hm]; rfl)
                    clear hm
                    go_wp2_with (first | (go_at_call 62; (with_reducible refine hcf.mono ?_); rintro e w_ ⟨rfl, mm, rfl⟩) | (go_at_call 60; (with_reducible refine (Stk.eag HOK.out HG.out HNE.out (SS.out.drewN _) HM.out).mono ?_); rintro e w2 ⟨rfl, S2⟩; have HS2 := Aside0.mk S2; clear S2))
                    go_roundg k1
                    case measure => omega
                    case rel => exact ⟨t, _, rfl, HOK.out.eag HM.out, HS2.out, HN2.out, by have := Hd.eag_todo HOK.out HM.out; have := HTD.out; omega, by have := Hd.eag_todo HOK.out HM.out; have := HSZ.out; rw [ByteArray.size_append, show ((⟨#[83]⟩ : ByteArray)).size = 1 from rfl]; omega⟩
                  | none =>
                    have HM := Aside0.mk hm
                    have HN2 := Aside0.mk (show ((⟨#[]⟩ : ByteArray), false) = (rb, rk) from by rw [← HF.out, HRU.out, hm])
                    clear hm
                    go_wp2_with (first | (go_at_call 62; (with_reducible refine hcf.mono ?_); rintro e w_ ⟨rfl, mm, rfl⟩) | (go_at_call 60; (with_reducible refine (Stk.eag_not HOK.out HG.out HNE.out (SS.out.drewN _) HM.out).mono ?_); rintro e w2 ⟨rfl, nd, rfl⟩))
                    go_ret2
                    obtain ⟨e1, e2⟩ := Prod.mk.inj HN2.out
                    obtain ⟨_, _, _, hB_, _⟩ := SS.out
                    exact ⟨by rw [← e1, ← e2]; rfl, HB0.out.trans ((pw_below_drewN hB_ _).mono HZ0.out)⟩
        · have hwr : IntKind.i64.wrap (s.nx + 1) = s.nx + 1 := (i64_w _).trans (by unfold wrap64; omega)
          rw [hwr]
          clear hwr
          have hS2 := (HSd.out.allocE (.cells #[.int .i64 (s.nx + 1)] 3)).drewE
          have hbn : (wd.alloc (.cells #[.int .i64 (s.nx + 1)] 3)).drew.cell? ⟨wd.heap.size, 0, none⟩ = some (.int .i64 (s.nx + 1)) := by go_simp
          obtain ⟨Bn, hBn⟩ : ∃ Bn, Bn = wd.heap.size := ⟨_, rfl⟩
          rw [← hBn] at hbn ⊢
          generalize (wd.alloc (.cells #[.int .i64 (s.nx + 1)] 3)).drew = W2 at hS2 hbn ⊢
          clear q0d q1d hbxd hgld hne1 new1 HSd hBn
          obtain ⟨A2, c2, hb2, hB2, hR2, hH2⟩ := id hS2
          have hbx2 : W2.cell? ⟨Bh, 0, none⟩ = some (.slice (some adh) n c0) := (hB2.cell (p := ⟨Bh, 0, none⟩) HBL.out).trans HBX.out
          have hCW := Kd.C_below HC1.out hB2
          rw [olen] at hb2
          obtain ⟨r0, -, -, -⟩ := cells4 hb2
          have SS := Aside0.mk hS2
          have hec83 := encE83
          have hec76 := encE76
          have hec82 := encE82
          have hec68 := encE68
          by_cases hw0 : s.ws.length = 0
          · have hrule : Hd.ruleE h s = 83 := by rw [Hd.ruleE, if_pos hw0]
            rw [hw0] at r0
            clear hb2 hB2 hR2 hH2 hS2 hw0 hCW hec76 hec82 hec68 olen
            have HRU := Aside0.mk hrule
            clear hrule
            cases hm : Hd.eagS 83 s with
            | some t =>
              have HM := Aside0.mk hm
              have HN2 := Aside0.mk (show Hd.eagF h k1 t (x ++ ⟨#[83]⟩) = (rb, rk) from by rw [← HF.out, HRU.out, hm]; rfl)
              clear hm
              go_wp2_with (first | (go_at_call 60; (with_reducible refine (Stk.eag HOK.out HG.out HNE.out SS.out HM.out).mono ?_); rintro e w2 ⟨rfl, S2⟩; have HS2 := Aside0.mk S2; clear S2))
              go_roundg k1
              case measure => omega
              case rel => exact ⟨t, _, rfl, HOK.out.eag HM.out, HS2.out, HN2.out, by have := Hd.eag_todo HOK.out HM.out; have := HTD.out; omega, by have := Hd.eag_todo HOK.out HM.out; have := HSZ.out; rw [ByteArray.size_append, show ((⟨#[83]⟩ : ByteArray)).size = 1 from rfl]; omega⟩
            | none =>
              have HM := Aside0.mk hm
              have HN2 := Aside0.mk (show ((⟨#[]⟩ : ByteArray), false) = (rb, rk) from by rw [← HF.out, HRU.out, hm])
              clear hm
              go_wp2_with (first | (go_at_call 60; (with_reducible refine (Stk.eag_not HOK.out HG.out HNE.out SS.out HM.out).mono ?_); rintro e w2 ⟨rfl, nd, rfl⟩))
              go_ret2
              obtain ⟨e1, e2⟩ := Prod.mk.inj HN2.out
              obtain ⟨_, _, _, hB_, _⟩ := SS.out
              exact ⟨by rw [← e1, ← e2]; rfl, HB0.out.trans ((pw_below_drewN hB_ _).mono HZ0.out)⟩
          · have hw1 : 1 ≤ s.ws.length := by omega
            have hwl : s.ws.length ≤ 8 := by have := HOK.out.wl; omega
            have otop := HOK.out.top hw1
            obtain ⟨top, htop⟩ : ∃ u, u = Hd.topW s := ⟨_, rfl⟩
            rw [← htop] at otop
            obtain ⟨N, hN⟩ : ∃ N, N = s.ws.length := ⟨_, rfl⟩
            obtain ⟨j1, hj1⟩ : ∃ j : Int, wrap64 ((N : Int) - 1) = j := ⟨_, rfl⟩
            have v1 : j1 = (N : Int) - 1 := by rw [← hj1]; unfold wrap64; omega
            have hw1' : (IntKind.i64.wrap ((N : Int) - 1)) = j1 := (i64_w _).trans hj1
            have hcN := (Kd.R_reads' hR2).2.1
            have hCws := (Kd.R_reads' hR2).2.2
            obtain ⟨ad, ea, xu⟩ := Kd.at_int hCws j1 (by omega) (by omega)
            subst ea
            rw [show rd s.ws j1 = top from by rw [htop, Hd.topW, rd, show j1.toNat = s.ws.length - 1 by omega]] at xu
            rw [← hN] at r0
            obtain ⟨jl, hjl⟩ : ∃ j : Int, wrap64 (top - 1) = j := ⟨_, rfl⟩
            have hjlw : (IntKind.i64.wrap (top - 1)) = jl := (i64_w _).trans hjl
            have vl : jl = top - 1 := by rw [← hjl]; unfold wrap64; omega
            have hln := HN.out
            obtain ⟨ad1, e1_, xl⟩ := Kd.at_int hCW jl (by omega) (by omega)
            obtain rfl := Option.some.inj e1_
            obtain ⟨ad2, e2_, xn⟩ := Kd.at_int hCW s.nx (by omega) (by omega)
            obtain rfl := Option.some.inj e2_
            have hrl : Hd.ruleE h s = if rd h jl = s.nx + 1 then 76 else if rd h s.nx = top then 82 else if Hd.anyE h s = true then 68 else 83 := by
              rw [Hd.ruleE, if_neg (by omega), ← htop, show h.getD (top - 1).toNat 0 = rd h jl by rw [vl]; rfl, show h.getD s.nx.toNat 0 = rd h s.nx from rfl]
            have HHC := Aside0.mk (show ∀ k : Nat, k < h.length → W2.cell? (adh.add k) = some (.int .i64 (h.getD k 0)) from fun k hk => by
              obtain ⟨ad', e', xc⟩ := Kd.at_int hCW (k : Int) (by omega) (by omega)
              obtain rfl := Option.some.inj e'
              exact xc)
            have HTL := Aside0.mk (show (s.ws.take j1.toNat).length = j1.toNat from by rw [List.length_take]; omega)
            have HWC2 := Aside0.mk (show ∀ k : Nat, k < (s.ws.take j1.toNat).length → W2.cell? (ad.add k) = some (.int .i64 ((s.ws.take j1.toNat).getD k 0)) from fun k hk => by
              rw [HTL.out] at hk
              obtain ⟨ad', e', xc⟩ := Kd.at_int hCws (k : Int) (by omega) (by omega)
              obtain rfl := Option.some.inj e'
              rw [List.getD_eq_getElem?_getD, List.getElem?_take_of_lt hk, ← List.getD_eq_getElem?_getD]
              exact xc)
            have HANY := Aside0.mk (show (s.ws.take j1.toNat).any (Hd2P h s) = Hd.anyE h s from by
              unfold Hd.anyE Hd2P nextP
              rw [show s.ws.length - 1 = j1.toNat by omega, show s.nx + 1 - 1 = s.nx by omega])
            have HX := Aside0.mk (show ∀ x, x ∈ s.ws.take j1.toNat → 1 ≤ x ∧ x ≤ (h.length : Int) from fun x hx => by have := HOK.out.mem x (List.mem_of_mem_take hx); rw [HN.out]; exact this)
            generalize rd h jl = a1 at xl hrl
            generalize rd h s.nx = a2 at xn hrl
            have HRL := Aside0.mk hrl
            obtain ⟨i3, hi3, _⟩ := info_parts info3
            have hcut := cut_to (P := Try.prog) 29 3 .i64 Try.underlying29 hi3 (some ad) N c2 j1 (by omega) (by omega) (by omega)
            have HBX2 := Aside0.mk (show W2.cell? ⟨Bh, 0, none⟩ = some (.slice (some adh) h.length c0) from by rw [HN.out]; exact hbx2)
            have p1 : 0 ≤ j1 := by omega
            have r1 : j1 < (N : Int) := by omega
            have l0 : 0 ≤ jl := by omega
            have l1 : jl < (n : Int) := by omega
            have hN0 : 0 < (N : Int) := by omega
            have HNX := Aside0.mk (show 1 ≤ s.nx + 1 ∧ s.nx + 1 ≤ (h.length : Int) by omega)
            have HJ8 := Aside0.mk (show j1.toNat ≤ 1000 by omega)
            have H8 := Aside0.mk (show h.length ≤ 8 by omega)
            clear hb2 hB2 hR2 hH2 hS2 hw0 hCW hCws hw1 hwl otop htop hN hj1 v1 hcN hjl vl hln hrl olen
            go_wp2
            go_region_held3 (fun w' => w'.cell? ⟨Bh, 0, none⟩ = some (.slice (some adh) n c0) ∧ w'.cell? (adh.add jl.toNat) = some (.int .i64 a1) ∧ w'.cell? ⟨Bn, 0, none⟩ = some (.int .i64 (s.nx + 1))) (go_keep) (fail)
            have SS2 := Aside0.mk SS.out.drewE
            have r0d : W2.drew.cell? ⟨g, 0, none⟩ = _ := r0
            have xnd : W2.drew.cell? (adh.add s.nx.toNat) = _ := xn
            have hbnd : W2.drew.cell? ⟨Bn, 0, none⟩ = _ := hbn
            have hbxd : W2.drew.cell? ⟨Bh, 0, none⟩ = _ := hbx2
            have HBX3 := Aside0.mk (show W2.drew.cell? ⟨Bh, 0, none⟩ = some (.slice (some adh) h.length c0) from HBX2.out)
            have HHC3 := Aside0.mk (show ∀ k : Nat, k < h.length → W2.drew.cell? (adh.add k) = some (.int .i64 (h.getD k 0)) from HHC.out)
            have HWC := Aside0.mk (show ∀ k : Nat, k < (s.ws.take j1.toNat).length → W2.drew.cell? (ad.add k) = some (.int .i64 ((s.ws.take j1.toNat).getD k 0)) from HWC2.out)
            clear SS r0 xn hbn hbx2 HBX2 xl xu HHC HWC2
            have SS := SS2
            clear SS2
            generalize W2.drew = W3 at SS r0d xnd hbnd hbxd HBX3 HHC3 HWC ⊢
            have HCL := Aside0.mk (show ∀ (x : Int) (q : Nat), x ∈ s.ws.take j1.toNat → Calls Try.prog 63 (#[.int .i64 x] ++ #[.pointer (some ⟨Bh, 0, none⟩), .pointer (some ⟨Bn, 0, none⟩)]) (W3.drewN q) (SameV (.bool (Hd2P h s x)) (W3.drewN q)) from
              fun x q hx => clos (W3.drewN q) Bh Bn adh c0 h (s.nx + 1) x HBX3.out hbnd HHC3.out HNX.out (HX.out x hx) H8.out)
            clear HBX3 HHC3
            by_cases he1 : a1 = s.nx + 1
            · have e1 : ((a1 : Int) == s.nx + 1) = true := by simpa using he1
              have hrule : Hd.ruleE h s = 76 := by rw [HRL.out, if_pos he1]
              clear he1
              have HRU := Aside0.mk hrule
              clear hrule
              cases hm : Hd.eagS 76 s with
              | some t =>
                have HM := Aside0.mk hm
                have HN2 := Aside0.mk (show Hd.eagF h k1 t (x ++ ⟨#[76]⟩) = (rb, rk) from by rw [← HF.out, HRU.out, hm]; rfl)
                clear hm
                go_wp2_with (first | (go_at_call 60; (with_reducible refine (Stk.eag HOK.out HG.out HNE.out SS.out HM.out).mono ?_); rintro e w2 ⟨rfl, S2⟩; have HS2 := Aside0.mk S2; clear S2))
                go_roundg k1
                case measure => omega
                case rel => exact ⟨t, _, rfl, HOK.out.eag HM.out, HS2.out, HN2.out, by have := Hd.eag_todo HOK.out HM.out; have := HTD.out; omega, by have := Hd.eag_todo HOK.out HM.out; have := HSZ.out; rw [ByteArray.size_append, show ((⟨#[76]⟩ : ByteArray)).size = 1 from rfl]; omega⟩
              | none =>
                have HM := Aside0.mk hm
                have HN2 := Aside0.mk (show ((⟨#[]⟩ : ByteArray), false) = (rb, rk) from by rw [← HF.out, HRU.out, hm])
                clear hm
                go_wp2_with (first | (go_at_call 60; (with_reducible refine (Stk.eag_not HOK.out HG.out HNE.out SS.out HM.out).mono ?_); rintro e w2 ⟨rfl, nd, rfl⟩))
                go_ret2
                obtain ⟨e1, e2⟩ := Prod.mk.inj HN2.out
                obtain ⟨_, _, _, hB_, _⟩ := SS.out
                exact ⟨by rw [← e1, ← e2]; rfl, HB0.out.trans ((pw_below_drewN hB_ _).mono HZ0.out)⟩
            · have e1 : ((a1 : Int) == s.nx + 1) = false := by simpa using he1
              by_cases he2 : a2 = top
              · have e2 : ((a2 : Int) == top) = true := by simpa using he2
                have hrule : Hd.ruleE h s = 82 := by rw [HRL.out, if_neg he1, if_pos he2]
                clear he1 he2
                have HRU := Aside0.mk hrule
                clear hrule
                cases hm : Hd.eagS 82 s with
                | some t =>
                  have HM := Aside0.mk hm
                  have HN2 := Aside0.mk (show Hd.eagF h k1 t (x ++ ⟨#[82]⟩) = (rb, rk) from by rw [← HF.out, HRU.out, hm]; rfl)
                  clear hm
                  go_wp2_with (first | (go_at_call 60; (with_reducible refine (Stk.eag HOK.out HG.out HNE.out SS.out HM.out).mono ?_); rintro e w2 ⟨rfl, S2⟩; have HS2 := Aside0.mk S2; clear S2))
                  go_roundg k1
                  case measure => omega
                  case rel => exact ⟨t, _, rfl, HOK.out.eag HM.out, HS2.out, HN2.out, by have := Hd.eag_todo HOK.out HM.out; have := HTD.out; omega, by have := Hd.eag_todo HOK.out HM.out; have := HSZ.out; rw [ByteArray.size_append, show ((⟨#[82]⟩ : ByteArray)).size = 1 from rfl]; omega⟩
                | none =>
                  have HM := Aside0.mk hm
                  have HN2 := Aside0.mk (show ((⟨#[]⟩ : ByteArray), false) = (rb, rk) from by rw [← HF.out, HRU.out, hm])
                  clear hm
                  go_wp2_with (first | (go_at_call 60; (with_reducible refine (Stk.eag_not HOK.out HG.out HNE.out SS.out HM.out).mono ?_); rintro e w2 ⟨rfl, nd, rfl⟩))
                  go_ret2
                  obtain ⟨e1, e2⟩ := Prod.mk.inj HN2.out
                  obtain ⟨_, _, _, hB_, _⟩ := SS.out
                  exact ⟨by rw [← e1, ← e2]; rfl, HB0.out.trans ((pw_below_drewN hB_ _).mono HZ0.out)⟩
              · have e2 : ((a2 : Int) == top) = false := by simpa using he2
                have hcf0 := contains_func (Hd2P h s) #[.pointer (some ⟨Bh, 0, none⟩), .pointer (some ⟨Bn, 0, none⟩)] W3 ad c2 (s.ws.take j1.toNat) (by rw [HTL.out]; exact HJ8.out) HCL.out HWC.out
                rw [HANY.out, HTL.out] at hcf0
                cases hany : Hd.anyE h s with
                | true =>
                  have hrule : Hd.ruleE h s = 68 := by rw [HRL.out, if_neg he1, if_neg he2, if_pos hany]
                  rw [hany] at hcf0
                  have hcf := hcf0
                  clear he1 he2 hany hcf0
                  have HRU := Aside0.mk hrule
                  clear hrule
                  cases hm : Hd.eagS 68 s with
                  | some t =>
                    have HM := Aside0.mk hm
                    have HN2 := Aside0.mk (show Hd.eagF h k1 t (x ++ ⟨#[68]⟩) = (rb, rk) from by rw [← HF.out, HRU.out, hm]; rfl)
                    clear hm
                    go_wp2_with (first | (go_at_call 62; (with_reducible refine hcf.mono ?_); rintro e w_ ⟨rfl, mm, rfl⟩) | (go_at_call 60; (with_reducible refine (Stk.eag HOK.out HG.out HNE.out (SS.out.drewN _) HM.out).mono ?_); rintro e w2 ⟨rfl, S2⟩; have HS2 := Aside0.mk S2; clear S2))
                    go_roundg k1
                    case measure => omega
                    case rel => exact ⟨t, _, rfl, HOK.out.eag HM.out, HS2.out, HN2.out, by have := Hd.eag_todo HOK.out HM.out; have := HTD.out; omega, by have := Hd.eag_todo HOK.out HM.out; have := HSZ.out; rw [ByteArray.size_append, show ((⟨#[68]⟩ : ByteArray)).size = 1 from rfl]; omega⟩
                  | none =>
                    have HM := Aside0.mk hm
                    have HN2 := Aside0.mk (show ((⟨#[]⟩ : ByteArray), false) = (rb, rk) from by rw [← HF.out, HRU.out, hm])
                    clear hm
                    go_wp2_with (first | (go_at_call 62; (with_reducible refine hcf.mono ?_); rintro e w_ ⟨rfl, mm, rfl⟩) | (go_at_call 60; (with_reducible refine (Stk.eag_not HOK.out HG.out HNE.out (SS.out.drewN _) HM.out).mono ?_); rintro e w2 ⟨rfl, nd, rfl⟩))
                    go_ret2
                    obtain ⟨e1, e2⟩ := Prod.mk.inj HN2.out
                    obtain ⟨_, _, _, hB_, _⟩ := SS.out
                    exact ⟨by rw [← e1, ← e2]; rfl, HB0.out.trans ((pw_below_drewN hB_ _).mono HZ0.out)⟩
                | false =>
                  have hrule : Hd.ruleE h s = 83 := by rw [HRL.out, if_neg he1, if_neg he2, if_neg (by rw [hany]; simp)]
                  rw [hany] at hcf0
                  have hcf := hcf0
                  clear he1 he2 hany hcf0
                  have HRU := Aside0.mk hrule
                  clear hrule
                  cases hm : Hd.eagS 83 s with
                  | some t =>
                    have HM := Aside0.mk hm
                    have HN2 := Aside0.mk (show Hd.eagF h k1 t (x ++ ⟨#[83]⟩) = (rb, rk) from by rw [← HF.out, HRU.out, hm]; rfl)
                    clear hm
                    go_wp2_with (first | (go_at_call 62; (with_reducible refine hcf.mono ?_); rintro e w_ ⟨rfl, mm, rfl⟩) | (go_at_call 60; (with_reducible refine (Stk.eag HOK.out HG.out HNE.out (SS.out.drewN _) HM.out).mono ?_); rintro e w2 ⟨rfl, S2⟩; have HS2 := Aside0.mk S2; clear S2))
                    go_roundg k1
                    case measure => omega
                    case rel => exact ⟨t, _, rfl, HOK.out.eag HM.out, HS2.out, HN2.out, by have := Hd.eag_todo HOK.out HM.out; have := HTD.out; omega, by have := Hd.eag_todo HOK.out HM.out; have := HSZ.out; rw [ByteArray.size_append, show ((⟨#[83]⟩ : ByteArray)).size = 1 from rfl]; omega⟩
                  | none =>
                    have HM := Aside0.mk hm
                    have HN2 := Aside0.mk (show ((⟨#[]⟩ : ByteArray), false) = (rb, rk) from by rw [← HF.out, HRU.out, hm])
                    clear hm
                    go_wp2_with (first | (go_at_call 62; (with_reducible refine hcf.mono ?_); rintro e w_ ⟨rfl, mm, rfl⟩) | (go_at_call 60; (with_reducible refine (Stk.eag_not HOK.out HG.out HNE.out (SS.out.drewN _) HM.out).mono ?_); rintro e w2 ⟨rfl, nd, rfl⟩))
                    go_ret2
                    obtain ⟨e1, e2⟩ := Prod.mk.inj HN2.out
                    obtain ⟨_, _, _, hB_, _⟩ := SS.out
                    exact ⟨by rw [← e1, ← e2]; rfl, HB0.out.trans ((pw_below_drewN hB_ _).mono HZ0.out)⟩
      · have HF := Aside0.mk (show (x, true) = (rb, rk) from by rw [← HF0.out, Hd.eagF, if_neg (by rw [HN.out]; exact hlt)])
        have hge : ¬ s.nx < (n : Int) := hlt
        clear hlt HF0
        go_wp2
        go_region_held3 (fun w' => w'.cell? ⟨g, 1, none⟩ = some (.int .i64 s.nx) ∧ w'.cell? ⟨Bh, 0, none⟩ = some (.slice (some adh) n c0)) (go_keep) (fail)
        go_wp2
        go_ret2
        obtain ⟨e1, e2⟩ := Prod.mk.inj HF.out
        exact ⟨by rw [← e1, ← e2]; rfl, HB0.out.trans ((below_drew1 HB1.out).mono HZ0.out)⟩

end Go.Proofs.Ytdckgafgidfplaa.Mach
