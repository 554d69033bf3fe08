/- The machine with a stack: what left and MovesFor do (the memory side). -/
import Derived.Test.YtdckgafgidfplaaProg
import Derived.Below
import Derived.Deep.Draws
import Derived.Deep.AppendLies
import Derived.Maps.AppendAt
import Derived.OwnWalk
import Derived.Laws.BytesArg
import Derived.Laws.MakeOwn
import Derived.Laws.OwnMore
import Derived.Deep.OwnRows
import Derived.Tactics
import Derived.Lib.ConvBytes
import Derived.Laws.Slices
import Derived.WalkKit
import Derived.KernelRfl
import Derived.RowKit3
import Derived.Deep.LoopGhost
import Derived.Deep.QuietTactic
import Derived.BigQuiet
import Derived.WideLaws
import Derived.Deep.DeepCutAuto
import Derived.Deep.CutBlock
import Derived.Deep.RegionHeld3
import Derived.Deep.RegionLaw
import Derived.Laws.Rows
import Derived.Lib.AppendStr
import Derived.ArgAppend
import Derived.OrdersHeld
import Derived.RowKit
import Derived.Test.YtdckgafgidfplaaWWords
import Derived.Test.YtdckgafgidfplaaWLast
import Derived.Test.YtdckgafgidfplaaWQPut
import Derived.Test.YtdckgafgidfplaaWMore
import Derived.Test.YtdckgafgidfplaaM2
namespace Go.Proofs.Ytdckgafgidfplaa.Mach
open Go.RowKit Go.Proofs.YtdckgafgidfplaaW.PrintWords Go.Proofs.YtdckgafgidfplaaW.PrintLast Go.Proofs.YtdckgafgidfplaaW.PrintMore
attribute [local go_sem] max2_int min2_int max_two min_two max_three min_three max_four min_four
set_option linter.unusedVariables false
set_option linter.unusedSimpArgs false
theorem rd_getD (l : List Int) (k : Nat) : rd l (k : Int) = l.getD k 0 := rfl
def Is (v : Int) (w : World) (e : Ending) (w' : World) : Prop := e = .returned (.int .i64 v) ∧ w' = w
set_option maxHeartbeats 8000000 in
set_option maxRecDepth 100000 in
theorem left_is (w0 w : World) (g gh ch n : Nat) (s : Hd.St) (o : s.OK n) (h1 : 1 ≤ n) (S : Stk w0 g gh ch s w) (A0 : Option Addr) (c0 : Nat) (h : List Int) (hC : Kd.C (Kd.int .i64) w A0 h.length h) (hl : h.length = n) (x : Int) :
    Calls Try.prog 53 #[.pointer (some ⟨g, 0, none⟩), .slice A0 n c0, .int .i64 x] w (Is (Hd.leftN h s x) w) := by
  rw [← hl]
  obtain ⟨A, c, hb, -, -, hH⟩ := S
  obtain ⟨h0, -, hc2, -⟩ := cells4 hb
  have olen := o.len
  have h8 := o.n8
  obtain ⟨ad, ea, -⟩ := Kd.at_int hC 0 (by omega) (by omega)
  subst ea
  have HC := Aside0.mk (show ∀ k : Nat, k < h.length → w.cell? (ad.add k) = some (.int .i64 (h.getD k 0)) from fun k hk => by
    obtain ⟨ad', e', xc⟩ := Kd.at_int hC (k : Int) (by omega) (by omega)
    obtain rfl := Option.some.inj e'
    exact xc)
  have HH := Aside0.mk (show ∀ k : Nat, k < h.length → w.cell? ⟨gh, k, none⟩ = some (.int .i64 (s.hs.getD k 0)) from fun k hk => (Kd.R_cell (0 : Int) hH (k : Int) (by omega) (by omega)).1)
  obtain ⟨N, hN⟩ : ∃ N, N = h.length := ⟨_, rfl⟩
  have HF := Aside0.mk (show Hd.leftN h s x = Hd.leftC h s.hs x N from by rw [hN]; rfl)
  rw [show s.hs.length = N by omega] at hc2
  rw [← hN] at HC HH ⊢
  have hN8 : N ≤ 8 := by omega
  clear hb hC hH hl olen hN
  go_enter Try.func53, Try.ntmps53
  go_wp2
  go_loop [7, 12] (fun m i => ∃ k : Nat, k ≤ N ∧ i = .int .i64 k ∧ m = .int .i64 (Hd.leftC h s.hs x k)) (fun _ i => N - (intOf i).toNat)
  case atStart => exact ⟨0, Nat.zero_le _, rfl, rfl⟩
  case round =>
    obtain ⟨k, hk, rfl, rfl⟩ := hrel
    have hbd := Hd.leftC_bd h s.hs x k
    by_cases hlt : k < N
    · have hx := HC.out k hlt
      have hy := HH.out k hlt
      have HS := Aside0.mk (show Hd.leftC h s.hs x (k + 1) = Hd.leftC h s.hs x k + if h.getD k 0 = x ∧ s.hs.getD k 0 = 0 then 1 else 0 from rfl)
      generalize h.getD k 0 = a at hx HS
      generalize s.hs.getD k 0 = b at hy HS
      generalize hq : Hd.leftC h s.hs x k = q at hbd HS ⊢
      have HQ := Aside0.mk hq
      clear hq
      have hlt' : (k : Int) < (N : Int) := by omega
      have h0k : (0 : Int) ≤ (k : Int) := by omega
      by_cases e1 : a = x
      · have e1' : ((a : Int) == x) = true := by simpa using e1
        by_cases e2 : b = 0
        · have e2' : ((b : Int) == 0) = true := by simpa using e2
          have HV := Aside0.mk (show Hd.leftC h s.hs x (k + 1) = q + 1 by rw [HS.out, if_pos ⟨e1, e2⟩])
          clear e1 e2
          go_wp2
          go_round
          case rel => exact ⟨k + 1, by omega, by go_num, by rw [HV.out]⟩
          case measure => simp [intOf]; omega
        · have e2' : ((b : Int) == 0) = false := by simpa using e2
          have HV := Aside0.mk (show Hd.leftC h s.hs x (k + 1) = q by rw [HS.out, if_neg (fun z => e2 z.2)]; omega)
          clear e1 e2
          go_wp2
          go_round
          case rel => exact ⟨k + 1, by omega, by go_num, by rw [HV.out]⟩
          case measure => simp [intOf]; omega
      · have e1' : ((a : Int) == x) = false := by simpa using e1
        have HV := Aside0.mk (show Hd.leftC h s.hs x (k + 1) = q by rw [HS.out, if_neg (fun z => e1 z.1)]; omega)
        clear e1
        go_wp2
        go_round
        case rel => exact ⟨k + 1, by omega, by go_num, by rw [HV.out]⟩
        case measure => simp [intOf]; omega
    · obtain rfl : k = N := by omega
      go_wp2
      go_ret
      exact ⟨by rw [HF.out]; rfl, rfl⟩
theorem Stk.drew {w0 w : World} {g gh ch : Nat} {s : Hd.St} (S : Stk w0 g gh ch s w) : Stk w0 g gh ch s w.drew := by
  obtain ⟨A, c, hb, hB, hR, hH⟩ := S
  exact ⟨A, c, blk_drew hb, below_drew1 hB, Kd.R_drew hR, Kd.R_drew hH⟩
/-- A move, done or not: what the machine is behind it. -/
def stepOf (m : Int) (s : Hd.St) : Hd.St := match Hd.moveS m s with
  | some t => t
  | none => s
def Stepped (w0 : World) (g gh ch : Nat) (s : Hd.St) (e : Ending) (w' : World) : Prop := ∃ b, e = .returned (.bool b) ∧ Stk w0 g gh ch s w'
theorem Stk.stepped {w0 w : World} {g gh ch n : Nat} {s : Hd.St} (S : Stk w0 g gh ch s w) (o : s.OK n) (hg0 : w0.heap.size ≤ g) (hne : g ≠ gh) (m : Int) :
    Calls Try.prog 54 #[.pointer (some ⟨g, 0, none⟩), .int .u8 m] w (Stepped w0 g gh ch (stepOf m s)) := by
  unfold stepOf
  cases e : Hd.moveS m s with
  | some t =>
    refine (S.move o hg0 hne e).mono ?_
    rintro e w' ⟨rfl, k⟩
    exact ⟨true, rfl, k⟩
  | none =>
    refine (S.move_not e).mono ?_
    rintro e w' ⟨rfl, m, rfl⟩
    exact ⟨false, rfl, S.drewN m⟩
def MovI (w : World) (g gh n : Nat) (h : List Int) (o i : Value) (wr : World) : Prop := ∃ k : Nat, k ≤ 2 * n - 1 ∧ i = .int .i64 k ∧ o = .string (Hd.outM h k) ∧ (Hd.stM h k).OK n ∧ Stk w g gh n (Hd.stM h k) wr
theorem MovI.next {w w2 : World} {g gh n k : Nat} {h : List Int} {s : Hd.St} {x : ByteArray} {o i : Value} {m : Int} (hk : k < 2 * n - 1) (hs : s = Hd.stM h k ∧ x = Hd.outM h k) (hr : Hd.ruleM h s = m) (ok : s.OK n) (S2 : Stk w g gh n (stepOf m s) w2)
    (ho : o = .string (x ++ ⟨#[m.toNat.toUInt8]⟩)) (hi : i = .int .i64 ((k + 1 : Nat) : Int)) : MovI w g gh n h o i w2 := by
  obtain ⟨rfl, rfl⟩ := hs
  have e : Hd.stM h (k + 1) = stepOf m (Hd.stM h k) := by rw [← hr]; rfl
  refine ⟨k + 1, by omega, hi, by rw [ho, Hd.outM, hr], ?_, by rw [e]; exact S2⟩
  rw [Hd.stM]; exact ok.step h
theorem enc83 : Utf8.encode 83 = ⟨#[83]⟩ := by decide
theorem enc76 : Utf8.encode 76 = ⟨#[76]⟩ := by decide
theorem enc82 : Utf8.encode 82 = ⟨#[82]⟩ := by decide
/-- MovesFor's answer for a flat tree. -/
def movesF (h : List Int) : ByteArray := Hd.outM h (2 * h.length - 1)
def MovP (w : World) (b : ByteArray) (ok : Bool) (e : Ending) (w' : World) : Prop := e = .returned (.tuple #[.string b, .bool ok]) ∧ Below w.heap.size w w'
set_option maxHeartbeats 8000000 in
set_option maxRecDepth 100000 in
theorem moves_no (w : World) (A0 : Option Addr) (c0 : Nat) (h : List Int) (hf : Calls Try.prog 27 #[.slice A0 h.length c0] w fun e w' => e = .returned (.bool false) ∧ Below w.heap.size w w') :
    Calls Try.prog 26 #[.slice A0 h.length c0] w (MovP w ⟨#[]⟩ false) := by
  go_enter Try.func26, Try.ntmps26
  go_wp2_with (go_at_call 27; refine hf.mono ?_; rintro e w' ⟨rfl, hd⟩)
  go_ret2
  exact ⟨rfl, hd⟩
set_option maxHeartbeats 8000000 in
set_option maxRecDepth 100000 in
theorem moves_yes (w : World) (A0 : Option Addr) (c0 n : Nat) (h : List Int) (hC : Kd.C (Kd.int .i64) w A0 h.length h) (hn : h.length = n) (h1 : 1 ≤ n) (h8 : n ≤ 8)
    (hf : Calls Try.prog 27 #[.slice A0 h.length c0] w fun e w' => e = .returned (.bool true) ∧ Below w.heap.size w w') :
    Calls Try.prog 26 #[.slice A0 h.length c0] w (MovP w (movesF h) true) := by
  rw [hn] at hf ⊢
  obtain ⟨adh, ea0, -⟩ := Kd.at_int hC 0 (by omega) (by omega)
  subst ea0
  have HN := Aside0.mk hn
  have HC := Aside0.mk hC
  clear hn hC
  go_enter Try.func26, Try.ntmps26
  go_wp2_with (go_at_call 27; refine hf.mono ?_; rintro e W ⟨rfl, hbW⟩)
  have HB := Aside0.mk hbW
  clear hf hbW
  have hmk : ∀ w : World, (Instr.makeSlice 29 (.int .i64 n) (.int .i64 n)).run Try.prog w = .ok (.slice (some ⟨w.heap.size, 0, none⟩) n n) (w.alloc (.cells (madeCells #[.int .i64 0] n) 3)) :=
    fun w => run_make_row' 29 3 (.int .i64 0) 8 Try.underlying29 info3 rfl .i64 .i64 n (by omega) (by omega) w
  go_region_held3 (fun _ => True) (trivial) (fail)
  have hSZ : w.heap.size ≤ W.heap.size := HB.out.size
  have hS : Stk w (W.heap.size + 1) W.heap.size n (Hd.St.start n) ((W.alloc (.cells (madeCells #[.int .i64 0] n) 3)).alloc (.cells #[.slice none 0 0, .int .i64 0, .slice (some ⟨W.heap.size, 0, none⟩) n n, .int .i64 0] 52)).drew := by
    have hl : (Hd.St.start n).hs.length = n := by simp [Hd.St.start]
    have hz : (W.alloc (.cells (madeCells #[.int .i64 0] n) 3)).heap.size = W.heap.size + 1 := World.size_alloc _ _
    refine ⟨none, 0, ?_, below_drew1 (below_alloc (below_alloc HB.out _) _), Kd.R_nil _ _ _ _ _, ?_⟩
    · rw [hl, ← hz]; exact blk_new _ _
    · rw [hl]
      refine Kd.R_drew (Kd.R_alloc ?_ _)
      exact Kd.R_of_own (own_made' W w.heap.size 3 .i64 n hSZ (by omega)) (fun k hk => by simpa [Value.ownBlock] using hk.symm)
  obtain ⟨g, hg⟩ : ∃ g, g = W.heap.size + 1 := ⟨_, rfl⟩
  obtain ⟨gh, hgh⟩ : ∃ gh, gh = W.heap.size := ⟨_, rfl⟩
  have HG := Aside0.mk (show w.heap.size ≤ g by omega)
  have HNE := Aside0.mk (show g ≠ gh by omega)
  rw [← hg, ← hgh] at hS
  rw [← hg, ← hgh]
  clear hg hgh hSZ hmk HB
  have HS0 := Aside0.mk hS
  clear hS
  go_wp2
  go_loopw [4, 22] (fun o i wr => MovI w g gh n h o i wr) (fun _ i _ => 2 * n - (intOf i).toNat)
  case atStart => exact ⟨0, by omega, rfl, rfl, by rw [show Hd.stM h 0 = Hd.St.start n from by rw [← HN.out]; rfl]; exact Hd.St.OK.start h8, by rw [show Hd.stM h 0 = Hd.St.start n from by rw [← HN.out]; rfl]; exact HS0.out⟩
  case round =>
    obtain ⟨k, hk, rfl, rfl, ok, S⟩ := hrel
    have HSZ := Aside0.mk (Hd.outM_size h k)
    clear HS0
    by_cases hklt : k < 2 * n - 1
    · obtain ⟨s, hs⟩ : ∃ s, s = Hd.stM h k := ⟨_, rfl⟩
      obtain ⟨x, hx⟩ : ∃ x, x = Hd.outM h k := ⟨_, rfl⟩
      rw [← hs] at ok S
      have hxs : x.size + 1 ≤ 9223372036854775807 := by rw [hx, HSZ.out]; omega
      have hec83 := enc83
      have hec76 := enc76
      have hec82 := enc82
      rw [← hx]
      have HS := Aside0.mk (And.intro hs hx)
      clear hs hx
      have hlt : (k : Int) < 2 * (n : Int) - 1 := by omega
      have HOK := Aside0.mk ok
      obtain ⟨A, c, hb, hB, hR, -⟩ := id S
      have HCW0 := Aside0.mk (Kd.C_below HC.out hB)
      have SS0 := Aside0.mk S
      clear S
      by_cases hw2 : s.ws.length < 2
      · have hrule : Hd.ruleM h s = 83 := by rw [Hd.ruleM, if_pos hw2]
        obtain ⟨h0, -, -, -⟩ := cells4 hb
        have SS := SS0
        have HCW := HCW0
        have low : Int := 0
        have top : Int := 0
        have hQ : Hd.leftN h s low = Hd.leftN h s low := rfl
        have HQ1 := Aside0.mk hQ
        have hQ' : Hd.leftN h s top = Hd.leftN h s top := rfl
        have HQ2 := Aside0.mk hQ'
        have hw2' : ¬ (1 < s.ws.length) := by omega
        clear hb hB hR ok hQ hQ'
        have HR := Aside0.mk hrule
        clear hrule
        go_wp2_with (first | (go_at_call 53; (with_reducible refine (left_is w _ g gh n n s HOK.out h1 SS.out (some adh) c0 h HCW.out HN.out _).mono ?_); rintro e w' ⟨rfl, rfl⟩; (first | rw [← HQ1.out] | rw [← HQ2.out])) | (go_at_call 54; (with_reducible refine (SS.out.stepped HOK.out HG.out HNE.out 83).mono ?_); rintro e w2 ⟨b2, rfl, S2⟩; have HS2 := Aside0.mk S2; clear S2))
        go_roundw
        case rel => exact MovI.next (m := 83) hklt HS.out HR.out HOK.out HS2.out rfl (by go_num)
        case measure => simp [intOf]; omega
      · have hw : 2 ≤ s.ws.length := by omega
        have olow := ok.low hw
        have otop := ok.top (by omega)
        have hwl : s.ws.length ≤ 8 := by have := ok.wl; have := ok.nx1; omega
        obtain ⟨low, hlow⟩ : ∃ b, b = Hd.lowW s := ⟨_, rfl⟩
        obtain ⟨top, htop⟩ : ∃ u, u = Hd.topW s := ⟨_, rfl⟩
        rw [← hlow] at olow
        rw [← htop] at otop
        obtain ⟨N, hN⟩ : ∃ N, N = s.ws.length := ⟨_, rfl⟩
        obtain ⟨j2, hj2⟩ : ∃ j : Int, wrap64 ((N : Int) - 2) = j := ⟨_, rfl⟩
        obtain ⟨j1, hj1⟩ : ∃ j : Int, wrap64 ((N : Int) - 1) = j := ⟨_, rfl⟩
        have q2 : j2 = (N : Int) - 2 := by rw [← hj2]; unfold wrap64; omega
        have q1 : j1 = (N : Int) - 1 := by rw [← hj1]; unfold wrap64; omega
        have hw2 : (IntKind.i64.wrap ((N : Int) - 2)) = j2 := (i64_w _).trans hj2
        have hw1 : (IntKind.i64.wrap ((N : Int) - 1)) = j1 := (i64_w _).trans hj1
        obtain ⟨ad, ea, xb⟩ := Kd.at_int (Kd.R_reads' hR).2.2 j2 (by omega) (by omega)
        obtain ⟨ad', ea', xu⟩ := Kd.at_int (Kd.R_reads' hR).2.2 j1 (by omega) (by omega)
        subst ea
        obtain rfl := Option.some.inj ea'
        rw [show rd s.ws j2 = low from by rw [hlow, Hd.lowW, rd, show j2.toNat = s.ws.length - 2 by omega]] at xb
        rw [show rd s.ws j1 = top from by rw [htop, Hd.topW, rd, show j1.toNat = s.ws.length - 1 by omega]] at xu
        rw [← hN] at hb
        have p2 : 0 ≤ j2 := by omega
        have p1 : 0 ≤ j1 := by omega
        have r2 : j2 < (N : Int) := by omega
        have r1 : j1 < (N : Int) := by omega
        have hN2 : (1 : Int) < (N : Int) := by omega
        -- the tree's heads of both words
        obtain ⟨jl, hjl⟩ : ∃ j : Int, wrap64 (low - 1) = j := ⟨_, rfl⟩
        obtain ⟨ju, hju⟩ : ∃ j : Int, wrap64 (top - 1) = j := ⟨_, rfl⟩
        have hjlw : (IntKind.i64.wrap (low - 1)) = jl := (i64_w _).trans hjl
        have hjuw : (IntKind.i64.wrap (top - 1)) = ju := (i64_w _).trans hju
        have vl : jl = low - 1 := by rw [← hjl]; unfold wrap64; omega
        have vu : ju = top - 1 := by rw [← hju]; unfold wrap64; omega
        have l0 : 0 ≤ jl := by omega
        have l1 : jl < (n : Int) := by omega
        have u0 : 0 ≤ ju := by omega
        have u1 : ju < (n : Int) := by omega
        have HCW := Aside0.mk (Kd.C_drew HCW0.out)
        have SS := Aside0.mk SS0.out.drew
        have hhl := HN.out
        obtain ⟨ad2, e2, xl⟩ := Kd.at_int HCW.out jl (by omega) (by omega)
        obtain rfl := Option.some.inj e2
        obtain ⟨ad3, e3, xv⟩ := Kd.at_int HCW.out ju (by omega) (by omega)
        obtain rfl := Option.some.inj e3
        have HA := Aside0.mk (show h.getD (Hd.lowW s - 1).toNat 0 = rd h jl by rw [← hlow, vl]; rfl)
        have HV := Aside0.mk (show h.getD (Hd.topW s - 1).toNat 0 = rd h ju by rw [← htop, vu]; rfl)
        generalize rd h jl = a1 at xl HA
        generalize rd h ju = a2 at xv HV
        obtain ⟨y1, hy1⟩ : ∃ y, y = Hd.leftN h s low := ⟨_, rfl⟩
        obtain ⟨y2, hy2⟩ : ∃ y, y = Hd.leftN h s top := ⟨_, rfl⟩
        have HQ1 := Aside0.mk hy1
        have HQ2 := Aside0.mk hy2
        obtain ⟨h0, -, -, -⟩ := cells4 hb
        have HL := Aside0.mk hlow
        have HT := Aside0.mk htop
        have HW := Aside0.mk hw
        have hrule : Hd.ruleM h s = if a1 = top ∧ y1 = 0 then 76 else if a2 = low ∧ y2 = 0 then 82 else 83 := by
          rw [Hd.ruleM, if_neg (by omega), HA.out, HV.out, ← HL.out, ← HT.out, ← HQ1.out, ← HQ2.out]
        clear hb hB hR hy1 hy2 hlow htop hN q2 q1 hj2 hj1 vl vu hjl hju olow otop hwl hhl hw ok HA HV SS0 HCW0
        go_wp2
        go_region_held3 (fun w' => w'.cell? ⟨g, 0, none⟩ = some (.slice (some ad) N c) ∧ w'.cell? (ad.add j2.toNat) = some (.int .i64 low) ∧ w'.cell? (ad.add j1.toNat) = some (.int .i64 top)) (go_keep) (fail)
        generalize wr.drew = wr2 at SS HCW xl xv ⊢
        clear hw2 hw1 xb xu h0
        by_cases he1 : a1 = top
        · have e1 : ((a1 : Int) == top) = true := by simpa using he1
          by_cases hz1 : y1 = 0
          · have z1 : ((y1 : Int) == 0) = true := by simpa using hz1
            replace hrule : Hd.ruleM h s = 76 := by rw [hrule, if_pos ⟨he1, hz1⟩]
            clear he1 hz1
            have HR := Aside0.mk hrule
            clear hrule
            go_wp2_with (first | (go_at_call 53; (with_reducible refine (left_is w _ g gh n n s HOK.out h1 SS.out (some adh) c0 h HCW.out HN.out _).mono ?_); rintro e w' ⟨rfl, rfl⟩; (first | rw [← HQ1.out] | rw [← HQ2.out])) | (go_at_call 54; (with_reducible refine (SS.out.stepped HOK.out HG.out HNE.out 76).mono ?_); rintro e w2 ⟨b2, rfl, S2⟩; have HS2 := Aside0.mk S2; clear S2))
            go_roundw
            case rel => exact MovI.next (m := 76) hklt HS.out HR.out HOK.out HS2.out rfl (by go_num)
            case measure => simp [intOf]; omega

          · have z1 : ((y1 : Int) == 0) = false := by simpa using hz1
            replace hrule : Hd.ruleM h s = if a2 = low ∧ y2 = 0 then 82 else 83 := by rw [hrule, if_neg (fun z => hz1 z.2)]
            clear he1 hz1
            by_cases he2 : a2 = low
            · have e2 : ((a2 : Int) == low) = true := by simpa using he2
              by_cases hz2 : y2 = 0
              · have z2 : ((y2 : Int) == 0) = true := by simpa using hz2
                replace hrule : Hd.ruleM h s = 82 := by rw [hrule, if_pos ⟨he2, hz2⟩]
                clear he2 hz2
                have HR := Aside0.mk hrule
                clear hrule
                go_wp2_with (first | (go_at_call 53; (with_reducible refine (left_is w _ g gh n n s HOK.out h1 SS.out (some adh) c0 h HCW.out HN.out _).mono ?_); rintro e w' ⟨rfl, rfl⟩; (first | rw [← HQ1.out] | rw [← HQ2.out])) | (go_at_call 54; (with_reducible refine (SS.out.stepped HOK.out HG.out HNE.out 82).mono ?_); rintro e w2 ⟨b2, rfl, S2⟩; have HS2 := Aside0.mk S2; clear S2))
                go_roundw
                case rel => exact MovI.next (m := 82) hklt HS.out HR.out HOK.out HS2.out rfl (by go_num)
                case measure => simp [intOf]; omega

              · have z2 : ((y2 : Int) == 0) = false := by simpa using hz2
                replace hrule : Hd.ruleM h s = 83 := by rw [hrule, if_neg (fun z => hz2 z.2)]
                clear he2 hz2
                have HR := Aside0.mk hrule
                clear hrule
                go_wp2_with (first | (go_at_call 53; (with_reducible refine (left_is w _ g gh n n s HOK.out h1 SS.out (some adh) c0 h HCW.out HN.out _).mono ?_); rintro e w' ⟨rfl, rfl⟩; (first | rw [← HQ1.out] | rw [← HQ2.out])) | (go_at_call 54; (with_reducible refine (SS.out.stepped HOK.out HG.out HNE.out 83).mono ?_); rintro e w2 ⟨b2, rfl, S2⟩; have HS2 := Aside0.mk S2; clear S2))
                go_roundw
                case rel => exact MovI.next (m := 83) hklt HS.out HR.out HOK.out HS2.out rfl (by go_num)
                case measure => simp [intOf]; omega

            · have e2 : ((a2 : Int) == low) = false := by simpa using he2
              replace hrule : Hd.ruleM h s = 83 := by rw [hrule, if_neg (fun z => he2 z.1)]
              clear he2
              have HR := Aside0.mk hrule
              clear hrule
              go_wp2_with (first | (go_at_call 53; (with_reducible refine (left_is w _ g gh n n s HOK.out h1 SS.out (some adh) c0 h HCW.out HN.out _).mono ?_); rintro e w' ⟨rfl, rfl⟩; (first | rw [← HQ1.out] | rw [← HQ2.out])) | (go_at_call 54; (with_reducible refine (SS.out.stepped HOK.out HG.out HNE.out 83).mono ?_); rintro e w2 ⟨b2, rfl, S2⟩; have HS2 := Aside0.mk S2; clear S2))
              go_roundw
              case rel => exact MovI.next (m := 83) hklt HS.out HR.out HOK.out HS2.out rfl (by go_num)
              case measure => simp [intOf]; omega
        · have e1 : ((a1 : Int) == top) = false := by simpa using he1
          replace hrule : Hd.ruleM h s = if a2 = low ∧ y2 = 0 then 82 else 83 := by rw [hrule, if_neg (fun z => he1 z.1)]
          clear he1
          by_cases he2 : a2 = low
          · have e2 : ((a2 : Int) == low) = true := by simpa using he2
            by_cases hz2 : y2 = 0
            · have z2 : ((y2 : Int) == 0) = true := by simpa using hz2
              replace hrule : Hd.ruleM h s = 82 := by rw [hrule, if_pos ⟨he2, hz2⟩]
              clear he2 hz2
              have HR := Aside0.mk hrule
              clear hrule
              go_wp2_with (first | (go_at_call 53; (with_reducible refine (left_is w _ g gh n n s HOK.out h1 SS.out (some adh) c0 h HCW.out HN.out _).mono ?_); rintro e w' ⟨rfl, rfl⟩; (first | rw [← HQ1.out] | rw [← HQ2.out])) | (go_at_call 54; (with_reducible refine (SS.out.stepped HOK.out HG.out HNE.out 82).mono ?_); rintro e w2 ⟨b2, rfl, S2⟩; have HS2 := Aside0.mk S2; clear S2))
              go_roundw
              case rel => exact MovI.next (m := 82) hklt HS.out HR.out HOK.out HS2.out rfl (by go_num)
              case measure => simp [intOf]; omega

            · have z2 : ((y2 : Int) == 0) = false := by simpa using hz2
              replace hrule : Hd.ruleM h s = 83 := by rw [hrule, if_neg (fun z => hz2 z.2)]
              clear he2 hz2
              have HR := Aside0.mk hrule
              clear hrule
              go_wp2_with (first | (go_at_call 53; (with_reducible refine (left_is w _ g gh n n s HOK.out h1 SS.out (some adh) c0 h HCW.out HN.out _).mono ?_); rintro e w' ⟨rfl, rfl⟩; (first | rw [← HQ1.out] | rw [← HQ2.out])) | (go_at_call 54; (with_reducible refine (SS.out.stepped HOK.out HG.out HNE.out 83).mono ?_); rintro e w2 ⟨b2, rfl, S2⟩; have HS2 := Aside0.mk S2; clear S2))
              go_roundw
              case rel => exact MovI.next (m := 83) hklt HS.out HR.out HOK.out HS2.out rfl (by go_num)
              case measure => simp [intOf]; omega

          · have e2 : ((a2 : Int) == low) = false := by simpa using he2
            replace hrule : Hd.ruleM h s = 83 := by rw [hrule, if_neg (fun z => he2 z.1)]
            clear he2
            have HR := Aside0.mk hrule
            clear hrule
            go_wp2_with (first | (go_at_call 53; (with_reducible refine (left_is w _ g gh n n s HOK.out h1 SS.out (some adh) c0 h HCW.out HN.out _).mono ?_); rintro e w' ⟨rfl, rfl⟩; (first | rw [← HQ1.out] | rw [← HQ2.out])) | (go_at_call 54; (with_reducible refine (SS.out.stepped HOK.out HG.out HNE.out 83).mono ?_); rintro e w2 ⟨b2, rfl, S2⟩; have HS2 := Aside0.mk S2; clear S2))
            go_roundw
            case rel => exact MovI.next (m := 83) hklt HS.out HR.out HOK.out HS2.out rfl (by go_num)
            case measure => simp [intOf]; omega
    · obtain rfl : k = 2 * n - 1 := by omega
      have hge : ¬ ((2 * n - 1 : Nat) : Int) < 2 * (n : Int) - 1 := by omega
      obtain ⟨A, c, hb, hB, hR, -⟩ := id S
      have HB := Aside0.mk hB
      clear hb hR hB S ok
      go_wp2
      go_ret2
      exact ⟨by unfold movesF; rw [HN.out]; rfl, HB.out⟩
end Go.Proofs.Ytdckgafgidfplaa.Mach
