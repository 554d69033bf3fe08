/- The eager machine: what EagerFor does (the memory side). -/
import Derived.Test.YtdckgafgidfplaaProg
import Derived.Below
import Derived.Deep.Draws
import Derived.Deep.AppendLies
import Derived.Maps.AppendAt
import Derived.OwnWalk
import Derived.Laws.BytesArg
import Derived.Laws.MakeOwn
import Derived.Laws.OwnMore
import Derived.Deep.OwnRows
import Derived.Tactics
import Derived.Lib.ConvBytes
import Derived.Laws.Slices
import Derived.WalkKit
import Derived.KernelRfl
import Derived.RowKit3
import Derived.Deep.LoopGhost
import Derived.Deep.QuietTactic
import Derived.BigQuiet
import Derived.WideLaws
import Derived.Deep.DeepCutAuto
import Derived.Deep.CutBlock
import Derived.Deep.RegionHeld3
import Derived.Deep.RegionLaw
import Derived.Laws.Rows
import Derived.Lib.AppendStr
import Derived.ArgAppend
import Derived.OrdersHeld
import Derived.RowKit
import Derived.Test.YtdckgafgidfplaaWWords
import Derived.Test.YtdckgafgidfplaaWLast
import Derived.Test.YtdckgafgidfplaaWQPut
import Derived.Test.YtdckgafgidfplaaWMore
import Derived.Test.YtdckgafgidfplaaE1
namespace Go.Proofs.Ytdckgafgidfplaa.Mach
open Go.RowKit Go.Proofs.YtdckgafgidfplaaW.PrintWords Go.Proofs.YtdckgafgidfplaaW.PrintLast Go.Proofs.YtdckgafgidfplaaW.PrintMore
attribute [local go_sem] max2_int min2_int max_two min_two max_three min_three max_four min_four
set_option linter.unusedVariables false
set_option linter.unusedSimpArgs false
/-- It hands a value back; the world has drawn, no more. -/
def SameV (v : Value) (w : World) (e : Ending) (w' : World) : Prop := e = .returned v ∧ ∃ m, w' = w.drewN m
/-- Does a word have to do with the next one? -/
def nextP (h : List Int) (nx x : Int) : Bool := decide (h.getD (nx - 1).toNat 0 = x) || decide (h.getD (x - 1).toNat 0 = nx)
set_option maxHeartbeats 8000000 in
set_option maxRecDepth 100000 in
theorem clos (w : World) (Bh Bn : Nat) (ad : Addr) (c0 : Nat) (h : List Int) (nx x : Int) (hbh : w.cell? ⟨Bh, 0, none⟩ = some (.slice (some ad) h.length c0)) (hbn : w.cell? ⟨Bn, 0, none⟩ = some (.int .i64 nx))
    (hC : ∀ k : Nat, k < h.length → w.cell? (ad.add k) = some (.int .i64 (h.getD k 0))) (n1 : 1 ≤ nx ∧ nx ≤ h.length) (x1 : 1 ≤ x ∧ x ≤ h.length) (h8 : h.length ≤ 8) :
    Calls Try.prog 63 #[.int .i64 x, .pointer (some ⟨Bh, 0, none⟩), .pointer (some ⟨Bn, 0, none⟩)] w (SameV (.bool (nextP h nx x)) w) := by
  obtain ⟨N, hN⟩ : ∃ N, N = h.length := ⟨_, rfl⟩
  obtain ⟨ja, hja⟩ : ∃ j : Int, wrap64 (nx - 1) = j := ⟨_, rfl⟩
  obtain ⟨jb, hjb⟩ : ∃ j : Int, wrap64 (x - 1) = j := ⟨_, rfl⟩
  have wja : (IntKind.i64.wrap (nx - 1)) = ja := (i64_w _).trans hja
  have wjb : (IntKind.i64.wrap (x - 1)) = jb := (i64_w _).trans hjb
  have va : ja = nx - 1 := by rw [← hja]; unfold wrap64; omega
  have vb : jb = x - 1 := by rw [← hjb]; unfold wrap64; omega
  have xa := hC ja.toNat (by omega)
  have xb := hC jb.toNat (by omega)
  have HP := Aside0.mk (show nextP h nx x = (decide (h.getD ja.toNat 0 = x) || decide (h.getD jb.toNat 0 = nx)) by rw [va, vb]; rfl)
  generalize h.getD ja.toNat 0 = a at xa HP
  generalize h.getD jb.toNat 0 = b at xb HP
  rw [← hN] at hbh
  have a0 : 0 ≤ ja := by omega
  have a1 : ja < (N : Int) := by omega
  have b0 : 0 ≤ jb := by omega
  have b1 : jb < (N : Int) := by omega
  clear hC n1 x1 h8 hN hja hjb va vb
  by_cases e : a = x
  · have e1 : ((a : Int) == x) = true := by simpa using e
    have HV := Aside0.mk (show nextP h nx x = true by rw [HP.out]; simp [e])
    clear e HP
    go_enter Try.func63, Try.ntmps63
    go_wp2
    go_quiet (fail)
    all_goals go_wp2
    all_goals go_ret
    all_goals exact ⟨by rw [HV.out]; rfl, _, rfl⟩
  · have e1 : ((a : Int) == x) = false := by simpa using e
    have HV := Aside0.mk (show nextP h nx x = decide (b = nx) by rw [HP.out]; simp [e])
    clear e HP
    by_cases f : b = nx
    · have f1 : ((b : Int) == nx) = true := by simpa using f
      have HW := Aside0.mk (show nextP h nx x = true by rw [HV.out]; simp [f])
      clear f HV
      go_enter Try.func63, Try.ntmps63
      go_wp2
      go_quiet (fail)
      all_goals go_wp2
      all_goals go_ret
      all_goals exact ⟨by rw [HW.out]; rfl, _, rfl⟩
    · have f1 : ((b : Int) == nx) = false := by simpa using f
      have HW := Aside0.mk (show nextP h nx x = false by rw [HV.out]; simp [f])
      clear f HV
      go_enter Try.func63, Try.ntmps63
      go_wp2
      go_quiet (fail)
      all_goals go_wp2
      all_goals go_ret
      all_goals exact ⟨by rw [HW.out]; rfl, _, rfl⟩
def IdxP (p : Int → Bool) (zs : List Int) (w : World) (e : Ending) (w' : World) : Prop := ∃ r : Int, e = .returned (.int .i64 r) ∧ ((r = -1 ∧ zs.any p = false) ∨ (0 ≤ r ∧ zs.any p = true)) ∧ ∃ m, w' = w.drewN m
set_option maxHeartbeats 8000000 in
set_option maxRecDepth 100000 in
theorem idx_func (p : Int → Bool) (lb : Array Value) (w : World) (ad : Addr) (c : Nat) (zs : List Int) (hbig : zs.length ≤ 1000)
    (hp : ∀ (x : Int) (q : Nat), x ∈ zs → Calls Try.prog 63 (#[.int .i64 x] ++ lb) (w.drewN q) (SameV (.bool (p x)) (w.drewN q))) (hc : ∀ j : Nat, j < zs.length → w.cell? (ad.add j) = some (.int .i64 (zs.getD j 0))) :
    Calls Try.prog 82 #[.slice (some ad) zs.length c, .func (.func 63) #[] lb] w (IdxP p zs w) := by
  have HP := Aside0.mk hp
  have HC := Aside0.mk hc
  obtain ⟨n, hn⟩ : ∃ n, n = zs.length := ⟨_, rfl⟩
  have HN := Aside0.mk hn
  rw [← hn] at hbig HC ⊢
  clear hp hc hn
  go_enter Try.func82, Try.ntmps82
  go_wp2
  go_loopg [5, 8] n (fun gg _ s8 wr => ∃ kk q : Nat, kk ≤ n ∧ n - kk ≤ gg ∧ s8 = .int .i64 kk ∧ wr = w.drewN q ∧ Aside0 ((zs.take kk).any p = false))
  case atStart => exact ⟨0, 0, Nat.zero_le _, by omega, rfl, rfl, ⟨rfl⟩⟩
  case round =>
    obtain ⟨kk, q, hkk, hg, rfl, rfl, A⟩ := hrel
    by_cases hlt : kk < n
    · have hltz : (kk : Int) < (n : Int) := by omega
      have hcell : w.cell? (ad.add kk) = some (.int .i64 (zs.getD kk 0)) := HC.out kk hlt
      have hmem : zs.getD kk 0 ∈ zs := Hd.mem_getD (by rw [← HN.out]; exact hlt)
      have hy := Aside0.mk (show (zs.take (kk + 1)).any p = ((zs.take kk).any p || p (zs.getD kk 0)) by
        rw [List.take_succ_eq_append_getElem (by rw [← HN.out]; exact hlt), List.any_append, List.getD_eq_getElem?_getD, List.getElem?_eq_getElem (by rw [← HN.out]; exact hlt)]; simp)
      have hin := Aside0.mk (show p (zs.getD kk 0) = true → zs.any p = true from fun e => List.any_eq_true.2 ⟨_, hmem, e⟩)
      have hcall := fun q => HP.out (zs.getD kk 0) q hmem
      generalize zs.getD kk 0 = y at hcell hy hin hcall
      clear hmem
      cases hq : p y with
      | true =>
        rw [hq] at hcall
        have HQ := Aside0.mk (hin.out hq)
        clear hq
        go_wp2_with (go_at_call 63; refine (hcall _).mono ?_; rintro e w' ⟨rfl, q', rfl⟩)
        go_ret
        exact ⟨_, rfl, .inr ⟨by omega, HQ.out⟩, _, rfl⟩
      | false =>
        rw [hq] at hcall
        have HQ := Aside0.mk (show (zs.take (kk + 1)).any p = false by rw [hy.out, A.out, hq]; rfl)
        clear hq
        go_wp2_with (go_at_call 63; refine (hcall _).mono ?_; rintro e w' ⟨rfl, q', rfl⟩)
        go_roundg (n - (kk + 1))
        case measure => omega
        case rel => exact ⟨kk + 1, _, by omega, by omega, by go_num, rfl, HQ⟩
    · have hltz : ¬ (kk : Int) < (n : Int) := by omega
      have : kk = n := by omega
      subst this
      have HA := Aside0.mk (show zs.any p = false by have := A.out; rw [HN.out, List.take_length] at this; exact this)
      go_wp2
      go_ret
      exact ⟨_, rfl, .inl ⟨rfl, HA.out⟩, q, rfl⟩
set_option maxHeartbeats 8000000 in
set_option maxRecDepth 100000 in
theorem contains_func (p : Int → Bool) (lb : Array Value) (w : World) (ad : Addr) (c : Nat) (zs : List Int) (hbig : zs.length ≤ 1000)
    (hp : ∀ (x : Int) (q : Nat), x ∈ zs → Calls Try.prog 63 (#[.int .i64 x] ++ lb) (w.drewN q) (SameV (.bool (p x)) (w.drewN q))) (hc : ∀ j : Nat, j < zs.length → w.cell? (ad.add j) = some (.int .i64 (zs.getD j 0))) :
    Calls Try.prog 62 #[.slice (some ad) zs.length c, .func (.func 63) #[] lb] w (SameV (.bool (zs.any p)) w) := by
  have hi := idx_func p lb w ad c zs hbig hp hc
  clear hp hc
  go_enter Try.func62, Try.ntmps62
  go_wp2_with (go_at_call 82; refine hi.mono ?_; rintro e w' ⟨r, rfl, hr, m, rfl⟩)
  go_ret
  refine ⟨?_, m, rfl⟩
  rcases hr with ⟨rfl, ha⟩ | ⟨h0, ha⟩
  · rw [ha]; rfl
  · have hd : decide (0 ≤ r) = true := decide_eq_true h0
    rw [ha]
    show Ending.returned (Value.bool (decide (0 ≤ r))) = _
    rw [hd]
end Go.Proofs.Ytdckgafgidfplaa.Mach
