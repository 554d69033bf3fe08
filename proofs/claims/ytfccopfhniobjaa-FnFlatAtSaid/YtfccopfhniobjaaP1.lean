/- PlaceOf: the search among the trees (the memory side). -/
import Derived.Test.YtfccopfhniobjaaProg
import Derived.Below
import Derived.Deep.Draws
import Derived.Deep.AppendLies
import Derived.Maps.AppendAt
import Derived.OwnWalk
import Derived.Laws.BytesArg
import Derived.Laws.MakeOwn
import Derived.Laws.OwnMore
import Derived.Deep.OwnRows
import Derived.Tactics
import Derived.Lib.ConvBytes
import Derived.Laws.Slices
import Derived.WalkKit
import Derived.KernelRfl
import Derived.RowKit3
import Derived.Deep.LoopGhost
import Derived.Deep.QuietTactic
import Derived.BigQuiet
import Derived.WideLaws
import Derived.Deep.DeepCutAuto
import Derived.Deep.CutBlock
import Derived.Deep.RegionHeld3
import Derived.Deep.RegionLaw
import Derived.Laws.Rows
import Derived.Lib.AppendStr
import Derived.ArgAppend
import Derived.OrdersHeld
import Derived.RowKit
import Derived.Test.YtfccopfhniobjaaWWords
import Derived.Test.YtfccopfhniobjaaWLast
import Derived.Test.YtfccopfhniobjaaWQPut
import Derived.Test.YtfccopfhniobjaaWMore
import Derived.Test.YtfccopfhniobjaaWN
namespace Go.Proofs.Ytfccopfhniobjaa.Plc
open Go.RowKit Go.Proofs.YtfccopfhniobjaaW.PrintWords Go.Proofs.YtfccopfhniobjaaW.PrintLast Go.Proofs.YtfccopfhniobjaaW.PrintMore
attribute [local go_sem] max2_int min2_int max_two min_two max_three min_three max_four min_four
set_option linter.unusedVariables false
set_option linter.unusedSimpArgs false
/-- It hands a value back; the world has drawn, no more. -/
def SameV (v : Value) (w : World) (e : Ending) (w' : World) : Prop := e = .returned v ∧ ∃ m, w' = w.drewN m
theorem elem_at {w : World} {A : Option Addr} {n : Nat} {xs : List (List Int)} (h : Kd.C (Kd.slice 3 (Kd.int .i64)) w A n xs) (i : Nat) (h1 : i < n) : ∃ ad A0 c0, A = some ad ∧ w.cell? (ad.add i) = some (.slice A0 (xs.getD i []).length c0) ∧ (xs.getD i []).length ≤ c0 ∧ (Kd.int .i64).C w A0 (xs.getD i []).length (xs.getD i []) := by
  obtain ⟨ad, c, e, _, hK, hc0⟩ := Kd.C_get h ([] : List Int) (i : Int) (by omega) (by omega)
  have hc : ∀ j u, c[j]? = some u → w.cell? (ad.add ((i : Int).toNat * 1 + j)) = some u := hc0
  obtain ⟨A0, c0, rfl, l0, g0⟩ := hK
  refine ⟨ad, A0, c0, e, ?_, l0, g0⟩
  have hq := hc 0 _ rfl
  rwa [Nat.mul_one, Nat.add_zero] at hq
theorem int_at {w : World} {A : Option Addr} {n : Nat} {xs : List Int} (h : Kd.C (Kd.int .i64) w A n xs) (i : Nat) (h1 : i < n) : ∃ ad, A = some ad ∧ w.cell? (ad.add i) = some (.int .i64 (xs.getD i 0)) := by
  obtain ⟨ad, e, hx⟩ := Kd.at_int h (i : Int) (by omega) (by omega)
  exact ⟨ad, e, hx⟩
theorem take_more {α : Type} [DecidableEq α] {a b : List α} {k : Nat} (d : α) (h : a.take k = b.take k) (ha : k < a.length) (hb : k < b.length) (e : a.getD k d = b.getD k d) : a.take (k + 1) = b.take (k + 1) := by
  rw [List.getD_eq_getElem?_getD, List.getD_eq_getElem?_getD, List.getElem?_eq_getElem ha, List.getElem?_eq_getElem hb] at e
  have e' : a[k] = b[k] := e
  rw [List.take_succ_eq_append_getElem ha, List.take_succ_eq_append_getElem hb, h, e']
set_option maxHeartbeats 8000000 in
set_option maxRecDepth 100000 in
theorem equal_calls (w : World) (A1 A2 : Option Addr) (c1 c2 : Nat) (a b : List Int) (hA : Kd.C (Kd.int .i64) w A1 a.length a) (hB : Kd.C (Kd.int .i64) w A2 b.length b) :
    Calls Try.prog 52 #[.slice A1 a.length c1, .slice A2 b.length c2] w (SameV (.bool (decide (a = b))) w) := by
  by_cases hl : a.length = b.length
  · have hbig : a.length ≤ 9223372036854775807 := hA.2.1
    obtain ⟨n, hn⟩ : ∃ n, n = a.length := ⟨_, rfl⟩
    rw [← hl, ← hn] at hB
    rw [← hl, ← hn]
    rw [← hn] at hA hbig
    have HL := Aside0.mk (show n = b.length by omega)
    have HN := Aside0.mk hn
    have HA := Aside0.mk hA
    have HB := Aside0.mk hB
    clear hn hl hA hB
    go_enter Try.func52, Try.ntmps52
    go_wp2
    go_loopg [5, 13] n (fun gg _ s13 wr => ∃ kk q : Nat, kk ≤ n ∧ n - kk ≤ gg ∧ s13 = .int .i64 kk ∧ wr = w.drewN q ∧ Aside0 (a.take kk = b.take kk))
    case atStart => exact ⟨0, 0, Nat.zero_le _, by omega, rfl, rfl, ⟨rfl⟩⟩
    case round =>
      obtain ⟨kk, q, hkk, hg, rfl, rfl, T⟩ := hrel
      by_cases hlt : kk < n
      · have hltz : (kk : Int) < (n : Int) := by omega
        obtain ⟨ad1, rfl, hx1⟩ := int_at HA.out kk hlt
        obtain ⟨ad2, rfl, hx2⟩ := int_at HB.out kk hlt
        have hy := Aside0.mk (fun e => take_more (0 : Int) T.out (by rw [← HN.out]; exact hlt) (by rw [← HL.out]; exact hlt) e)
        have hne := Aside0.mk (show a = b → a.getD kk 0 = b.getD kk 0 from fun e => by rw [e])
        generalize a.getD kk 0 = x at hx1 hy hne
        generalize b.getD kk 0 = y at hx2 hy hne
        by_cases e : x = y
        · have HQ := Aside0.mk (hy.out e)
          have e1 : ((x : Int) == y) = true := by simpa using e
          have e2 : ((x : Int) != y) = false := by simpa using e
          clear e
          go_wp2
          go_quiet (fail)
          all_goals go_wp2
          go_roundg (n - (kk + 1))
          case measure => omega
          case rel => exact ⟨kk + 1, _, by omega, by omega, by go_num, by first | rfl | exact World.drewN_drewN _ _ _, HQ⟩
        · have HQ := Aside0.mk (show decide (a = b) = false from decide_eq_false fun h => e (hne.out h))
          have e1 : ((x : Int) == y) = false := by simpa using e
          have e2 : ((x : Int) != y) = true := by simpa using e
          clear e
          go_wp2
          go_quiet (fail)
          all_goals go_wp2
          all_goals go_ret
          exact ⟨by rw [HQ.out]; rfl, _, by first | rfl | exact World.drewN_drewN _ _ _⟩
      · have hltz : ¬ (kk : Int) < (n : Int) := by omega
        have : kk = n := by omega
        subst this
        have HQ := Aside0.mk (show decide (a = b) = true from decide_eq_true (by have := T.out; rwa [List.take_of_length_le (by rw [← HN.out]; exact Nat.le_refl _), List.take_of_length_le (by rw [← HL.out]; exact Nat.le_refl _)] at this))
        go_wp2
        go_ret
        exact ⟨by rw [HQ.out]; rfl, q, rfl⟩
  · have HQ := Aside0.mk (show decide (a = b) = false from decide_eq_false fun h => hl (by rw [h]))
    have e0 : ¬ ((a.length : Int) = (b.length : Int)) := by omega
    generalize a.length = n1 at e0 ⊢
    generalize b.length = n2 at e0 ⊢
    have e1 : ((n1 : Int) == (n2 : Int)) = false := by simpa using e0
    have e2 : ((n1 : Int) != (n2 : Int)) = true := by simpa using e0
    clear hA hB e0 hl
    go_enter Try.func52, Try.ntmps52
    go_wp2
    go_ret
    exact ⟨by rw [HQ.out]; rfl, 0, rfl⟩
set_option maxHeartbeats 8000000 in
set_option maxRecDepth 100000 in
theorem clos_calls (w : World) (Bh : Nat) (A1 Ah : Option Addr) (c1 ch : Nat) (a h : List Int) (hbh : w.cell? ⟨Bh, 0, none⟩ = some (.slice Ah h.length ch)) (hA : Kd.C (Kd.int .i64) w A1 a.length a) (hC : Kd.C (Kd.int .i64) w Ah h.length h) :
    Calls Try.prog 51 #[.slice A1 a.length c1, .pointer (some ⟨Bh, 0, none⟩)] w (SameV (.bool (decide (a = h))) w) := by
  have he := equal_calls w A1 Ah c1 ch a h hA hC
  clear hA hC
  go_enter Try.func51, Try.ntmps51
  go_wp2_with (go_at_call 52; refine he.mono ?_; rintro e w' ⟨rfl, m, rfl⟩)
  go_ret
  exact ⟨rfl, m, rfl⟩
/-- The place of a row among rows, counted from i; -1 if it is none. -/
def idxR (h : List Int) : List (List Int) → Int → Int
  | [], _ => -1
  | z :: zs, i => if z = h then i else idxR h zs (i + 1)
theorem idxR_at {h : List Int} {zs : List (List Int)} {k : Nat} (hk : k < zs.length) : idxR h (zs.drop k) k = if zs.getD k [] = h then (k : Int) else idxR h (zs.drop (k + 1)) ((k + 1 : Nat) : Int) := by
  rw [List.drop_eq_getElem_cons hk, idxR, List.getD_eq_getElem?_getD, List.getElem?_eq_getElem hk]; rfl
set_option maxHeartbeats 8000000 in
set_option maxRecDepth 100000 in
theorem idx_calls (w : World) (Bh : Nat) (A Ah : Option Addr) (c ch : Nat) (h : List Int) (zs : List (List Int)) (hbh : w.cell? ⟨Bh, 0, none⟩ = some (.slice Ah h.length ch)) (hC : Kd.C (Kd.int .i64) w Ah h.length h)
    (hz : Kd.C (Kd.slice 3 (Kd.int .i64)) w A zs.length zs) :
    Calls Try.prog 50 #[.slice A zs.length c, .func (.func 51) #[] #[.pointer (some ⟨Bh, 0, none⟩)]] w (SameV (.int .i64 (idxR h zs 0)) w) := by
  have hbig : zs.length ≤ 9223372036854775807 := hz.2.1
  obtain ⟨n, hn⟩ : ∃ n, n = zs.length := ⟨_, rfl⟩
  rw [← hn] at hz hbig ⊢
  have HN := Aside0.mk hn
  have HZ := Aside0.mk hz
  have HC := Aside0.mk hC
  have HBH := Aside0.mk hbh
  clear hn hz hC hbh
  obtain ⟨R, hR⟩ : ∃ R, R = idxR h zs 0 := ⟨_, rfl⟩
  rw [← hR]
  have HR := Aside0.mk hR
  clear hR
  go_enter Try.func50, Try.ntmps50
  go_wp2
  go_loopg [5, 8] n (fun gg _ s8 wr => ∃ kk q : Nat, kk ≤ n ∧ n - kk ≤ gg ∧ s8 = .int .i64 kk ∧ wr = w.drewN q ∧ Aside0 (R = idxR h (zs.drop kk) kk))
  case atStart => exact ⟨0, 0, Nat.zero_le _, by omega, rfl, rfl, ⟨HR.out⟩⟩
  case round =>
    obtain ⟨kk, q, hkk, hg, rfl, rfl, T⟩ := hrel
    by_cases hlt : kk < n
    · have hltz : (kk : Int) < (n : Int) := by omega
      obtain ⟨ad, A0, c0, rfl, hx, -, hE⟩ := elem_at HZ.out kk hlt
      have hy := Aside0.mk (T.out.trans (idxR_at (by rw [← HN.out]; exact hlt)))
      generalize zs.getD kk [] = y at hx hE hy
      have hcall := fun q => clos_calls (w.drewN q) Bh A0 Ah c0 ch y h HBH.out (Kd.C_drewN hE q) (Kd.C_drewN HC.out q)
      clear hE
      by_cases e : y = h
      · have HQ := Aside0.mk (show R = kk by rw [hy.out, if_pos e])
        have e1 : decide (y = h) = true := decide_eq_true e
        simp only [e1] at hcall
        clear e e1 hy
        go_wp2_with (go_at_call 51; refine (hcall _).mono ?_; rintro e w' ⟨rfl, q', rfl⟩)
        go_ret
        exact ⟨by rw [HQ.out]; rfl, _, by first | rfl | exact World.drewN_drewN _ _ _⟩
      · have HQ := Aside0.mk (show R = idxR h (zs.drop (kk + 1)) ((kk + 1 : Nat) : Int) by rw [hy.out, if_neg e])
        have e1 : decide (y = h) = false := decide_eq_false e
        simp only [e1] at hcall
        clear e e1 hy
        go_wp2_with (go_at_call 51; refine (hcall _).mono ?_; rintro e w' ⟨rfl, q', rfl⟩)
        go_roundg (n - (kk + 1))
        case measure => omega
        case rel => exact ⟨kk + 1, _, by omega, by omega, by go_num, by first | rfl | exact World.drewN_drewN _ _ _, HQ⟩
    · have hltz : ¬ (kk : Int) < (n : Int) := by omega
      have : kk = n := by omega
      subst this
      have HQ := Aside0.mk (show R = -1 by rw [T.out, List.drop_eq_nil_of_le (by rw [← HN.out]; exact Nat.le_refl _)]; rfl)
      go_wp2
      go_ret
      exact ⟨by rw [HQ.out]; rfl, q, rfl⟩
def PlcP (w : World) (r : Int) (e : Ending) (w' : World) : Prop := e = .returned (.int .i64 r) ∧ Below w.heap.size w w'
set_option maxHeartbeats 8000000 in
set_option maxRecDepth 100000 in
theorem place_no (w : World) (A0 : Option Addr) (n c0 : Nat) (hf : Calls Try.prog 28 #[.slice A0 n c0] (w.alloc (.cells #[.slice A0 n c0] 23)) fun e w' => e = .returned (.bool false) ∧ Below (w.alloc (.cells #[.slice A0 n c0] 23)).heap.size (w.alloc (.cells #[.slice A0 n c0] 23)) w') :
    Calls Try.prog 29 #[.slice A0 n c0] w (PlcP w (-1)) := by
  have hB0 : Below w.heap.size w (w.alloc (.cells #[.slice A0 n c0] 23)) := below_alloc (Below.refl _ w) _
  go_enter Try.func29, Try.ntmps29
  go_wp2_with (go_at_call 28; refine hf.mono ?_; rintro e w' ⟨rfl, hd⟩)
  go_ret
  exact ⟨rfl, hB0.trans (hd.mono (by simp))⟩
set_option maxHeartbeats 8000000 in
set_option maxRecDepth 100000 in
theorem place_big (w : World) (A0 : Option Addr) (n c0 : Nat) (h6 : 6 < n) (hf : Calls Try.prog 28 #[.slice A0 n c0] (w.alloc (.cells #[.slice A0 n c0] 23)) fun e w' => e = .returned (.bool true) ∧ Below (w.alloc (.cells #[.slice A0 n c0] 23)).heap.size (w.alloc (.cells #[.slice A0 n c0] 23)) w') :
    Calls Try.prog 29 #[.slice A0 n c0] w (PlcP w (-1)) := by
  have hB0 : Below w.heap.size w (w.alloc (.cells #[.slice A0 n c0] 23)) := below_alloc (Below.refl _ w) _
  have hbx1 : (w.alloc (.cells #[.slice A0 n c0] 23)).cell? ⟨w.heap.size, 0, none⟩ = some (.slice A0 n c0) := by go_simp
  have hz0 : (w.alloc (.cells #[.slice A0 n c0] 23)).heap.size = w.heap.size + 1 := World.size_alloc _ _
  have h6' : (n : Int) > 6 := by omega
  go_enter Try.func29, Try.ntmps29
  go_wp2_with (go_at_call 28; refine hf.mono ?_; rintro e W ⟨rfl, hd⟩; have hbxW := (hd.cell (p := ⟨w.heap.size, 0, none⟩) (by rw [World.size_alloc]; exact Nat.lt_succ_self _)).trans hbx1; have HD := Aside0.mk hd; clear hd)
  go_ret
  exact ⟨rfl, hB0.trans (HD.out.mono (by simp))⟩
set_option maxHeartbeats 8000000 in
set_option maxRecDepth 100000 in
theorem place_yes (w : World) (A0 : Option Addr) (n c0 : Nat) (h : List Int) (zs : List (List Int)) (hC : Kd.C (Kd.int .i64) w A0 h.length h) (hn : h.length = n) (h6 : n ≤ 6) (hf : Calls Try.prog 28 #[.slice A0 n c0] (w.alloc (.cells #[.slice A0 n c0] 23)) fun e w' => e = .returned (.bool true) ∧ Below (w.alloc (.cells #[.slice A0 n c0] 23)).heap.size (w.alloc (.cells #[.slice A0 n c0] 23)) w')
    (hfl : ∀ W : World, Calls Try.prog 46 #[.int .i64 n] W fun e w' => ∃ v0_ : Value, e = .returned v0_ ∧ Kd.N (Kd.slice 3 (Kd.int .i64)) 23 w' W.heap.size (fun k_ => (W.heap.size ≤ k_)) v0_ zs ∧ Below W.heap.size W w') :
    Calls Try.prog 29 #[.slice A0 n c0] w (PlcP w (idxR h zs 0)) := by
  subst hn
  have hB0 : Below w.heap.size w (w.alloc (.cells #[.slice A0 h.length c0] 23)) := below_alloc (Below.refl _ w) _
  have hbx1 : (w.alloc (.cells #[.slice A0 h.length c0] 23)).cell? ⟨w.heap.size, 0, none⟩ = some (.slice A0 h.length c0) := by go_simp
  have hC1 := Kd.C_below hC hB0
  have HCZ := Aside0.mk (show ∀ W X : World, Below (w.alloc (.cells #[.slice A0 h.length c0] 23)).heap.size (w.alloc (.cells #[.slice A0 h.length c0] 23)) W → Below W.heap.size W X →
      X.cell? ⟨w.heap.size, 0, none⟩ = some (.slice A0 h.length c0) ∧ Kd.C (Kd.int .i64) X A0 h.length h ∧ Below w.heap.size w X from fun W X hb hb2 => by
    have hs := hb.size
    have hb3 := hb2.mono hs
    have hb4 := hb.trans hb3
    exact ⟨(hb4.cell (p := ⟨w.heap.size, 0, none⟩) (by rw [World.size_alloc]; exact Nat.lt_succ_self _)).trans hbx1, Kd.C_below hC1 hb4, hB0.trans (hb4.mono (by simp))⟩)
  have h6' : ¬ ((h.length : Int) > 6) := by omega
  have HFL := Aside0.mk hfl
  clear hC hC1 hB0 h6 hfl
  obtain ⟨N, hN⟩ : ∃ N, N = h.length := ⟨_, rfl⟩
  have HN := Aside0.mk hN
  rw [← hN] at hf hbx1 HCZ h6' HFL ⊢
  clear hN
  go_enter Try.func29, Try.ntmps29
  go_wp2_with (first
    | (go_at_call 28; refine hf.mono ?_; rintro e W ⟨rfl, hd⟩; have hbxW := (hd.cell (p := ⟨w.heap.size, 0, none⟩) (by rw [World.size_alloc]; exact Nat.lt_succ_self _)).trans hbx1; have HD := Aside0.mk hd; clear hd)
    | (go_at_call 46; refine (HFL.out _).mono ?_; rintro e X ⟨v0_, rfl, hS, hd2⟩; have HD2 := Aside0.mk hd2; clear hd2; obtain ⟨Az, cz, rfl⟩ := Kd.N_slice hS; have HSC := Aside0.mk (Kd.N_reads' hS).2.2; clear hS)
    | (go_at_call 50; have hq := HCZ.out _ _ HD.out HD2.out; refine (idx_calls _ _ _ _ _ _ h _ (by rw [← HN.out]; exact hq.1) (by rw [← HN.out]; exact hq.2.1) HSC.out).mono ?_; rintro e w' ⟨rfl, m, rfl⟩))
  go_ret
  exact ⟨rfl, pw_below_drewN (HCZ.out _ _ HD.out HD2.out).2.2 _⟩
end Go.Proofs.Ytfccopfhniobjaa.Plc
