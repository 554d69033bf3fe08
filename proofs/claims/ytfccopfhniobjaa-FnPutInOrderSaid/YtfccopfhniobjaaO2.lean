/- An order, sorted and looked through: what slices.Sort, slices.Sorted and OrderOk do (the memory side). -/
import Derived.Test.YtfccopfhniobjaaO1
import Derived.Shelf.SlLaysM
import Derived.Shelf.SortM.Plain
import Derived.Lib.SlKeysI
import Derived.Below
import Derived.KernelRfl
namespace Go.Proofs.Ytfccopfhniobjaa.Ord
open Go.RowKit Go.Shelf Go.Sort Go.Maps
set_option linter.unusedVariables false
set_option linter.unusedSimpArgs false
attribute [local go_sem] Oper.semAt_some

def sortA_ren : Go.Shelf.Ren := ⟨fun | 5 => 60 | 8 => 74 | 7 => 73 | 19 => 84 | 20 => 85 | 10 => 75 | 11 => 76 | 12 => 77 | 13 => 78 | 14 => 79 | 15 => 80 | 16 => 81 | 17 => 82 | 18 => 83 | 30 => 86 | 31 => 87 | 32 => 88 | 33 => 89 | 34 => 90 | 35 => 91 | 40 => 92 | n => n, fun | 23 => 23 | 25 => 3 | 3 => 3 | 32 => 67 | 22 => 23 | 0 => 0 | 44 => 76 | 46 => 78 | 4 => 4 | 36 => 70 | 35 => 69 | 41 => 73 | 5 => 5 | 9 => 9 | 53 => 79 | 57 => 83 | 63 => 85 | 64 => 37 | n => n, fun | n => n⟩
set_option maxHeartbeats 4000000 in
theorem sortA : Go.Proofs.SlLaysM.n5 Try.prog sortA_ren := {
  mixed := by kernel_rfl,
  f5 := ⟨Try.f60.name, by decide, Try.func60.trans (congrArg some (by kernel_rfl))⟩,
  f7 := ⟨Try.f73.name, by decide, Try.func73.trans (congrArg some (by kernel_rfl))⟩,
  f8 := Try.func74.trans (congrArg some (by kernel_rfl)),
  f10 := ⟨Try.f75.name, by decide, Try.func75.trans (congrArg some (by kernel_rfl))⟩,
  f11 := ⟨Try.f76.name, by decide, Try.func76.trans (congrArg some (by kernel_rfl))⟩,
  f12 := ⟨Try.f77.name, by decide, Try.func77.trans (congrArg some (by kernel_rfl))⟩,
  f13 := ⟨Try.f78.name, by decide, Try.func78.trans (congrArg some (by kernel_rfl))⟩,
  f14 := ⟨Try.f79.name, by decide, Try.func79.trans (congrArg some (by kernel_rfl))⟩,
  f15 := ⟨Try.f80.name, by decide, Try.func80.trans (congrArg some (by kernel_rfl))⟩,
  f16 := ⟨Try.f81.name, by decide, Try.func81.trans (congrArg some (by kernel_rfl))⟩,
  f17 := ⟨Try.f82.name, by decide, Try.func82.trans (congrArg some (by kernel_rfl))⟩,
  f18 := ⟨Try.f83.name, by decide, Try.func83.trans (congrArg some (by kernel_rfl))⟩,
  f19 := Try.func84.trans (congrArg some (by kernel_rfl)),
  f20 := Try.func85.trans (congrArg some (by kernel_rfl)),
  f30 := ⟨Try.f86.name, by decide, Try.func86.trans (congrArg some (by kernel_rfl))⟩,
  f31 := Try.func87.trans (congrArg some (by kernel_rfl)),
  f32 := Try.func88.trans (congrArg some (by kernel_rfl)),
  f33 := ⟨Try.f89.name, by decide, Try.func89.trans (congrArg some (by kernel_rfl))⟩,
  f34 := ⟨Try.f90.name, by decide, Try.func90.trans (congrArg some (by kernel_rfl))⟩,
  f35 := ⟨Try.f91.name, by decide, Try.func91.trans (congrArg some (by kernel_rfl))⟩,
  f40 := ⟨Try.f92.name, by decide, Try.func92.trans (congrArg some (by kernel_rfl))⟩,
  t0 := Try.underlying0,
  a0 := Try.isAgg0,
  z0 := Try.sizeOf0,
  v0 := Try.zeroValue0,
  t3 := Try.underlying3,
  a3 := Try.isAgg3,
  z3 := Try.sizeOf3,
  v3 := Try.zeroValue3,
  t4 := Try.underlying4,
  a4 := Try.isAgg4,
  z4 := Try.sizeOf4,
  v4 := Try.zeroValue4,
  t5 := Try.underlying5,
  a5 := Try.isAgg5,
  z5 := Try.sizeOf5,
  v5 := Try.zeroValue5,
  t9 := Try.underlying9,
  a9 := Try.isAgg9,
  z9 := Try.sizeOf9,
  v9 := Try.zeroValue9,
  t22 := Try.underlying23,
  a22 := Try.isAgg23,
  z22 := Try.sizeOf23,
  v22 := Try.zeroValue23,
  t23 := Try.underlying23,
  a23 := Try.isAgg23,
  z23 := Try.sizeOf23,
  v23 := Try.zeroValue23,
  t25 := Try.underlying3,
  a25 := Try.isAgg3,
  z25 := Try.sizeOf3,
  v25 := Try.zeroValue3,
  t32 := Try.underlying67,
  a32 := Try.isAgg67,
  z32 := Try.sizeOf67,
  v32 := Try.zeroValue67,
  t35 := Try.underlying69,
  a35 := Try.isAgg69,
  z35 := Try.sizeOf69,
  v35 := Try.zeroValue69,
  t36 := Try.underlying70,
  a36 := Try.isAgg70,
  z36 := Try.sizeOf70,
  v36 := Try.zeroValue70,
  t41 := Try.underlying73,
  a41 := Try.isAgg73,
  z41 := Try.sizeOf73,
  v41 := Try.zeroValue73,
  t44 := Try.underlying76,
  a44 := Try.isAgg76,
  z44 := Try.sizeOf76,
  v44 := Try.zeroValue76,
  t46 := Try.underlying78,
  a46 := Try.isAgg78,
  z46 := Try.sizeOf78,
  v46 := Try.zeroValue78,
  t53 := Try.underlying79,
  a53 := Try.isAgg79,
  z53 := Try.sizeOf79,
  v53 := Try.zeroValue79,
  t57 := Try.underlying83,
  a57 := Try.isAgg83,
  z57 := Try.sizeOf83,
  v57 := Try.zeroValue83,
  t63 := Try.underlying85,
  a63 := Try.isAgg85,
  z63 := Try.sizeOf85,
  v63 := Try.zeroValue85,
  t64 := Try.underlying37,
  a64 := Try.isAgg37,
  z64 := Try.sizeOf37,
  v64 := Try.zeroValue37 }

/-- What slices.Sort does. -/
theorem sort_is (blk off cap : Nat) (zs : List Int) (w : World) (hH : Holds (Value.int .i64) w blk off zs.toArray) (hblk : blk < w.heap.size) (hsz : zs.length < 4611686018427387904) :
    Calls Try.prog 60 #[.slice (some ⟨blk, off, none⟩) zs.length cap] w fun e w' => e = .returned (.tuple #[]) ∧ ∃ n os, w' = grow (putRow (Value.int .i64) (Sort.ahead w n) blk off (zs.mergeSort fun x y => decide (x ≤ y)).toArray) os :=
  AnyM.slices_Sort_int sortA blk off cap zs w hH hblk hsz

set_option maxRecDepth 100000 in
set_option maxHeartbeats 2000000 in
/-- slices.Sorted of what slices.Values has handed back: a row of the call's own, sorted. -/
theorem sorted_in (n : Nat) (hn : 5 ≤ n) (n₀ : Nat) (lb : Array Value) (zs : List Int) (hp : 0 < zs.length) (hlen : zs.length ≤ 100) (w : World) (hn₀ : n₀ ≤ w.heap.size)
    (hseq : SeqStopsK Fence.wide (n - 1 - 1 - 1) Try.prog 61 lb (fun x : Int => #[Value.int .i64 x]) (Below n₀) (fun ys => ys = zs) (fun _ => True) zs.length w) :
    CallsIn Fence.wide n Try.prog 37 #[.func (.func 61) #[] lb] w fun e W' => ∃ g cap cur, e = .returned (.slice (some ⟨g, 0, none⟩) zs.length cap) ∧ W'.heap[g]? = some (.cells cur 3 (0, 0)) ∧ cur.toList.take zs.length = (zs.mergeSort fun x y => decide (x ≤ y)).map (Value.int .i64) ∧ Below w.heap.size w W' := by
  have h1 : 1 ≤ n := by omega
  refine callsIn_of_wp Try.func37 rfl trivial ?_ rfl
  simp only [Try.ntmps37, List.size_toArray, List.length_cons, List.length_nil, Nat.reduceAdd, Nat.reduceSub, Array.replicate_succ, Array.replicate_zero, List.push_toArray, List.append_toArray, List.nil_append, List.cons_append]
  have hf59 : Fence.wide.fn 59 := trivial
  have hf60 : Fence.wide.fn 60 := trivial
  gi_wp2_with (gi_at_call 59; refine (collect_in Fence.wide (n - 1) trivial trivial trivial rfl (by omega) n₀ lb zs (Nat.le_trans hlen (by decide)) (by omega) _ hn₀ hseq).mono ?_; rintro e W ⟨v, rfl, hrow, hb⟩)
  rcases hrow.2 with ⟨_, hz⟩ | ⟨gb, cap, cur, rfl, hbase, hgb, r1, r2, r3, r4⟩
  · omega
  · have hH : Holds (Value.int .i64) W gb 0 zs.toArray := holds_of_block_i hgb (by simpa using r4)
    have hgl : gb < W.heap.size := (Array.getElem?_eq_some_iff.1 hgb).1
    have cS := callsIn_wide (n := n - 1) |>.2 (sort_is gb 0 cap zs W hH hgl (by omega))
    gi_wp2_with (gi_at_call 60; refine cS.mono ?_; rintro e w' ⟨rfl, nn, os, rfl⟩)
    go_ret
    have ho := ownsRow_sorted_i (n := nn) (os := os) (ss := zs) (ts := zs.mergeSort fun x y => decide (x ≤ y)) (by simp) hbase hgb r1 r2 r3
    rcases ho.2 with ⟨e0, _⟩ | ⟨g2, cap2, cur2, e2, _, hg2, _, _, _, r42⟩
    · cases e0
    · injection e2 with e2 _ e3
      injection e2 with e2; injection e2 with e2
      subst e2
      exact ⟨gb, cap, cur2, rfl, hg2, by simpa using r42, hb.grown (grownBy_sorted_i _) hb.size (fun j hj => by cases hj; exact hbase)⟩

/-- A fact that the walk does not look at. -/
structure Hid (p : Prop) : Prop where mk :: (out : p)
/-- Does a row hold 1, 2, ..? -/
def upOK (s : List Int) (k : Nat) : Bool := (List.range k).all fun j => s[j]?.getD 0 == (j : Int) + 1
theorem upOK_succ (s : List Int) (k : Nat) : upOK s (k + 1) = (upOK s k && (s[k]?.getD 0 == (k : Int) + 1)) := by simp [upOK, List.range_succ, List.all_append]
theorem upOK_no {s : List Int} {k n : Nat} (hk : k < n) (h : (s[k]?.getD 0 == (k : Int) + 1) = false) : upOK s n = false := by
  rw [upOK, Bool.eq_false_iff]
  intro ha
  rw [List.all_eq_true] at ha
  rw [ha k (by simpa using hk)] at h; cases h
def OrdP (w : World) (b : Bool) (e : Ending) (w' : World) : Prop := e = .returned (.bool b) ∧ Below w.heap.size w w'

set_option maxRecDepth 100000 in
set_option maxHeartbeats 2000000 in
theorem order_no (w : World) (A0 : Option Addr) (c0 len : Nat) (many : Int) (h : many < 1 ∨ 8 < many ∨ ¬ (len : Int) = many) :
    Calls Try.prog 11 #[.slice A0 len c0, .int .i64 many] w (OrdP w false) := by
  rcases Classical.em (many < 1) with c | c
  · go_enter Try.func11, Try.ntmps11
    go_wp2
    go_ret
    exact ⟨rfl, Below.refl _ _⟩
  rcases Classical.em (8 < many) with c2 | c2
  · go_enter Try.func11, Try.ntmps11
    go_wp2
    go_ret
    exact ⟨rfl, Below.refl _ _⟩
  · have c3 : ((len : Int) != many) = true := by simp; omega
    go_enter Try.func11, Try.ntmps11
    go_wp2
    go_ret
    exact ⟨rfl, Below.refl _ _⟩

set_option maxRecDepth 100000 in
set_option maxHeartbeats 4000000 in
theorem order_yes (w : World) (ad : Addr) (c0 : Nat) (zs : List Int) (h0 : 1 ≤ zs.length) (h8 : zs.length ≤ 8) (hb : ad.block < w.heap.size) (hcs : ∀ j, j < zs.length → w.cell? (ad.add j) = some (.int .i64 (zs[j]?.getD 0))) :
    Calls Try.prog 11 #[.slice (some ad) zs.length c0, .int .i64 (zs.length : Int)] w (OrdP w (upOK (zs.mergeSort fun x y => decide (x ≤ y)) zs.length)) := by
  refine (callsIn_wide (n := 7)).1 ?_
  have cV : ∀ W, CallsIn Fence.wide 6 Try.prog 38 #[.slice (some ad) zs.length c0] W fun e w' => e = .returned (.func (.func 61) #[] #[.pointer (some ⟨W.heap.size, 0, none⟩)]) ∧ w' = W.alloc (.cells #[.slice (some ad) zs.length c0] 23) := fun W => values_in Fence.wide 6 trivial rfl _ _ _ W
  have bN := Boxed.new w 23 (.slice (some ad) zs.length c0)
  have hB0 : Below w.heap.size w (w.alloc (.cells #[.slice (some ad) zs.length c0] 23)) := (Below.refl _ w).alloc (Nat.le_refl _) _
  have cS := sorted_in 6 (by omega) w.heap.size #[.pointer (some ⟨w.heap.size, 0, none⟩)] zs (by omega) (by omega) (w.alloc (.cells #[.slice (some ad) zs.length c0] 23)) (by simp)
    (values_stops Fence.wide 3 trivial rfl (by omega) w.heap.size w.heap.size c0 ad zs (by omega) _ (by simp) (by simp) bN.cell hb (fun j hj => (hB0.cell (p := ad.add j) (by rw [add_blk]; exact hb)).trans (hcs j hj)))
  obtain ⟨ts, hts⟩ : ∃ ts, ts = zs.mergeSort fun x y => decide (x ≤ y) := ⟨_, rfl⟩
  have htl : ts.length = zs.length := by rw [hts]; simp
  rw [← hts] at cS ⊢
  have hfV : Fence.wide.fn 38 := trivial
  have hfS : Fence.wide.fn 37 := trivial
  clear hcs bN hts
  obtain ⟨N, hN⟩ : ∃ N, N = zs.length := ⟨_, rfl⟩
  rw [← hN] at cV cS hB0 htl h0 h8 ⊢
  obtain ⟨r, hr⟩ : ∃ r, r = upOK ts N := ⟨_, rfl⟩
  rw [← hr]
  have c1 : ¬ (N : Int) < 1 := by omega
  have c2 : ¬ 8 < (N : Int) := by omega
  have c3 : ((N : Int) != (N : Int)) = false := by simp
  clear hN
  refine callsIn_of_wp Try.func11 rfl trivial ?_ rfl
  simp only [Try.ntmps11, List.size_toArray, List.length_cons, List.length_nil, Nat.reduceAdd, Nat.reduceSub, Array.replicate_succ, Array.replicate_zero, List.push_toArray, List.append_toArray, List.nil_append, List.cons_append]
  gi_wp2_with (first
    | (gi_at_call 38; refine (cV _).mono ?_; rintro e w' ⟨rfl, rfl⟩)
    | (gi_at_call 37; refine cS.mono ?_; rintro e W ⟨g, cap, cur, rfl, hg, ht, hbW⟩))
  have hcell : Hid (∀ j, j < N → W.cell? ⟨g, j, none⟩ = some (.int .i64 (ts[j]?.getD 0))) := ⟨fun j hj => by
    have e : cur[j]? = some (.int .i64 (ts[j]?.getD 0)) := by
      rw [← Array.getElem?_toList, ← List.getElem?_take_of_lt hj, ht, List.getElem?_map, List.getElem?_eq_getElem (by omega)]; rfl
    rw [← e]; simp [World.cell?, hg]⟩
  have hB : Below w.heap.size w W := hB0.trans (hbW.mono (by simp))
  clear ht hg hbW cS cV hB0
  gi_loopw [23] (fun i wr => ∃ k : Nat, k ≤ N ∧ i = .int .i64 k ∧ upOK ts k = true ∧ Hid (wr = W)) (fun i _ => N - (intOf i).toNat)
  case atStart => exact ⟨0, Nat.zero_le _, rfl, rfl, ⟨rfl⟩⟩
  case round =>
    obtain ⟨k, hk, rfl, hu, ⟨rfl⟩⟩ := hrel
    by_cases hlt : k < N
    · have hx := hcell.out k hlt
      have hs := upOK_succ ts k
      have hno := fun h => upOK_no (s := ts) hlt h
      generalize ts[k]?.getD 0 = a at hx hs hno
      have hlt' : (k : Int) < (N : Int) := by omega
      by_cases e : a = (k : Int) + 1
      · have e1 : ((a : Int) != (k : Int) + 1) = false := by simpa using e
        have hu' : upOK ts (k + 1) = true := by rw [hs, hu, e]; simp
        clear e hs hno
        gi_wp2
        go_roundw
        case rel => exact ⟨k + 1, by omega, by simp, hu', ⟨trivial⟩⟩
        case measure => simp [intOf]; omega
      · have e1 : ((a : Int) != (k : Int) + 1) = true := by simpa using e
        have hr' : r = false := by rw [hr]; exact hno (by simpa using e)
        clear e hs hno
        gi_wp2
        go_ret
        exact ⟨by rw [hr']; rfl, hB⟩
    · obtain rfl : k = N := by omega
      gi_wp2
      go_ret
      exact ⟨by rw [hr, hu]; rfl, hB⟩
/-- OrderOk's answer. -/
def ordO (l : List Int) (many : Int) : Bool := if 1 ≤ many ∧ many ≤ 8 ∧ (l.length : Int) = many then upOK (l.mergeSort fun x y => decide (x ≤ y)) l.length else false
end Go.Proofs.Ytfccopfhniobjaa.Ord
