/- The eager machine on lists, and what its rule tells: plain facts. -/
import Derived.Test.YtdckgafgidfplaaHdE
import Derived.Test.YtdckgafgidfplaaHdH
namespace Hd
def popS (s : St) (hs : List Int) : St := ⟨s.ws.take (s.ws.length - 1), s.nx, hs, s.dp⟩
def eagS (m : Int) (s : St) : Option St :=
 if m = 83 then pushS s
 else if s.ws.length = 0 then none
 else if m = 76 ∧ s.nx < (s.hs.length : Int) ∧ s.hs.getD (topW s - 1).toNat 0 = 0 then some (popS s (s.hs.set (topW s - 1).toNat (s.nx + 1)))
 else if m = 82 ∧ s.nx < (s.hs.length : Int) then pushS ⟨s.ws, s.nx, s.hs.set s.nx.toNat (topW s), s.dp⟩
 else if m = 68 ∧ s.hs.getD (topW s - 1).toNat 0 ≠ 0 then some (popS s s.hs)
 else none
def runE : List Int → St → Option St
 | [], s => some s
 | m :: ms, s => (eagS m s).bind (runE ms)
/-- How many of the first k words have no head. -/
def zerosC (hs : List Int) : Nat → Int
 | 0 => 0
 | k + 1 => zerosC hs k + if hs.getD k 0 = 0 then 1 else 0
theorem zerosC_bd (hs : List Int) : ∀ k : Nat, 0 ≤ zerosC hs k ∧ zerosC hs k ≤ k
 | 0 => by simp [zerosC]
 | k + 1 => by
  have := zerosC_bd hs k
  simp only [zerosC]; split <;> omega
def ranE (n : Int) (ms : List Int) : Option St := if n < 1 ∨ 8 < n then none else (runE ms (St.start n.toNat)).bind fun s => if s.nx < n ∨ zerosC s.hs s.hs.length ≠ 1 then none else some s
theorem St.OK.pop {n : Nat} {s : St} (o : St.OK n s) {hs : List Int} (hl : hs.length = n) : St.OK n (popS s hs) := by
 have h1 := o.wl
 refine ⟨hl, o.n8, o.nx0, o.nx1, fun x hx => o.mem x (List.mem_of_mem_take hx), ?_, o.dp0, o.dp1⟩
 show ((s.ws.take (s.ws.length - 1)).length : Int) ≤ s.nx
 rw [List.length_take]; omega
theorem St.OK.heads {n : Nat} {s : St} (o : St.OK n s) {hs : List Int} (hl : hs.length = n) : St.OK n ⟨s.ws, s.nx, hs, s.dp⟩ := ⟨hl, o.n8, o.nx0, o.nx1, o.mem, o.wl, o.dp0, o.dp1⟩
/-- What a move of the eager machine is. -/
theorem eagS_cases {n : Nat} {s s' : St} {m : Int} (o : St.OK n s) (h : eagS m s = some s') :
  (m = 83 ∧ pushS s = some s') ∨
  (1 ≤ s.ws.length ∧ m = 76 ∧ s.nx < (n : Int) ∧ s.hs.getD (topW s - 1).toNat 0 = 0 ∧ s' = popS s (s.hs.set (topW s - 1).toNat (s.nx + 1))) ∨
  (1 ≤ s.ws.length ∧ m = 82 ∧ s.nx < (n : Int) ∧ pushS ⟨s.ws, s.nx, s.hs.set s.nx.toNat (topW s), s.dp⟩ = some s') ∨
  (1 ≤ s.ws.length ∧ m = 68 ∧ s.hs.getD (topW s - 1).toNat 0 ≠ 0 ∧ s' = popS s s.hs) := by
 have hl := o.len
 unfold eagS at h
 by_cases c : m = 83
 ·rw [if_pos c] at h; exact .inl ⟨c, h⟩
 rw [if_neg c] at h
 by_cases c2 : s.ws.length = 0
 ·rw [if_pos c2] at h; cases h
 rw [if_neg c2] at h
 by_cases c3 : m = 76 ∧ s.nx < (s.hs.length : Int) ∧ s.hs.getD (topW s - 1).toNat 0 = 0
 ·rw [if_pos c3] at h
  exact .inr (.inl ⟨by omega, c3.1, by omega, c3.2.2, (Option.some.inj h).symm⟩)
 rw [if_neg c3] at h
 by_cases c4 : m = 82 ∧ s.nx < (s.hs.length : Int)
 ·rw [if_pos c4] at h
  exact .inr (.inr (.inl ⟨by omega, c4.1, by omega, h⟩))
 rw [if_neg c4] at h
 by_cases c5 : m = 68 ∧ s.hs.getD (topW s - 1).toNat 0 ≠ 0
 ·rw [if_pos c5] at h
  exact .inr (.inr (.inr ⟨by omega, c5.1, c5.2, (Option.some.inj h).symm⟩))
 rw [if_neg c5] at h; cases h
theorem St.OK.eag {n : Nat} {s s' : St} {m : Int} (o : St.OK n s) (h : eagS m s = some s') : St.OK n s' := by
 rcases eagS_cases o h with ⟨_, e⟩ | ⟨_, _, _, _, rfl⟩ | ⟨_, _, _, e⟩ | ⟨_, _, _, rfl⟩
 ·exact o.push e
 ·exact o.pop (by rw [List.length_set]; exact o.len)
 ·exact (o.heads (hs := s.hs.set s.nx.toNat (topW s)) (by rw [List.length_set]; exact o.len)).push e
 ·exact o.pop o.len
/-- How much is left to do. -/
def todo (n : Nat) (s : St) : Nat := (2 * ((n : Int) - s.nx) + s.ws.length).toNat
theorem eag_todo {n : Nat} {s s' : St} {m : Int} (o : St.OK n s) (h : eagS m s = some s') : todo n s' < todo n s := by
 have h1 := o.nx1
 have hlen := o.len
 unfold todo
 rcases eagS_cases o h with ⟨_, e⟩ | ⟨w, _, _, _, rfl⟩ | ⟨_, _, _, e⟩ | ⟨w, _, _, rfl⟩
 ·obtain ⟨e1, rfl⟩ := pushS_eq e
  simp only [List.length_append, List.length_singleton]; omega
 ·simp only [popS, List.length_take]; omega
 ·obtain ⟨e1, rfl⟩ := pushS_eq e
  simp only [List.length_append, List.length_singleton, List.length_set] at e1 ⊢; omega
 ·simp only [popS, List.length_take]; omega
theorem runE_append : ∀ (a b : List Int) (s : St), runE (a ++ b) s = (runE a s).bind (runE b)
 | [], b, s => rfl
 | m :: a, b, s => by
  rw [List.cons_append, runE, runE]
  cases eagS m s with
  | none => rfl
  | some t => exact runE_append a b t
theorem St.OK.runE {n : Nat} : ∀ {ms : List Int} {s s' : St}, St.OK n s → Hd.runE ms s = some s' → St.OK n s'
 | [], s, s', o, h => by cases h; exact o
 | m :: ms, s, s', o, h => by
  simp only [Hd.runE] at h
  cases e : eagS m s with
  | none => rw [e] at h; cases h
  | some t => rw [e] at h; exact St.OK.runE (o.eag e) h

/-! ### The rule -/
/-- A word that is not the upper one and has to do with the next one. -/
def anyE (h : List Int) (s : St) : Bool := (s.ws.take (s.ws.length - 1)).any fun w => decide (h.getD s.nx.toNat 0 = w) || decide (h.getD (w - 1).toNat 0 = s.nx + 1)
def ruleE (h : List Int) (s : St) : Int :=
 if s.ws.length = 0 then 83
 else if h.getD (topW s - 1).toNat 0 = s.nx + 1 then 76
 else if h.getD s.nx.toNat 0 = topW s then 82
 else if anyE h s = true then 68
 else 83
/-- What the rule tells from a state on, in at most k moves. -/
def eagF (h : List Int) : Nat → St → ByteArray → ByteArray × Bool
 | 0, _, out => (out, true)
 | k + 1, s, out => if s.nx < (h.length : Int) then (match eagS (ruleE h s) s with
  | some t => eagF h k t (out ++ ⟨#[(ruleE h s).toNat.toUInt8]⟩)
  | none => (⟨#[]⟩, false)) else (out, true)
theorem rev_top (a : Int) (r : List Int) (s : St) (e : s.ws = (a :: r).reverse) : topW s = a ∧ 1 ≤ s.ws.length ∧ s.ws.take (s.ws.length - 1) = r.reverse := by
 have e' : s.ws = r.reverse ++ [a] := by rw [e]; simp
 have hl : s.ws.length = r.length + 1 := by rw [e']; simp
 refine ⟨?_, by omega, ?_⟩
 ·rw [topW, hl, e', List.getD_eq_getElem?_getD, List.getElem?_append_right (by simp)]; simp
 ·rw [hl, e', show r.length + 1 - 1 = r.reverse.length by simp, List.take_left']; rfl
theorem anyE_iff {h : List Int} {s : St} {a : Int} {r : List Int} (e : s.ws = (a :: r).reverse) : anyE h s = true ↔ ∃ w, w ∈ r ∧ (h.getD s.nx.toNat 0 = w ∨ h.getD (w - 1).toNat 0 = s.nx + 1) := by
 obtain ⟨_, _, k⟩ := rev_top a r s e
 unfold anyE
 rw [k, List.any_eq_true]
 constructor
 ·rintro ⟨w, hw, hb⟩
  exact ⟨w, by simpa using hw, by simpa using hb⟩
 ·rintro ⟨w, hw, hb⟩
  exact ⟨w, by simpa using hw, by simpa using hb⟩
theorem Fits.pop {s : St} {a : Int} {r : List Int} {i : Int} {H : Int → Int} (f : Fits s (a :: r) i H) {hs : List Int} {H' : Int → Int} (hh : ∀ x, hd hs x = H' x) : Fits (popS s hs) r i H' := by
 obtain ⟨_, _, k⟩ := rev_top a r s f.ws
 exact ⟨k, f.nx, hh⟩
/-- What the rule tells is done, and the rest goes on. -/
theorem etold_step {h : List Int} {n : Nat} (_hn : h.length = n) {s : St} {st : List Int} {i : Int} {H : Int → Int} {m : Int} {ms : List Int} (o : s.OK n) (f : Fits s st i H) (t : ETold n (hd h) (m :: ms) st i H) :
  s.nx < (n : Int) ∧ ruleE h s = m ∧ ∃ s' st' i' H', eagS m s = some s' ∧ s'.OK n ∧ Fits s' st' i' H' ∧ ETold n (hd h) ms st' i' H' := by
 obtain ⟨hi, t⟩ := t
 have enx := f.nx
 have h0 := o.nx0
 have ol := o.len
 have hnx : s.nx < (n : Int) := by omega
 have hnext : h.getD s.nx.toNat 0 = hd h (i + 1) := by rw [← hd_get (by omega)]; congr 1; omega
 refine ⟨hnx, ?_⟩
 rcases t with ⟨rfl, a, r, rfl, e1, e2, t⟩ | ⟨rfl, a, r, rfl, e1, e2, e3, t⟩ | ⟨rfl, a, r, rfl, e1, e2, e3, e4, t⟩ | ⟨rfl, e1, t⟩
 ·obtain ⟨tp, w1, k⟩ := rev_top a r s f.ws
  have ot := o.top w1
  have hz : s.hs.getD (topW s - 1).toNat 0 = 0 := by rw [tp, hd_get (by omega), f.hs]; exact e2
  have hm : eagS 76 s = some (popS s (s.hs.set (topW s - 1).toNat (s.nx + 1))) := by
   rw [eagS, if_neg (by omega), if_neg (by omega), if_pos ⟨rfl, by omega, hz⟩]
  refine ⟨?_, _, _, _, _, hm, o.eag hm, f.pop (H' := upd H a (i + 1)) ?_, t⟩
  ·rw [ruleE, if_neg (by omega), if_pos]; rw [tp, hd_get (by omega), e1, enx]
  ·intro x
   rw [hd_set ot.1 (by omega), tp, f.hs, enx]; rfl
 ·obtain ⟨tp, w1, k⟩ := rev_top a r s f.ws
  have ot := o.top w1
  have hp : pushS ⟨s.ws, s.nx, s.hs.set s.nx.toNat (topW s), s.dp⟩ = some ⟨s.ws ++ [s.nx + 1], s.nx + 1, s.hs.set s.nx.toNat (topW s), if s.dp ≤ (s.ws.length : Int) + 1 then (s.ws.length : Int) + 1 else s.dp⟩ := if_neg (by simp only [List.length_set]; omega)
  have hm : eagS 82 s = some ⟨s.ws ++ [s.nx + 1], s.nx + 1, s.hs.set s.nx.toNat (topW s), if s.dp ≤ (s.ws.length : Int) + 1 then (s.ws.length : Int) + 1 else s.dp⟩ := by
   rw [eagS, if_neg (by omega), if_neg (by omega), if_neg (fun z => by omega), if_pos ⟨rfl, by omega⟩, hp]
  refine ⟨?_, _, _, _, _, hm, o.eag hm, ⟨?_, ?_, ?_⟩, t⟩
  ·rw [ruleE, if_neg (by omega), if_neg, if_pos]
   ·rw [hnext, tp]; exact e2
   ·rw [tp, hd_get (by omega), enx]; exact e1
  ·show s.ws ++ [s.nx + 1] = _; rw [f.ws, enx]; simp
  ·show s.nx + 1 = _; rw [enx]
  ·intro x
   show hd (s.hs.set s.nx.toNat (topW s)) x = _
   rw [show s.nx.toNat = (i + 1 - 1).toNat by omega, hd_set (by omega) (by omega), tp, f.hs]; rfl
 ·obtain ⟨tp, w1, k⟩ := rev_top a r s f.ws
  have ot := o.top w1
  have hz : s.hs.getD (topW s - 1).toNat 0 ≠ 0 := by rw [tp, hd_get (by omega), f.hs]; exact e4
  have hm : eagS 68 s = some (popS s s.hs) := by
   rw [eagS, if_neg (by omega), if_neg (by omega), if_neg (fun z => by omega), if_neg (fun z => by omega), if_pos ⟨rfl, hz⟩]
  refine ⟨?_, _, _, _, _, hm, o.eag hm, f.pop f.hs, t⟩
  rw [ruleE, if_neg (by omega), if_neg, if_neg, if_pos]
  ·rw [anyE_iff f.ws, hnext, enx]
   obtain ⟨w, hw, e⟩ := e3
   have ow := o.mem w (by rw [f.ws]; simp [hw])
   exact ⟨w, hw, by rw [hd_get ow.1]; exact e⟩
  ·rw [hnext, tp]; exact e2
  ·rw [tp, hd_get (by omega), enx]; exact e1
 ·have hp : pushS s = some ⟨s.ws ++ [s.nx + 1], s.nx + 1, s.hs, if s.dp ≤ (s.ws.length : Int) + 1 then (s.ws.length : Int) + 1 else s.dp⟩ := if_neg (by omega)
  have hm : eagS 83 s = some ⟨s.ws ++ [s.nx + 1], s.nx + 1, s.hs, if s.dp ≤ (s.ws.length : Int) + 1 then (s.ws.length : Int) + 1 else s.dp⟩ := by rw [eagS, if_pos rfl, hp]
  refine ⟨?_, _, _, _, _, hm, o.eag hm, f.push hp, t⟩
  match st, f, e1 with
  | [], f, _ => rw [ruleE, if_pos (by rw [f.ws]; rfl)]
  | a :: r, f, e1 =>
   obtain ⟨tp, w1, k⟩ := rev_top a r s f.ws
   have ot := o.top w1
   have ea := e1 a (by simp)
   rw [ruleE, if_neg (by omega), if_neg, if_neg, if_neg]
   ·rw [anyE_iff f.ws, hnext, enx]
    rintro ⟨w, hw, e⟩
    have ow := o.mem w (by rw [f.ws]; simp [hw])
    rw [hd_get ow.1] at e
    have := e1 w (by simp [hw])
    rcases e with e | e
    ·exact this.1 e
    ·exact this.2 e
   ·rw [hnext, tp]; exact ea.1
   ·rw [tp, hd_get (by omega), enx]; exact ea.2
theorem etold_out {h : List Int} {n : Nat} (hn : h.length = n) : ∀ (ms : List Int) (k : Nat) (s : St) (st : List Int) (i : Int) (H : Int → Int) (out : ByteArray), s.OK n → Fits s st i H → ETold n (hd h) ms st i H → ms.length < k →
  eagF h k s out = (out ++ bytesM ms, true) ∧ ∃ s', runE ms s = some s' ∧ s'.nx = n ∧ s'.OK n ∧ ∀ x, hd s'.hs x = hd h x
 | [], k + 1, s, st, i, H, out, o, f, t, hk => by
  obtain ⟨rfl, e⟩ := t
  have := f.nx
  refine ⟨?_, s, rfl, by omega, o, fun x => by rw [f.hs, e]⟩
  rw [eagF, if_neg (by omega), bytesM, ba_nil]
 | m :: ms, k + 1, s, st, i, H, out, o, f, t, hk => by
  obtain ⟨hnx, hr, s', st', i', H', hm, o', f', t'⟩ := etold_step hn o f t
  obtain ⟨ih, s2, r2, n2, o2, e2⟩ := etold_out hn ms k s' st' i' H' (out ++ ⟨#[m.toNat.toUInt8]⟩) o' f' t' (by simp at hk; omega)
  refine ⟨?_, s2, by rw [runE, hm]; exact r2, n2, o2, e2⟩
  rw [eagF, if_pos (by omega), hr, hm]
  simp only
  rw [ih, bytesM, ByteArray.append_assoc]
theorem ETold.moves {n : Nat} {h : Int → Int} : ∀ {ms : List Int} {st : List Int} {i : Int} {H : Int → Int}, ETold n h ms st i H → ∀ m, m ∈ ms → m = 76 ∨ m = 82 ∨ m = 83 ∨ m = 68
 | [], _, _, _, _, m, hm => by cases hm
 | x :: ms, _, _, _, t, m, hm => by
  obtain ⟨_, t⟩ := t
  rcases t with ⟨rfl, a, r, rfl, _, _, t⟩ | ⟨rfl, a, r, rfl, _, _, _, t⟩ | ⟨rfl, a, r, rfl, _, _, _, _, t⟩ | ⟨rfl, _, t⟩ <;> rcases List.mem_cons.1 hm with rfl | hm
  ·simp
  ·exact t.moves m hm
  ·simp
  ·exact t.moves m hm
  ·simp
  ·exact t.moves m hm
  ·simp
  ·exact t.moves m hm
theorem zerosC_cnt (l : List Int) : ∀ m : Nat, zerosC l m = (cnt (fun x => decide (hd l x = 0)) m : Int)
 | 0 => rfl
 | m + 1 => by
  have e : l.getD m 0 = hd l ((m : Int) + 1) := by rw [← hd_get (by omega)]; congr 1; omega
  rw [zerosC, zerosC_cnt l m, e]
  simp only [cnt]
  split <;> rename_i c <;> simp [c]
/-- Each flat tree is told by the eager rule. -/
theorem flat_etold {h : List Int} (f : flatB h = true) : ∃ ms, (∀ m, m ∈ ms → m = 76 ∨ m = 82 ∨ m = 83 ∨ m = 68) ∧ ms.length ≤ 2 * h.length - 1 ∧ many 76 ms + many 82 ms = h.length - 1 ∧ many 83 ms + many 82 ms = h.length ∧
  (∀ k, 2 * h.length ≤ k → eagF h k (St.start h.length) ⟨#[]⟩ = (bytesM ms, true)) ∧ ∃ s, ranE h.length ms = some s ∧ s.hs = h := by
 obtain ⟨t, r⟩ := flatB_true.1 f
 have hp := t.2.pos
 have h8 := t.1
 obtain ⟨ms, T, hl, h1, h2⟩ := etold_start t.2 ((row_iff_bet t.2).1 r)
 refine ⟨ms, T.moves, hl, h1, h2, ?_, ?_⟩
 ·intro k hk
  have := (etold_out rfl ms k (St.start h.length) [] 0 (fun _ => 0) ⟨#[]⟩ (St.OK.start h8) (Fits.start _) T (by omega)).1
  rw [this, nil_ba]
 ·obtain ⟨_, s', a, b, c, d⟩ := etold_out rfl ms (2 * h.length) (St.start h.length) [] 0 (fun _ => 0) ⟨#[]⟩ (St.OK.start h8) (Fits.start _) T (by omega)
  have e := hd_ext c.len d
  refine ⟨s', ?_, e⟩
  have hz : zerosC s'.hs s'.hs.length = 1 := by
   rw [e, zerosC_cnt]
   have := (T_iff h8 t.vals (fun a h1 h2 => t.2.back a h1 h2)).1 t
   unfold zeros at this; omega
  rw [ranE, if_neg (by omega), Int.toNat_natCast, a, Option.bind_some, if_neg (by omega)]
end Hd
