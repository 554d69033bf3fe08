import Derived.Test.YtdckgafgidfplaaHd7
import Derived.Test.YtdckgafgidfplaaHd4
/-! The machine with a stack, on lists: the words on it (the upper one last), how many were put on it, the heads, how many were on it at most. -/
namespace Hd
structure St where
 ws : List Int
 nx : Int
 hs : List Int
 dp : Int
def pushS (s : St) : Option St := if s.nx = (s.hs.length : Int) then none else some ⟨s.ws ++ [s.nx + 1], s.nx + 1, s.hs, if s.dp ≤ (s.ws.length : Int) + 1 then (s.ws.length : Int) + 1 else s.dp⟩
def lowW (s : St) : Int := s.ws.getD (s.ws.length - 2) 0
def topW (s : St) : Int := s.ws.getD (s.ws.length - 1) 0
def leftS (s : St) : St := ⟨s.ws.take (s.ws.length - 2) ++ [topW s], s.nx, s.hs.set (lowW s - 1).toNat (topW s), s.dp⟩
def rightS (s : St) : St := ⟨s.ws.take (s.ws.length - 2) ++ [lowW s], s.nx, s.hs.set (topW s - 1).toNat (lowW s), s.dp⟩
def moveS (m : Int) (s : St) : Option St :=
 if m = 83 then pushS s
 else if s.ws.length < 2 then none
 else if m = 76 then some (leftS s)
 else if m = 82 then some (rightS s)
 else none
def runM : List Int → St → Option St
 | [], s => some s
 | m :: ms, s => (moveS m s).bind (runM ms)
def St.start (n : Nat) : St := ⟨[], 0, List.replicate n 0, 0⟩
def ranS (n : Int) (ms : List Int) : Option St := if n < 1 ∨ 8 < n then none else (runM ms (St.start n.toNat)).bind fun s => if s.nx < n ∨ s.ws.length ≠ 1 then none else some s
structure St.OK (n : Nat) (s : St) : Prop where
 len : s.hs.length = n
 n8 : n ≤ 8
 nx0 : 0 ≤ s.nx
 nx1 : s.nx ≤ n
 mem : ∀ x, x ∈ s.ws → 1 ≤ x ∧ x ≤ n
 wl : (s.ws.length : Int) ≤ s.nx
 dp0 : 0 ≤ s.dp
 dp1 : s.dp ≤ s.nx
theorem St.OK.start {n : Nat} (h : n ≤ 8) : St.OK n (St.start n) := ⟨by simp [St.start], h, by simp [St.start], by simp [St.start], by simp [St.start], by simp [St.start], by simp [St.start], by simp [St.start]⟩
theorem mem_getD {l : List Int} {i : Nat} (h : i < l.length) : l.getD i 0 ∈ l := by
 rw [List.getD_eq_getElem?_getD, List.getElem?_eq_getElem h]; exact List.getElem_mem h
theorem St.OK.low {n : Nat} {s : St} (o : St.OK n s) (h : 2 ≤ s.ws.length) : 1 ≤ lowW s ∧ lowW s ≤ n := o.mem _ (mem_getD (by omega))
theorem St.OK.top {n : Nat} {s : St} (o : St.OK n s) (h : 1 ≤ s.ws.length) : 1 ≤ topW s ∧ topW s ≤ n := o.mem _ (mem_getD (by omega))
theorem St.OK.push {n : Nat} {s s' : St} (o : St.OK n s) (h : pushS s = some s') : St.OK n s' := by
 unfold pushS at h
 have := o.len; have := o.nx1; have := o.nx0; have := o.wl; have := o.dp0; have := o.dp1
 by_cases c : s.nx = (s.hs.length : Int)
 ·rw [if_pos c] at h; cases h
 ·rw [if_neg c] at h; cases h
  refine ⟨o.len, o.n8, by simp only; omega, by simp only; omega, ?_, by simp; omega, by simp only; split <;> omega, by simp only; split <;> omega⟩
  intro x hx
  rcases List.mem_append.1 hx with hx | hx
  ·exact o.mem x hx
  ·rw [List.mem_singleton.1 hx]; omega
theorem St.OK.left {n : Nat} {s : St} (o : St.OK n s) (h : 2 ≤ s.ws.length) : St.OK n (leftS s) := by
 have := o.wl
 refine ⟨by simp [leftS, o.len], o.n8, o.nx0, o.nx1, ?_, by simp [leftS]; omega, o.dp0, o.dp1⟩
 intro x hx
 rcases List.mem_append.1 hx with hx | hx
 ·exact o.mem x (List.mem_of_mem_take hx)
 ·rw [List.mem_singleton.1 hx]; exact o.top (by omega)
theorem St.OK.right {n : Nat} {s : St} (o : St.OK n s) (h : 2 ≤ s.ws.length) : St.OK n (rightS s) := by
 have := o.wl
 refine ⟨by simp [rightS, o.len], o.n8, o.nx0, o.nx1, ?_, by simp [rightS]; omega, o.dp0, o.dp1⟩
 intro x hx
 rcases List.mem_append.1 hx with hx | hx
 ·exact o.mem x (List.mem_of_mem_take hx)
 ·rw [List.mem_singleton.1 hx]; exact o.low h
theorem St.OK.move {n : Nat} {s s' : St} {m : Int} (o : St.OK n s) (h : moveS m s = some s') : St.OK n s' := by
 unfold moveS at h
 by_cases c : m = 83
 ·rw [if_pos c] at h; exact o.push h
 rw [if_neg c] at h
 by_cases c2 : s.ws.length < 2
 ·rw [if_pos c2] at h; cases h
 rw [if_neg c2] at h
 by_cases c3 : m = 76
 ·rw [if_pos c3] at h; cases h; exact o.left (by omega)
 rw [if_neg c3] at h
 by_cases c4 : m = 82
 ·rw [if_pos c4] at h; cases h; exact o.right (by omega)
 rw [if_neg c4] at h; cases h
theorem runM_append : ∀ (a b : List Int) (s : St), runM (a ++ b) s = (runM a s).bind (runM b)
 | [], _, _ => rfl
 | m :: a, b, s => by
  simp only [List.cons_append, runM]
  cases moveS m s with
  | none => rfl
  | some t => simpa using runM_append a b t
theorem St.OK.run {n : Nat} : ∀ {ms : List Int} {s s' : St}, St.OK n s → runM ms s = some s' → St.OK n s'
 | [], s, s', o, h => by cases h; exact o
 | m :: ms, s, s', o, h => by
  simp only [runM] at h
  cases e : moveS m s with
  | none => rw [e] at h; cases h
  | some t => rw [e] at h; exact St.OK.run (o.move e) h

/-! ### How deep the stack is -/
structure St.Deep (s : St) : Prop where
 w : (s.ws.length : Int) ≤ s.dp
 two : s.dp < 2 → (s.ws.length : Int) = s.nx
theorem pushS_eq {s s' : St} (h : pushS s = some s') : s.nx ≠ (s.hs.length : Int) ∧ s' = ⟨s.ws ++ [s.nx + 1], s.nx + 1, s.hs, if s.dp ≤ (s.ws.length : Int) + 1 then (s.ws.length : Int) + 1 else s.dp⟩ := by
 unfold pushS at h
 by_cases c : s.nx = (s.hs.length : Int)
 ·rw [if_pos c] at h; cases h
 ·rw [if_neg c] at h; exact ⟨c, (Option.some.inj h).symm⟩
/-- What a move does to the numbers. -/
theorem move_nums {m : Int} {s s' : St} (h : moveS m s = some s') :
  (m = 83 ∧ s'.ws.length = s.ws.length + 1 ∧ s'.nx = s.nx + 1 ∧ s'.dp = (if s.dp ≤ (s.ws.length : Int) + 1 then (s.ws.length : Int) + 1 else s.dp)) ∨
  (m ≠ 83 ∧ 2 ≤ s.ws.length ∧ s'.ws.length = s.ws.length - 1 ∧ s'.nx = s.nx ∧ s'.dp = s.dp) := by
 unfold moveS at h
 by_cases c : m = 83
 ·rw [if_pos c] at h
  obtain ⟨_, rfl⟩ := pushS_eq h
  exact .inl ⟨c, by simp, rfl, rfl⟩
 rw [if_neg c] at h
 by_cases c2 : s.ws.length < 2
 ·rw [if_pos c2] at h; cases h
 rw [if_neg c2] at h
 by_cases c3 : m = 76
 ·rw [if_pos c3] at h; cases h; exact .inr ⟨c, by omega, by simp [leftS]; omega, rfl, rfl⟩
 rw [if_neg c3] at h
 by_cases c4 : m = 82
 ·rw [if_pos c4] at h; cases h; exact .inr ⟨c, by omega, by simp [rightS]; omega, rfl, rfl⟩
 rw [if_neg c4] at h; cases h
theorem St.Deep.move {m : Int} {s s' : St} (d : s.Deep) (h : moveS m s = some s') : s'.Deep := by
 have h1 := d.w; have h2 := d.two
 rcases move_nums h with ⟨_, a, b, c⟩ | ⟨_, e, a, b, c⟩
 ·constructor
  ·rw [a, c]; split <;> omega
  ·rw [a, b, c]; split <;> omega
 ·constructor
  ·rw [a, c]; omega
  ·rw [a, b, c]; omega
theorem St.Deep.run : ∀ {ms : List Int} {s s' : St}, s.Deep → runM ms s = some s' → s'.Deep
 | [], s, s', o, h => by cases h; exact o
 | m :: ms, s, s', o, h => by
  simp only [runM] at h
  cases e : moveS m s with
  | none => rw [e] at h; cases h
  | some t => rw [e] at h; exact St.Deep.run (o.move e) h
theorem St.Deep.start (n : Nat) : (St.start n).Deep := ⟨by simp [St.start], fun _ => by simp [St.start]⟩
theorem ranS_some {n : Int} {ms : List Int} {s : St} (h : ranS n ms = some s) : 1 ≤ n ∧ n ≤ 8 ∧ runM ms (St.start n.toNat) = some s ∧ s.nx = n ∧ s.ws.length = 1 ∧ s.OK n.toNat ∧ s.Deep := by
 unfold ranS at h
 by_cases c : n < 1 ∨ 8 < n
 ·rw [if_pos c] at h; cases h
 rw [if_neg c] at h
 cases e : runM ms (St.start n.toNat) with
 | none => rw [e] at h; cases h
 | some t =>
  rw [e, Option.bind_some] at h
  by_cases c2 : t.nx < n ∨ t.ws.length ≠ 1
  ·rw [if_pos c2] at h; cases h
  ·rw [if_neg c2] at h
   obtain rfl := Option.some.inj h
   have o := (St.OK.start (n := n.toNat) (by omega)).run e
   have := o.nx1
   exact ⟨by omega, by omega, rfl, by omega, by omega, o, (St.Deep.start _).run e⟩
theorem run_S {n : Nat} : ∀ (i : Nat) (t : St), runM (List.replicate i 83) (St.start n) = some t → t.ws.length = i ∧ t.nx = i ∧ t.dp = i
 | 0, t, h => by cases h; simp [St.start]
 | i + 1, t, h => by
  rw [List.replicate_succ', runM_append] at h
  cases e : runM (List.replicate i 83) (St.start n) with
  | none => rw [e] at h; cases h
  | some u =>
   obtain ⟨a, b, c⟩ := run_S i u e
   rw [e, Option.bind_some] at h
   simp only [runM] at h
   cases e2 : moveS 83 u with
   | none => rw [e2] at h; cases h
   | some v =>
    rw [e2] at h
    obtain rfl := Option.some.inj h
    rcases move_nums e2 with ⟨_, a', b', c'⟩ | ⟨x, _⟩
    ·refine ⟨by omega, by omega, ?_⟩
     rw [c', if_pos (by omega)]; omega
    ·exact absurd rfl x
structure St.Late (f : Int) (s : St) : Prop where
 w : (s.ws.length : Int) + 1 ≤ s.nx
 lo : f ≤ s.dp
 hi : s.dp = f ∨ s.dp ≤ s.nx - 1
theorem St.Late.move {f m : Int} {s s' : St} (d : s.Late f) (h : moveS m s = some s') : s'.Late f := by
 have h1 := d.w; have h2 := d.lo; have h3 := d.hi
 rcases move_nums h with ⟨_, a, b, c⟩ | ⟨_, e, a, b, c⟩
 ·constructor
  ·rw [a, b]; omega
  ·rw [c]; split <;> omega
  ·rw [b, c]; split <;> omega
 ·constructor
  ·rw [a, b]; omega
  ·rw [c]; omega
  ·rw [b, c]; omega
theorem St.Late.run {f : Int} : ∀ {ms : List Int} {s s' : St}, s.Late f → runM ms s = some s' → s'.Late f
 | [], s, s', o, h => by cases h; exact o
 | m :: ms, s, s', o, h => by
  simp only [runM] at h
  cases e : moveS m s with
  | none => rw [e] at h; cases h
  | some t => rw [e] at h; exact St.Late.run (o.move e) h
theorem deep_first {n i : Nat} {rest : List Int} {s : St} (h : runM (List.replicate i 83 ++ rest) (St.start n) = some s) (hr : ∀ m r, rest = m :: r → m ≠ 83) (hn : s.nx = n) (hd : s.dp ≤ s.nx) : (s.dp = n ↔ (i : Int) = n) := by
 rw [runM_append] at h
 cases e : runM (List.replicate i 83) (St.start n) with
 | none => rw [e] at h; cases h
 | some t =>
  obtain ⟨a, b, c⟩ := run_S i t e
  rw [e, Option.bind_some] at h
  match rest, hr, h with
  | [], _, h => obtain rfl := Option.some.inj h; omega
  | m :: r, hr, h =>
   simp only [runM] at h
   cases e2 : moveS m t with
   | none => rw [e2] at h; cases h
   | some u =>
    rw [e2] at h
    rcases move_nums e2 with ⟨x, _⟩ | ⟨_, e', a', b', c'⟩
    ·exact absurd x (hr m r rfl)
    ·have L : u.Late i := ⟨by omega, by omega, by omega⟩
     have L2 := L.run h
     have := L2.lo; have := L2.hi
     omega

/-! ### The moves for a tree -/
/-- How many of the first k words depend on a word and have no head yet. -/
def leftC (h hs : List Int) (x : Int) : Nat → Int
 | 0 => 0
 | k + 1 => leftC h hs x k + if h.getD k 0 = x ∧ hs.getD k 0 = 0 then 1 else 0
theorem leftC_bd (h hs : List Int) (x : Int) : ∀ k : Nat, 0 ≤ leftC h hs x k ∧ leftC h hs x k ≤ k
 | 0 => by simp [leftC]
 | k + 1 => by
  have := leftC_bd h hs x k
  simp only [leftC]; split <;> omega
def leftN (h : List Int) (s : St) (x : Int) : Int := leftC h s.hs x h.length
/-- The move that the rule tells. -/
def ruleM (h : List Int) (s : St) : Int :=
 if s.ws.length < 2 then 83
 else if h.getD (lowW s - 1).toNat 0 = topW s ∧ leftN h s (lowW s) = 0 then 76
 else if h.getD (topW s - 1).toNat 0 = lowW s ∧ leftN h s (topW s) = 0 then 82
 else 83
def stepM (h : List Int) (s : St) : St := match moveS (ruleM h s) s with
 | some t => t
 | none => s
def stM (h : List Int) : Nat → St
 | 0 => St.start h.length
 | k + 1 => stepM h (stM h k)
def outM (h : List Int) : Nat → ByteArray
 | 0 => ⟨#[]⟩
 | k + 1 => outM h k ++ ⟨#[(ruleM h (stM h k)).toNat.toUInt8]⟩
theorem St.OK.step {n : Nat} {s : St} (o : St.OK n s) (h : List Int) : St.OK n (stepM h s) := by
 unfold stepM
 cases e : moveS (ruleM h s) s with
 | none => exact o
 | some t => exact o.move e
theorem outM_size (h : List Int) : ∀ k, (outM h k).size = k
 | 0 => rfl
 | k + 1 => by rw [outM, ByteArray.size_append, outM_size h k]; rfl
end Hd
