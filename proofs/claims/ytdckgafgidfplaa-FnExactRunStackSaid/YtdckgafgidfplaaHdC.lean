import Derived.Test.YtdckgafgidfplaaHdB
import Derived.Test.YtdckgafgidfplaaHd4
/-! The machine with a stack, on lists: the words on it (the upper one last), how many were put on it, the heads, how many were on it at most. -/
namespace Hd
structure St where
 ws : List Int
 nx : Int
 hs : List Int
 dp : Int
def pushS (s : St) : Option St := if s.nx = (s.hs.length : Int) then none else some ⟨s.ws ++ [s.nx + 1], s.nx + 1, s.hs, if s.dp ≤ (s.ws.length : Int) + 1 then (s.ws.length : Int) + 1 else s.dp⟩
def lowW (s : St) : Int := s.ws.getD (s.ws.length - 2) 0
def topW (s : St) : Int := s.ws.getD (s.ws.length - 1) 0
def leftS (s : St) : St := ⟨s.ws.take (s.ws.length - 2) ++ [topW s], s.nx, s.hs.set (lowW s - 1).toNat (topW s), s.dp⟩
def rightS (s : St) : St := ⟨s.ws.take (s.ws.length - 2) ++ [lowW s], s.nx, s.hs.set (topW s - 1).toNat (lowW s), s.dp⟩
def moveS (m : Int) (s : St) : Option St :=
 if m = 83 then pushS s
 else if s.ws.length < 2 then none
 else if m = 76 then some (leftS s)
 else if m = 82 then some (rightS s)
 else none
def runM : List Int → St → Option St
 | [], s => some s
 | m :: ms, s => (moveS m s).bind (runM ms)
def St.start (n : Nat) : St := ⟨[], 0, List.replicate n 0, 0⟩
def ranS (n : Int) (ms : List Int) : Option St := if n < 1 ∨ 8 < n then none else (runM ms (St.start n.toNat)).bind fun s => if s.nx < n ∨ s.ws.length ≠ 1 then none else some s
structure St.OK (n : Nat) (s : St) : Prop where
 len : s.hs.length = n
 n8 : n ≤ 8
 nx0 : 0 ≤ s.nx
 nx1 : s.nx ≤ n
 mem : ∀ x, x ∈ s.ws → 1 ≤ x ∧ x ≤ n
 wl : (s.ws.length : Int) ≤ s.nx
 dp0 : 0 ≤ s.dp
 dp1 : s.dp ≤ s.nx
theorem St.OK.start {n : Nat} (h : n ≤ 8) : St.OK n (St.start n) := ⟨by simp [St.start], h, by simp [St.start], by simp [St.start], by simp [St.start], by simp [St.start], by simp [St.start], by simp [St.start]⟩
theorem mem_getD {l : List Int} {i : Nat} (h : i < l.length) : l.getD i 0 ∈ l := by
 rw [List.getD_eq_getElem?_getD, List.getElem?_eq_getElem h]; exact List.getElem_mem h
theorem St.OK.low {n : Nat} {s : St} (o : St.OK n s) (h : 2 ≤ s.ws.length) : 1 ≤ lowW s ∧ lowW s ≤ n := o.mem _ (mem_getD (by omega))
theorem St.OK.top {n : Nat} {s : St} (o : St.OK n s) (h : 1 ≤ s.ws.length) : 1 ≤ topW s ∧ topW s ≤ n := o.mem _ (mem_getD (by omega))
theorem St.OK.push {n : Nat} {s s' : St} (o : St.OK n s) (h : pushS s = some s') : St.OK n s' := by
 unfold pushS at h
 have := o.len; have := o.nx1; have := o.nx0; have := o.wl; have := o.dp0; have := o.dp1
 by_cases c : s.nx = (s.hs.length : Int)
 ·rw [if_pos c] at h; cases h
 ·rw [if_neg c] at h; cases h
  refine ⟨o.len, o.n8, by simp only; omega, by simp only; omega, ?_, by simp; omega, by simp only; split <;> omega, by simp only; split <;> omega⟩
  intro x hx
  rcases List.mem_append.1 hx with hx | hx
  ·exact o.mem x hx
  ·rw [List.mem_singleton.1 hx]; omega
theorem St.OK.left {n : Nat} {s : St} (o : St.OK n s) (h : 2 ≤ s.ws.length) : St.OK n (leftS s) := by
 have := o.wl
 refine ⟨by simp [leftS, o.len], o.n8, o.nx0, o.nx1, ?_, by simp [leftS]; omega, o.dp0, o.dp1⟩
 intro x hx
 rcases List.mem_append.1 hx with hx | hx
 ·exact o.mem x (List.mem_of_mem_take hx)
 ·rw [List.mem_singleton.1 hx]; exact o.top (by omega)
theorem St.OK.right {n : Nat} {s : St} (o : St.OK n s) (h : 2 ≤ s.ws.length) : St.OK n (rightS s) := by
 have := o.wl
 refine ⟨by simp [rightS, o.len], o.n8, o.nx0, o.nx1, ?_, by simp [rightS]; omega, o.dp0, o.dp1⟩
 intro x hx
 rcases List.mem_append.1 hx with hx | hx
 ·exact o.mem x (List.mem_of_mem_take hx)
 ·rw [List.mem_singleton.1 hx]; exact o.low h
theorem St.OK.move {n : Nat} {s s' : St} {m : Int} (o : St.OK n s) (h : moveS m s = some s') : St.OK n s' := by
 unfold moveS at h
 by_cases c : m = 83
 ·rw [if_pos c] at h; exact o.push h
 rw [if_neg c] at h
 by_cases c2 : s.ws.length < 2
 ·rw [if_pos c2] at h; cases h
 rw [if_neg c2] at h
 by_cases c3 : m = 76
 ·rw [if_pos c3] at h; cases h; exact o.left (by omega)
 rw [if_neg c3] at h
 by_cases c4 : m = 82
 ·rw [if_pos c4] at h; cases h; exact o.right (by omega)
 rw [if_neg c4] at h; cases h
theorem runM_append : ∀ (a b : List Int) (s : St), runM (a ++ b) s = (runM a s).bind (runM b)
 | [], _, _ => rfl
 | m :: a, b, s => by
  simp only [List.cons_append, runM]
  cases moveS m s with
  | none => rfl
  | some t => simpa using runM_append a b t
theorem St.OK.run {n : Nat} : ∀ {ms : List Int} {s s' : St}, St.OK n s → runM ms s = some s' → St.OK n s'
 | [], s, s', o, h => by cases h; exact o
 | m :: ms, s, s', o, h => by
  simp only [runM] at h
  cases e : moveS m s with
  | none => rw [e] at h; cases h
  | some t => rw [e] at h; exact St.OK.run (o.move e) h
end Hd
