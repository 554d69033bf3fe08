/- Plain facts on how often each move is told. -/
import Derived.Test.YtdckgafgidfplaaHd3
namespace Hd

/-! ### How often a move is told -/
def many (m : Int) : List Int → Nat
 | [] => 0
 | x :: t => (if x = m then 1 else 0) + many m t

theorem Told.shifts {n : Nat} {h : Int → Int} : ∀ {ms : List Int} {st : List Int} {i : Int} {H : Int → Int}, Told n h ms st i H → (many 83 ms : Int) = n - i
 | [], _, _, _, t => by have := t.1; simp [many]; omega
 | m :: ms, _, _, _, t => by
  rcases t with ⟨rfl, a, c, r, rfl, _, _, t⟩ | ⟨rfl, a, c, r, rfl, _, _, _, t⟩ | ⟨rfl, _, _, t⟩
  ·have := t.shifts; simp [many]; omega
  ·have := t.shifts; simp [many]; omega
  ·have := t.shifts; simp [many]; omega

theorem Told.lefts {n : Nat} {h : Int → Int} : ∀ {ms : List Int} {st : List Int} {i : Int} {H : Int → Int}, MInv n h st i H → Told n h ms st i H → many 76 ms + cnt (fun x => decide (H x > x)) n = cnt (fun x => decide (h x > x)) n
 | [], _, _, H, _, t => by
  have : cnt (fun x => decide (H x > x)) n = cnt (fun x => decide (h x > x)) n := cnt_congr fun a _ _ => by rw [t.2.2 a]
  simp [many, this]
 | m :: ms, st, i, H, M, t => by
  rcases t with ⟨rfl, a, c, r, rfl, e, d, t⟩ | ⟨rfl, a, c, r, rfl, _, e, d, t⟩ | ⟨rfl, hi, hr, t⟩
  ·have := Told.lefts (M.left e d) t
   have hca : c < a := M.inv.desc.1 c (by simp)
   have hc := M.inv.rng c (by simp)
   have h1 := M.inv.i1
   have h0 := (M.inv.free c hc.1 hc.2).2 (by simp)
   rw [cnt_one (p := fun x => decide (H x > x)) (b := c) hc.1 (by omega) (by simp; omega) (by rw [upd_self]; simpa using hca) (fun x hx => by rw [upd_ne H hx])] at this
   simp only [many, if_true]; omega
  ·have := Told.lefts (M.right e d) t
   have hca : c < a := M.inv.desc.1 c (by simp)
   have ha := M.inv.rng a (by simp)
   have h0 := (M.inv.free a ha.1 ha.2).2 (by simp)
   have hcg : cnt (fun x => decide (upd H a c x > x)) n = cnt (fun x => decide (H x > x)) n := by
    refine cnt_congr fun x _ _ => ?_
    by_cases e2 : x = a
    ·subst e2; rw [upd_self, h0]; simp; omega
    ·rw [upd_ne H e2]
   rw [hcg] at this
   simp only [many]; rw [if_neg (by decide)]; omega
  ·have := Told.lefts (M.push hi (fun a c r e hx => hx.elim (hr a c r e).1 (hr a c r e).2)) t
   simp only [many]; rw [if_neg (by decide)]; omega

end Hd
