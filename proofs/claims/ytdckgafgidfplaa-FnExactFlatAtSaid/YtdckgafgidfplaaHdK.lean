/- What FlatAt answers: plain facts. -/
import Derived.Test.YtdckgafgidfplaaHdI
import Derived.Test.YtdckgafgidfplaaHd9
theorem tF_len {n : Nat} (h0 : 1 ≤ n) (h1 : n ≤ 6) : (Hd.tF n).length = Hd.cF n := by
 have h : n = 1 ∨ n = 2 ∨ n = 3 ∨ n = 4 ∨ n = 5 ∨ n = 6 := by omega
 rcases h with rfl | rfl | rfl | rfl | rfl | rfl <;> decide +kernel
theorem cF_eq' {a : Nat} (h0 : 1 ≤ a) (h1 : a ≤ 6) : flatN (a : Int) = (Hd.cF a : Int) := by
 have h : a = 1 ∨ a = 2 ∨ a = 3 ∨ a = 4 ∨ a = 5 ∨ a = 6 := by omega
 rcases h with rfl | rfl | rfl | rfl | rfl | rfl <;> rfl
/-- What FlatAt answers. -/
def flatAtI (a b : Int) : List Int × Bool := if 0 ≤ b ∧ b < flatN a then (Hd.toI ((Hd.tF a.toNat).getD b.toNat []), true) else ([], false)
