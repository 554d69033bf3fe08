/- Contracts of the functions that the statement FnCrossOk reaches: what each printed function comes to. -/
import Derived.Test.YtogmdcdipnmbkaaPFnCrossOkx2
import Derived.Test.YtogmdcdipnmbkaaWSized
import Derived.Test.YtogmdcdipnmbkaaHd1
import Derived.Test.YtogmdcdipnmbkaaHd2
import Derived.Test.YtogmdcdipnmbkaaHd3
import Derived.Test.YtogmdcdipnmbkaaHd4
import Derived.Test.YtogmdcdipnmbkaaHd5
import Derived.Test.YtogmdcdipnmbkaaHd6
import Derived.Test.YtogmdcdipnmbkaaHd7
namespace Go.Proofs.Ytogmdcdipnmbkaa.PrintWords
/-- The name by which the printed row calls the word. -/
abbrev sized_ints := @Go.Proofs.YtogmdcdipnmbkaaW.PrintWords.sized_ints
end Go.Proofs.Ytogmdcdipnmbkaa.PrintWords
namespace Go.Proofs.Ytogmdcdipnmbkaa.PFnCrossOk
open Go.RowKit Go.Proofs.YtogmdcdipnmbkaaW.PrintWords Go.Proofs.YtogmdcdipnmbkaaW.PrintLast Go.Proofs.YtogmdcdipnmbkaaW.PrintMore
set_option linter.unusedVariables false
theorem wid {x : Int} (h : -9223372036854775808 ≤ x) (h' : x ≤ 9223372036854775807) : wrap64 x = x := by unfold wrap64; omega
theorem Ev.pos {α : Type} {c : Prop} [Decidable c] {A B : Nat → Option α} {r : α} (h : c) (e : Ev A r) : Ev (fun k => if c then A k else B k) r := by simpa only [if_pos h] using e
theorem Ev.neg {α : Type} {c : Prop} [Decidable c] {A B : Nat → Option α} {r : α} (h : ¬ c) (e : Ev B r) : Ev (fun k => if c then A k else B k) r := by simpa only [if_neg h] using e
theorem Ev.bindv {α β : Type} {o : Option α} {f : Nat → α → Option β} {a : α} {r : β} (h : o = some a) (k : Ev (fun n => f n a) r) : Ev (fun n => o.bind (f n)) r := by subst h; exact k
theorem Ev.ret {α : Type} {a r : α} (h : a = r) : Ev (fun _ => some a) r := h ▸ Ev.now a
theorem rd_hd {l : List Int} {a : Int} (h : 1 ≤ a) : rd l (a - 1) = Hd.hd l a := Hd.hd_get h
theorem rd_hd1 {l : List Int} {a : Int} (h : 0 ≤ a) : rd l a = Hd.hd l (a + 1) := by rw [← rd_hd (by omega)]; congr 1; omega
/-- The two arcs cross, each by two different words. -/
def CrsP (a b c d : Int) : Prop := 1 ≤ a ∧ 1 ≤ b ∧ 1 ≤ c ∧ 1 ≤ d ∧ a ≠ b ∧ c ≠ d ∧ Hd.Crs a b c d
open Classical in
noncomputable def crsB (a b c d : Int) : Bool := decide (CrsP a b c d)
theorem crsB_true {a b c d : Int} : crsB a b c d = true ↔ CrsP a b c d := by simp [crsB]
theorem crsB_no {a b c d : Int} (h : ¬ CrsP a b c d) : crsB a b c d = false := by simp [crsB, h]
theorem crsB_yes {a b c d : Int} (h : CrsP a b c d) : crsB a b c d = true := by simp [crsB, h]
theorem some_bool {a b : Bool} (h : a = true ↔ b = true) : some a = some b := congrArg some (Bool.eq_iff_iff.2 h)
theorem bool_eq {a b : Bool} (h : a = true ↔ b = true) : a = b := Bool.eq_iff_iff.2 h
/-- A word of a tree. -/
noncomputable def wordB (l : List Int) (a : Int) : Bool := Hd.treeB l && decide (1 ≤ a ∧ a ≤ (l.length : Int))
theorem wordB_true {l : List Int} {a : Int} : wordB l a = true ↔ Hd.T l ∧ 1 ≤ a ∧ a ≤ (l.length : Int) := by simp [wordB, Hd.treeB_true]
theorem mn_mx (a b : Int) : (mn a b = a ∧ mx a b = b ∧ a ≤ b) ∨ (mn a b = b ∧ mx a b = a ∧ b ≤ a) := by
  unfold mn mx
  split <;> split <;> omega

/-! spec_CrossOk -/

theorem spec_CrossOk_eq (a b c d : Int) : spec_CrossOk.f a b c d = some (crsB a b c d) := by
  have m1 := mn_mx a b
  have m2 := mn_mx c d
  unfold spec_CrossOk.f
  generalize mn a b = p at *
  generalize mx a b = q at *
  generalize mn c d = r at *
  generalize mx c d = s at *
  by_cases h : CrsP a b c d
  · rw [crsB_yes h]
    unfold CrsP Hd.Crs Hd.Btw Hd.Outs at h
    rw [if_neg (by omega), if_neg (by omega), if_neg (by omega), if_neg (by omega), if_neg (by omega), if_neg (by omega)]
    by_cases h1 : p < r
    · rw [if_pos h1, if_pos (by omega), if_pos (by omega)]
    · rw [if_neg h1, if_pos (by omega), if_pos (by omega), decide_eq_true (by omega)]
  · rw [crsB_no h]
    unfold CrsP Hd.Crs Hd.Btw Hd.Outs at h
    by_cases h1 : a < 1
    · rw [if_pos h1]
    by_cases h2 : b < 1
    · rw [if_neg h1, if_pos h2]
    by_cases h3 : c < 1
    · rw [if_neg h1, if_neg h2, if_pos h3]
    by_cases h4 : d < 1
    · rw [if_neg h1, if_neg h2, if_neg h3, if_pos h4]
    by_cases h5 : a = b
    · rw [if_neg h1, if_neg h2, if_neg h3, if_neg h4, if_pos h5]
    by_cases h6 : c = d
    · rw [if_neg h1, if_neg h2, if_neg h3, if_neg h4, if_neg h5, if_pos h6]
    rw [if_neg h1, if_neg h2, if_neg h3, if_neg h4, if_neg h5, if_neg h6]
    have last : (if r < p then if p < s then some (decide (s < q)) else some false else some false) = some false := by
      by_cases k1 : r < p
      · rw [if_pos k1]
        by_cases k2 : p < s
        · rw [if_pos k2, decide_eq_false (by omega)]
        · rw [if_neg k2]
      · rw [if_neg k1]
    by_cases k1 : p < r
    · rw [if_pos k1]
      by_cases k2 : r < q
      · rw [if_pos k2, if_neg (by omega)]; exact last
      · rw [if_neg k2]; exact last
    · rw [if_neg k1]; exact last

/-! impl_between -/

open Classical in
theorem impl_between_eq (x a b : Int) : impl_between.f x a b = some (decide (Hd.Btw x a b)) := by
  have m := mn_mx a b
  unfold impl_between.f
  generalize mn a b = p at *
  generalize mx a b = q at *
  have e : decide (Hd.Btw x a b) = decide (p < x ∧ x < q) := decide_eq_decide.2 (by unfold Hd.Btw; omega)
  rw [e]
  by_cases h : x > p
  · rw [if_pos h]; congr 1; simp; omega
  · rw [if_neg h]; congr 1; simp; omega

/-! impl_outside -/

open Classical in
theorem impl_outside_eq (x a b : Int) : impl_outside.f x a b = some (decide (Hd.Outs x a b)) := by
  have m := mn_mx a b
  unfold impl_outside.f
  generalize mn a b = p at *
  generalize mx a b = q at *
  have e : decide (Hd.Outs x a b) = decide (x < p ∨ q < x) := decide_eq_decide.2 (by unfold Hd.Outs; omega)
  rw [e]
  by_cases h : x < p
  · rw [if_pos h]; congr 1; simp; omega
  · rw [if_neg h]; congr 1; simp; omega

/-! impl_CrossOk -/
theorem impl_CrossOk.j0.ev {x0 : Int} {x1 : Int} {x2 : Int} {x3 : Int} {x32 : Bool} {r : Bool} (h : Ev (fun k => if x32 = true then (some false) else ((impl_between.f x2 x0 x1).bind fun t101 => (if t101 = true then ((impl_outside.f x3 x0 x1).bind fun t102 => (if t102 = true then (some true) else ((impl_between.f x3 x0 x1).bind fun t103 => (if t103 = true then ((impl_outside.f x2 x0 x1).bind fun t104 => (some t104)) else (some false))))) else ((impl_between.f x3 x0 x1).bind fun t105 => (if t105 = true then ((impl_outside.f x2 x0 x1).bind fun t106 => (some t106)) else (some false)))))) r) : Ev (fun k => impl_CrossOk.j0 k x0 x1 x2 x3 x32) r := Ev.step (fun _ => rfl) h
theorem impl_CrossOk_ev (a b c d : Int) : Ev (fun k => impl_CrossOk.f k a b c d) (crsB a b c d) := by
  unfold impl_CrossOk.f
  have no : ¬ (1 ≤ a ∧ 1 ≤ b ∧ 1 ≤ c ∧ 1 ≤ d ∧ a ≠ b ∧ c ≠ d) → Ev (fun k => impl_CrossOk.j0 k a b c d true) (crsB a b c d) := fun h => by
    refine impl_CrossOk.j0.ev (Ev.pos rfl (Ev.ret ?_))
    rw [crsB_no fun p => h ⟨p.1, p.2.1, p.2.2.1, p.2.2.2.1, p.2.2.2.2.1, p.2.2.2.2.2.1⟩]
  by_cases h1 : a < 1
  · exact Ev.pos h1 (no (by omega))
  refine Ev.neg h1 ?_
  by_cases h2 : b < 1
  · exact Ev.pos h2 (no (by omega))
  refine Ev.neg h2 ?_
  by_cases h3 : c < 1
  · exact Ev.pos h3 (no (by omega))
  refine Ev.neg h3 ?_
  by_cases h4 : d < 1
  · exact Ev.pos h4 (no (by omega))
  refine Ev.neg h4 ?_
  by_cases h5 : a = b
  · exact Ev.pos h5 (no (by omega))
  refine Ev.neg h5 ?_
  by_cases h6 : c = d
  · rw [show (c == d) = true from by simpa using h6]; exact no (by omega)
  rw [show (c == d) = false from by simpa using h6]
  refine impl_CrossOk.j0.ev (Ev.neg (by simp) ?_)
  have e : crsB a b c d = true ↔ Hd.Crs a b c d := by
    rw [crsB_true]
    exact ⟨fun p => p.2.2.2.2.2.2, fun p => ⟨by omega, by omega, by omega, by omega, h5, h6, p⟩⟩
  refine Ev.bindv (impl_between_eq _ _ _) ?_
  by_cases b1 : Hd.Btw c a b
  · refine Ev.pos (by simpa using b1) (Ev.bindv (impl_outside_eq _ _ _) ?_)
    by_cases o1 : Hd.Outs d a b
    · refine Ev.pos (by simpa using o1) (Ev.ret ?_)
      exact (e.2 (.inl ⟨b1, o1⟩)).symm
    · refine Ev.neg (by simpa using o1) (Ev.bindv (impl_between_eq _ _ _) ?_)
      by_cases b2 : Hd.Btw d a b
      · refine Ev.pos (by simpa using b2) (Ev.bindv (impl_outside_eq _ _ _) (Ev.ret (bool_eq ?_)))
        rw [e]; simp; unfold Hd.Crs; constructor
        · intro h; exact .inr ⟨b2, h⟩
        · rintro (h | h)
          · exact absurd h.2 o1
          · exact h.2
      · refine Ev.neg (by simpa using b2) (Ev.ret (bool_eq ?_))
        rw [e]; simp; unfold Hd.Crs; rintro (h | h)
        · exact o1 h.2
        · exact b2 h.1
  · refine Ev.neg (by simpa using b1) (Ev.bindv (impl_between_eq _ _ _) ?_)
    by_cases b2 : Hd.Btw d a b
    · refine Ev.pos (by simpa using b2) (Ev.bindv (impl_outside_eq _ _ _) (Ev.ret (bool_eq ?_)))
      rw [e]; simp; unfold Hd.Crs; constructor
      · intro h; exact .inr ⟨b2, h⟩
      · rintro (h | h)
        · exact absurd h.1 b1
        · exact h.2
    · refine Ev.neg (by simpa using b2) (Ev.ret (bool_eq ?_))
      rw [e]; simp; unfold Hd.Crs; rintro (h | h)
      · exact b1 h.1
      · exact b2 h.1

/-! spec_l20Open -/

/-- Bytes of a code, as far as they are read. -/
def Bts (b : List Int) : Prop := b.length ≤ 2000 ∧ ∀ i : Int, 0 ≤ rd b i ∧ rd b i ≤ 255
theorem bts_rd {l : List Int} (h : ∀ x, x ∈ l → 0 ≤ x ∧ x ≤ 255) (i : Int) : 0 ≤ rd l i ∧ rd l i ≤ 255 := by
  unfold rd
  rw [List.getD_eq_getElem?_getD]
  by_cases hi : i.toNat < l.length
  · rw [List.getElem?_eq_getElem hi]; exact h _ (List.getElem_mem hi)
  · rw [List.getElem?_eq_none (by omega)]; simp
theorem spec_l20Open_eq {l : List Int} (h : ∀ x ∈ l, (Lit.int .u8 x).wf = true) : ∃ b, spec_l20Open.f l = some (b, 0) ∧ Bts b := by
  have hb : ∀ x, x ∈ l → 0 ≤ x ∧ x ≤ 255 := fun x hx => by
    have := h x hx
    simpa [Lit.wf, IntKind.min, IntKind.max, IntKind.signed, IntKind.bits] using this
  unfold spec_l20Open.f
  by_cases hl : (l.length : Int) > 2000
  · rw [if_pos hl, if_pos (by omega)]
    exact ⟨_, rfl, by simp; omega, bts_rd fun x hx => hb x (List.mem_of_mem_take hx)⟩
  · rw [if_neg hl]
    exact ⟨_, rfl, by omega, bts_rd hb⟩

/-! spec_l20Rd_pick -/
theorem spec_l20Rd_pick.j0.ev {x1 : Int} {x24 : Bool} {x1000 : List Int} {x1001 : Int} {r : Int × Int} (h : Ev (fun k => if x24 = true then (some (0, x1001)) else (if (wrap64 (x1001 - 1)) < (x1000.length : Int) then (if 0 ≤ (wrap64 (x1001 - 1)) then (if x1 = 0 then (none) else (some (Int.tmod (wrap64 (rd x1000 (wrap64 (x1001 - 1)))) x1, x1001))) else (none)) else (if (x1000.length : Int) = 0 then (none) else (if 0 ≤ (Int.tmod (wrap64 (x1001 - 1)) (x1000.length : Int)) then (if (Int.tmod (wrap64 (x1001 - 1)) (x1000.length : Int)) < (x1000.length : Int) then (if 0 ≤ (Int.tmod (wrap64 ((wrap64 ((wrap64 (x1001 - 1)) * 7)) + 3)) (x1000.length : Int)) then (if (Int.tmod (wrap64 ((wrap64 ((wrap64 (x1001 - 1)) * 7)) + 3)) (x1000.length : Int)) < (x1000.length : Int) then (if x1 = 0 then (none) else (some (Int.tmod (Go.bits .xor .i64 (wrap64 ((wrap64 ((wrap64 ((wrap64 ((wrap64 (rd x1000 (Int.tmod (wrap64 (x1001 - 1)) (x1000.length : Int)))) * 131)) + (wrap64 ((wrap64 (rd x1000 (Int.tmod (wrap64 ((wrap64 ((wrap64 (x1001 - 1)) * 7)) + 3)) (x1000.length : Int)))) * 1117)))) + (wrap64 ((wrap64 (x1001 - 1)) * 29)))) + (wrap64 ((wrap64 (Int.tdiv (wrap64 (x1001 - 1)) (x1000.length : Int))) * 53)))) (wrap64 (Int.tdiv (wrap64 ((wrap64 ((wrap64 ((wrap64 ((wrap64 (rd x1000 (Int.tmod (wrap64 (x1001 - 1)) (x1000.length : Int)))) * 131)) + (wrap64 ((wrap64 (rd x1000 (Int.tmod (wrap64 ((wrap64 ((wrap64 (x1001 - 1)) * 7)) + 3)) (x1000.length : Int)))) * 1117)))) + (wrap64 ((wrap64 (x1001 - 1)) * 29)))) + (wrap64 ((wrap64 (Int.tdiv (wrap64 (x1001 - 1)) (x1000.length : Int))) * 53)))) 64))) x1, x1001))) else (none)) else (none)) else (none)) else (none))))) r) : Ev (fun k => spec_l20Rd_pick.j0 k x1 x24 x1000 x1001) r := Ev.step (fun _ => rfl) h
theorem bits_xor_nat (k : Go.IntKind) (j : Nat) (hj : j ≤ k.bits) (hk : ∀ n : Int, 0 ≤ n → n < 2 ^ j → k.wrap n = n) (a b : Nat) (ha : a < 2 ^ j) (hb : b < 2 ^ j) : Go.bits .xor k a b = ((a ^^^ b : Nat) : Int) := by
  have hp : 2 ^ j ≤ 2 ^ k.bits := Nat.pow_le_pow_right (by decide) hj
  have ha' : a % 2 ^ k.bits = a := Nat.mod_eq_of_lt (Nat.lt_of_lt_of_le ha hp)
  have hb' : b % 2 ^ k.bits = b := Nat.mod_eq_of_lt (Nat.lt_of_lt_of_le hb hp)
  simp only [Go.bits, BitVec.ofInt_natCast, BitVec.toNat_xor, BitVec.toNat_ofNat, ha', hb']
  refine hk _ (Int.natCast_nonneg _) ?_
  exact_mod_cast Nat.xor_lt_two_pow ha hb
theorem xor_i64 {a b : Nat} (ha : a < 2 ^ 40) (hb : b < 2 ^ 40) : Go.bits .xor .i64 (a : Int) (b : Int) = ((a ^^^ b : Nat) : Int) :=
  bits_xor_nat .i64 40 (by decide) (fun n h0 h1 => by rw [Go.IntKind.wrap_i64]; omega) a b ha hb
theorem xor_nonneg {x : Int} (h0 : 0 ≤ x) (h1 : x < 1000000000) : 0 ≤ Go.bits .xor .i64 x (Int.tdiv x 64) ∧ Go.bits .xor .i64 x (Int.tdiv x 64) < 2 ^ 40 := by
  obtain ⟨a, rfl⟩ := Int.eq_ofNat_of_zero_le h0
  have : Int.tdiv (a : Int) 64 = ((a / 64 : Nat) : Int) := by
    rw [Int.tdiv_eq_ediv_of_nonneg (by omega)]; simp
  rw [this, xor_i64 (by omega) (by omega)]
  have := Nat.xor_lt_two_pow (n := 40) (x := a) (y := a / 64) (by omega) (by omega)
  omega
theorem spec_l20Rd_pick_ev {b : List Int} (B : Bts b) {p : Int} (h0 : 0 ≤ p) (h1 : p ≤ 1000000) (n : Int) : ∃ r : Int, Ev (fun k => spec_l20Rd_pick.f k b p n) (r, p + 1) ∧ 0 ≤ r ∧ (1 ≤ n → r < n) := by
  unfold spec_l20Rd_pick.f
  rw [wid (x := p + 1) (by omega) (by omega)]
  by_cases hn : n < 1
  · exact ⟨0, Ev.pos hn (spec_l20Rd_pick.j0.ev (Ev.pos rfl (Ev.now _))), by omega, by omega⟩
  by_cases hb : b.length = 0
  · refine ⟨0, Ev.neg hn ?_, by omega, by omega⟩
    rw [show ((b.length : Int) == 0) = true from by simp [hb]]
    exact spec_l20Rd_pick.j0.ev (Ev.pos rfl (Ev.now _))
  have hlen := B.1
  have key : ∃ r : Int, Ev (fun k => spec_l20Rd_pick.j0 k n false b (p + 1)) (r, p + 1) ∧ 0 ≤ r ∧ (1 ≤ n → r < n) := by
    by_cases hlt : p < b.length
    · refine ⟨Int.tmod (rd b p) n, spec_l20Rd_pick.j0.ev (Ev.neg (by simp) ?_), Int.tmod_nonneg _ (B.2 p).1, fun h => Int.tmod_lt_of_pos _ (by omega)⟩
      have := B.2 p
      rw [wid (x := p + 1 - 1) (by omega) (by omega), show p + 1 - 1 = p from by omega, wid (x := rd b p) (by omega) (by omega)]
      exact Ev.pos hlt (Ev.pos h0 (Ev.neg (by omega) (Ev.now _)))
    · have t0 : 0 ≤ Int.tmod p b.length := Int.tmod_nonneg _ h0
      have t1 : Int.tmod p b.length < b.length := Int.tmod_lt_of_pos _ (by omega)
      have u0 : 0 ≤ Int.tmod (p * 7 + 3) b.length := Int.tmod_nonneg _ (by omega)
      have u1 : Int.tmod (p * 7 + 3) b.length < b.length := Int.tmod_lt_of_pos _ (by omega)
      have v0 : 0 ≤ Int.tdiv p b.length := Int.tdiv_nonneg h0 (by omega)
      have v1 : Int.tdiv p b.length ≤ p := by
        rw [Int.tdiv_eq_ediv_of_nonneg h0]
        exact Int.ediv_le_self _ h0
      have b1 := B.2 (Int.tmod p b.length)
      have b2 := B.2 (Int.tmod (p * 7 + 3) b.length)
      generalize e1 : rd b (Int.tmod p b.length) = y1 at *
      generalize e2 : rd b (Int.tmod (p * 7 + 3) b.length) = y2 at *
      have hx0 : 0 ≤ y1 * 131 + y2 * 1117 + p * 29 + Int.tdiv p b.length * 53 := by omega
      have hx1 : y1 * 131 + y2 * 1117 + p * 29 + Int.tdiv p b.length * 53 < 1000000000 := by omega
      have hx := xor_nonneg hx0 hx1
      refine ⟨Int.tmod (Go.bits .xor .i64 (y1 * 131 + y2 * 1117 + p * 29 + Int.tdiv p b.length * 53) (Int.tdiv (y1 * 131 + y2 * 1117 + p * 29 + Int.tdiv p b.length * 53) 64)) n, spec_l20Rd_pick.j0.ev (Ev.neg (by simp) ?_), Int.tmod_nonneg _ hx.1, fun h => Int.tmod_lt_of_pos _ (by omega)⟩
      have d0 : 0 ≤ Int.tdiv (y1 * 131 + y2 * 1117 + p * 29 + Int.tdiv p b.length * 53) 64 := Int.tdiv_nonneg hx0 (by omega)
      have d1 : Int.tdiv (y1 * 131 + y2 * 1117 + p * 29 + Int.tdiv p b.length * 53) 64 ≤ y1 * 131 + y2 * 1117 + p * 29 + Int.tdiv p b.length * 53 := by
        rw [Int.tdiv_eq_ediv_of_nonneg hx0]
        exact Int.ediv_le_self _ hx0
      rw [wid (x := p + 1 - 1) (by omega) (by omega), show p + 1 - 1 = p from by omega, wid (x := p * 7) (by omega) (by omega), wid (x := p * 7 + 3) (by omega) (by omega), e1, e2]
      rw [wid (x := y1) (by omega) (by omega), wid (x := y2) (by omega) (by omega), wid (x := y1 * 131) (by omega) (by omega), wid (x := y2 * 1117) (by omega) (by omega), wid (x := y1 * 131 + y2 * 1117) (by omega) (by omega), wid (x := p * 29) (by omega) (by omega), wid (x := y1 * 131 + y2 * 1117 + p * 29) (by omega) (by omega)]
      rw [wid (x := Int.tdiv p b.length) (by omega) (by omega), wid (x := Int.tdiv p b.length * 53) (by omega) (by omega), wid (x := y1 * 131 + y2 * 1117 + p * 29 + Int.tdiv p b.length * 53) (by omega) (by omega)]
      rw [wid (x := Int.tdiv (y1 * 131 + y2 * 1117 + p * 29 + Int.tdiv p b.length * 53) 64) (by omega) (by omega)]
      exact Ev.neg hlt (Ev.neg (by omega) (Ev.pos t0 (Ev.pos t1 (Ev.pos u0 (Ev.pos u1 (Ev.neg (by omega) (Ev.now _)))))))
  obtain ⟨r, e, h2, h3⟩ := key
  refine ⟨r, Ev.neg hn ?_, h2, h3⟩
  rw [show ((b.length : Int) == 0) = false from by simpa using hb]
  exact e

/-! spec_DrawCrossOk -/

theorem spec_DrawCrossOk_ev {l : List Int} (h : ∀ x ∈ l, (Lit.int .u8 x).wf = true) : ∃ r, Ev (fun k => spec_DrawCrossOk.f k l) r := by
  obtain ⟨b, eb, B⟩ := spec_l20Open_eq h
  obtain ⟨r1, e1, _⟩ := spec_l20Rd_pick_ev B (p := 0) (by omega) (by omega) 8
  obtain ⟨r2, e2, _⟩ := spec_l20Rd_pick_ev B (p := 0 + 1) (by omega) (by omega) 8
  obtain ⟨r3, e3, _⟩ := spec_l20Rd_pick_ev B (p := 0 + 1 + 1) (by omega) (by omega) 8
  obtain ⟨r4, e4, _⟩ := spec_l20Rd_pick_ev B (p := 0 + 1 + 1 + 1) (by omega) (by omega) 8
  unfold spec_DrawCrossOk.f
  exact ⟨_, Ev.bindv eb (Ev.bind e1 (Ev.bind e2 (Ev.bind e3 (Ev.bind e4 (Ev.now _)))))⟩


end Go.Proofs.Ytogmdcdipnmbkaa.PFnCrossOk
