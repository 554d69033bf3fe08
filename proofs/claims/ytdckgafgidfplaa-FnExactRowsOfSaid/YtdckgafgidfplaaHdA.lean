/- Plain facts on orders of words, and on trees put in another order. -/
import Derived.Test.YtdckgafgidfplaaHd9
namespace Hd
theorem Perm.sur {n : Nat} {o : List Int} (P : Perm n o) : ∀ w : Int, 1 ≤ w → w ≤ n → ∃ a : Int, (1 ≤ a ∧ a ≤ n) ∧ hd o a = w := by
 classical
 have key : ∀ k : Nat, k ≤ n → cnt (fun x => decide (∃ a : Int, (1 ≤ a ∧ a ≤ k) ∧ hd o a = x)) n = k := by
  intro k
  induction k with
  | zero =>
   intro _
   exact cnt_none fun x _ _ => by
    rw [decide_eq_false_iff_not]
    rintro ⟨a, h, _⟩; omega
  | succ k ih =>
   intro hk
   have r := P.rng ((k : Int) + 1) (by omega) (by omega)
   have := cnt_one (p := fun x => decide (∃ a : Int, (1 ≤ a ∧ a ≤ k) ∧ hd o a = x)) (q := fun x => decide (∃ a : Int, (1 ≤ a ∧ a ≤ ((k + 1 : Nat) : Int)) ∧ hd o a = x)) (b := hd o ((k : Int) + 1)) (m := n) r.1 r.2
    (by
     rw [decide_eq_false_iff_not]
     rintro ⟨a, h, e⟩
     have := P.inj a ((k : Int) + 1) h.1 (by omega) (by omega) (by omega) e
     omega)
    (by
     rw [decide_eq_true_eq]
     exact ⟨(k : Int) + 1, by omega, rfl⟩)
    (fun x hx => decide_eq_decide.2 (by
     constructor
     ·rintro ⟨a, h, e⟩; exact ⟨a, by omega, e⟩
     ·rintro ⟨a, h, e⟩
      by_cases e2 : a = (k : Int) + 1
      ·subst e2; exact absurd e.symm hx
      ·exact ⟨a, by omega, e⟩))
   rw [this, ih (by omega)]
 intro w h1 h2
 have := cnt_full (p := fun x => decide (∃ a : Int, (1 ≤ a ∧ a ≤ n) ∧ hd o a = x)) (m := n) (by rw [key n (Nat.le_refl _)]; exact Nat.le_refl _) w h1 h2
 simpa using this

/-- The place of a word in an order, 0 for none. -/
noncomputable def plc (o : List Int) (w : Int) : Int := open Classical in if h : ∃ a : Int, (1 ≤ a ∧ a ≤ o.length) ∧ hd o a = w ∧ w ≠ 0 then Classical.choose h else 0
theorem plc_zero (o : List Int) : plc o 0 = 0 := by
 unfold plc
 rw [dif_neg]
 rintro ⟨a, _, _, h⟩
 exact h rfl
theorem plc_at {n : Nat} {o : List Int} (P : Perm n o) {a : Int} (h1 : 1 ≤ a) (h2 : a ≤ n) : plc o (hd o a) = a := by
 have r := P.rng a h1 h2
 have h : ∃ b : Int, (1 ≤ b ∧ b ≤ (o.length : Int)) ∧ hd o b = hd o a ∧ hd o a ≠ 0 := ⟨a, by rw [P.len]; omega, rfl, by omega⟩
 unfold plc
 rw [dif_pos h]
 have c := Classical.choose_spec h
 have l := P.len
 exact P.inj _ a c.1.1 (by omega) h1 h2 c.2.1
theorem plc_word {n : Nat} {o : List Int} (P : Perm n o) {w : Int} (h1 : 1 ≤ w) (h2 : w ≤ n) : (1 ≤ plc o w ∧ plc o w ≤ n) ∧ hd o (plc o w) = w := by
 obtain ⟨a, ha, rfl⟩ := P.sur w h1 h2
 rw [plc_at P ha.1 ha.2]
 exact ⟨ha, rfl⟩
theorem plc_eq {n : Nat} {o : List Int} (P : Perm n o) {Q : Int → Int} (q0 : Q 0 = 0) (q1 : ∀ a : Int, 1 ≤ a → a ≤ n → Q (hd o a) = a) {w : Int} (h0 : 0 ≤ w) (h2 : w ≤ n) : Q w = plc o w := by
 by_cases hz : w = 0
 ·rw [hz, q0, plc_zero]
 ·obtain ⟨a, ha, rfl⟩ := P.sur w (by omega) h2
  rw [q1 a ha.1 ha.2, plc_at P ha.1 ha.2]
open Classical in
noncomputable def putL (l o : List Int) : List Int := if T l ∧ Perm l.length o then tab (fun a => plc o (hd l (hd o a))) l.length else []
open Classical in
noncomputable def putB (l o : List Int) : Bool := decide (T l ∧ Perm l.length o)
open Classical in
noncomputable def ordB (o : List Int) (m : Int) : Bool := decide ((1 ≤ m ∧ m ≤ 8) ∧ Perm m.toNat o)
theorem ordB_true {o : List Int} {m : Int} : ordB o m = true ↔ (1 ≤ m ∧ m ≤ 8) ∧ Perm m.toNat o := by simp [ordB]
theorem putB_true {l o : List Int} : putB l o = true ↔ T l ∧ Perm l.length o := by simp [putB]
theorem putL_len (l o : List Int) : (putL l o).length ≤ 8 := by
 unfold putL
 split
 ·rename_i h
  rw [tab_length]; exact h.1.1
 ·simp
theorem put_ren {l o : List Int} (t : T l) (P : Perm l.length o) : Ren l (putL l o) (plc o) where
 len := by rw [putL, if_pos ⟨t, P⟩, tab_length]
 zero := plc_zero o
 rng := fun _ h1 h2 => (plc_word P h1 h2).1
 sur := fun b h1 h2 => ⟨hd o b, P.rng b h1 h2, plc_at P h1 h2⟩
 inj := fun a b h1 h2 h3 h4 e => by rw [← (plc_word P h1 h2).2, ← (plc_word P h3 h4).2, e]
 head := fun a h1 h2 => by
  have p := plc_word P h1 h2
  rw [putL, if_pos ⟨t, P⟩, hd_tab p.1.1 p.1.2, p.2]
theorem putL_eq {l o : List Int} (t : T l) (P : Perm l.length o) {Q : Int → Int} (q0 : Q 0 = 0) (q1 : ∀ a : Int, 1 ≤ a → a ≤ l.length → Q (hd o a) = a) : tab (fun a => Q (hd l (hd o a))) l.length = putL l o := by
 rw [putL, if_pos ⟨t, P⟩]
 exact tab_congr fun a _ _ => plc_eq P q0 q1 (t.2.lo _) (t.2.hi _)
end Hd
