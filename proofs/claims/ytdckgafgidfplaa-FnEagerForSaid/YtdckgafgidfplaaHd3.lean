/- Plain facts on the machine with a stack: what its moves tell is a flat tree; the rule tells each flat tree. -/
import Derived.Test.YtdckgafgidfplaaHd2
namespace Hd

/-- H, but that u is the head of b. -/
def upd (H : Int → Int) (b u : Int) : Int → Int := fun x => if x = b then u else H x

theorem upd_self (H : Int → Int) (b u : Int) : upd H b u b = u := if_pos rfl
theorem upd_ne (H : Int → Int) {b u x : Int} (hx : x ≠ b) : upd H b u x = H x := if_neg hx

/-- The upper ones first: each is less than those above. -/
def Desc : List Int → Prop
 | [] => True
 | a :: t => (∀ b, b ∈ t → b < a) ∧ Desc t

theorem und_upd {H : Int → Int} {b u : Int} (h0 : H 0 = 0) (hb : H b = 0) : ∀ (k : Nat) (x y : Int), y ≠ 0 → it H k x = y → Und (upd H b u) x y := by
 intro k
 induction k with
 | zero => intro x y _ e; have e : x = y := e; rw [e]; exact Und.refl _ _
 | succ k ih =>
  intro x y hy e
  have e' : it H k (H x) = y := e
  by_cases hx : x = b
  ·rw [hx, hb, it_zero h0] at e'
   exact absurd e'.symm hy
  ·have := ih (H x) y hy e'
   rw [← upd_ne (u := u) H hx] at this
   exact this.up

/-- The stack st (the upper ones first) when i words were put, and the heads H that were told. -/
structure Inv (n : Nat) (st : List Int) (i : Int) (H : Int → Int) : Prop where
 i0 : 0 ≤ i
 i1 : i ≤ n
 desc : Desc st
 rng : ∀ s, s ∈ st → 1 ≤ s ∧ s ≤ i
 out : ∀ x : Int, ¬ (1 ≤ x ∧ x ≤ i) → H x = 0
 lo : ∀ x, 0 ≤ H x
 hi : ∀ x, H x ≤ i
 free : ∀ x : Int, 1 ≤ x → x ≤ i → (H x = 0 ↔ x ∈ st)
 reach : ∀ x : Int, 1 ≤ x → x ≤ i → ∃ s, s ∈ st ∧ Und H x s
 bet : Bet H

namespace Inv
variable {n : Nat} {st : List Int} {i : Int} {H : Int → Int}

theorem start (n : Nat) : Inv n [] 0 (fun _ => 0) where
 i0 := by omega
 i1 := by omega
 desc := trivial
 rng := fun s hs => by cases hs
 out := fun _ _ => rfl
 lo := fun _ => by omega
 hi := fun _ => by omega
 free := fun x _ _ => by omega
 reach := fun x _ _ => by omega
 bet := fun k hk => absurd rfl hk

theorem push (I : Inv n st i H) (hi : i < n) : Inv n ((i + 1) :: st) (i + 1) H where
 i0 := by have := I.i0; omega
 i1 := by omega
 desc := ⟨fun b hb => by have := I.rng b hb; omega, I.desc⟩
 rng := fun s hs => by
  have := I.i0
  rcases List.mem_cons.1 hs with rfl | hs
  ·omega
  ·have := I.rng s hs; omega
 out := fun x hx => I.out x (by omega)
 lo := I.lo
 hi := fun x => by have := I.hi x; omega
 free := fun x h1 h2 => by
  by_cases e : x = i + 1
  ·subst e
   simp [I.out (i + 1) (by omega)]
  ·rw [I.free x h1 (by omega)]
   simp [e]
 reach := fun x h1 h2 => by
  by_cases e : x = i + 1
  ·exact ⟨i + 1, by simp, by rw [e]; exact Und.refl _ _⟩
  ·obtain ⟨s, hs, u⟩ := I.reach x h1 (by omega)
   exact ⟨s, by simp [hs], u⟩
 bet := I.bet

theorem zero (I : Inv n st i H) : H 0 = 0 := I.out 0 (by omega)

/-- One of the upper two words becomes the head of the other one. -/
theorem attach {a c : Int} {r : List Int} (I : Inv n (a :: c :: r) i H) {b u : Int} (hbu : (b = c ∧ u = a) ∨ (b = a ∧ u = c)) : Inv n (u :: r) i (upd H b u) := by
 have ha := I.rng a (by simp)
 have hc := I.rng c (by simp)
 have hca : c < a := I.desc.1 c (by simp)
 have hrc : ∀ s, s ∈ r → s < c := I.desc.2.1
 have hHa : H a = 0 := (I.free a ha.1 ha.2).2 (by simp)
 have hHc : H c = 0 := (I.free c hc.1 hc.2).2 (by simp)
 have hHb : H b = 0 := by rcases hbu with ⟨rfl, _⟩ | ⟨rfl, _⟩ <;> assumption
 have hub : u ≠ b := by omega
 have hbr : ∀ s, s ∈ r → s ≠ b ∧ s ≠ u := fun s hs => by have := hrc s hs; omega
 have go : ∀ {x y : Int}, y ≠ 0 → Und H x y → Und (upd H b u) x y := fun hy ⟨k, e⟩ => und_upd I.zero hHb k _ _ hy e
 have bu : Und (upd H b u) b u := by
  have := Und.head (upd H b u) b
  rwa [upd_self] at this
 have hu1 : 1 ≤ u ∧ u ≤ i := by omega
 refine ⟨I.i0, I.i1, ⟨fun s hs => by have := hrc s hs; omega, I.desc.2.2⟩, ?_, ?_, ?_, ?_, ?_, ?_, ?_⟩
 ·intro s hs
  rcases List.mem_cons.1 hs with rfl | hs
  ·exact hu1
  ·exact I.rng s (by simp [hs])
 ·intro x hx
  rw [upd_ne H (by omega)]; exact I.out x hx
 ·intro x
  unfold upd
  split
  ·omega
  ·exact I.lo x
 ·intro x
  unfold upd
  split
  ·omega
  ·exact I.hi x
 ·intro x h1 h2
  by_cases hx : x = b
  ·subst hx
   rw [upd_self]
   constructor
   ·intro e; omega
   ·intro hm
    rcases List.mem_cons.1 hm with e | hm
    ·exact absurd e.symm hub
    ·exact absurd rfl (hbr x hm).1
  ·rw [upd_ne H hx, I.free x h1 h2]
   constructor
   ·intro hm
    rcases List.mem_cons.1 hm with e | hm
    ·rcases hbu with hbu | hbu
     ·simp [e, hbu.2]
     ·exact absurd (e.trans hbu.1.symm) hx
    ·rcases List.mem_cons.1 hm with e | hm
     ·rcases hbu with hbu | hbu
      ·exact absurd (e.trans hbu.1.symm) hx
      ·simp [e, hbu.2]
     ·simp [hm]
   ·intro hm
    rcases List.mem_cons.1 hm with e | hm
    ·rcases hbu with hbu | hbu
     ·simp [e, hbu.2]
     ·simp [e, hbu.2]
    ·simp [hm]
 ·intro x h1 h2
  obtain ⟨s, hs, v⟩ := I.reach x h1 h2
  by_cases hsb : s = b
  ·refine ⟨u, by simp, ?_⟩
   subst hsb
   exact (go (by omega) v).trans bu
  ·refine ⟨s, ?_, go (by have := I.rng s hs; omega) v⟩
   rcases List.mem_cons.1 hs with e | hs
   ·rcases hbu with hbu | hbu
    ·simp [e, hbu.2]
    ·exact absurd (e.trans hbu.1.symm) hsb
   ·rcases List.mem_cons.1 hs with e | hs
    ·rcases hbu with hbu | hbu
     ·exact absurd (e.trans hbu.1.symm) hsb
     ·simp [e, hbu.2]
    ·simp [hs]
 ·intro k hk j hj
  by_cases hkb : k = b
  ·subst hkb
   rw [upd_self] at hj ⊢
   have hj2 : c < j ∧ j < a := by unfold Btw at hj; omega
   obtain ⟨s, hs, v⟩ := I.reach j (by omega) (by omega)
   have hs2 : s = a ∨ s = c := by
    rcases List.mem_cons.1 hs with e | hs
    ·exact .inl e
    ·rcases List.mem_cons.1 hs with e | hs
     ·exact .inr e
     ·have hsc := hrc s hs
      have hs1 := I.rng s (by simp [hs])
      obtain ⟨m, e⟩ := v
      have w := bet_to I.zero I.bet (w := s) (by omega) m j e c (.inr ⟨by omega, by omega⟩)
      rcases w.cases with e | w
      ·omega
      ·rw [hHc] at w
       obtain ⟨m, e⟩ := w
       rw [it_zero I.zero] at e
       omega
   by_cases hsb : s = k
   ·subst hsb
    exact (go (by omega) v).trans bu
   ·have : s = u := by omega
    subst this
    exact go (by omega) v
  ·rw [upd_ne H hkb] at hk hj ⊢
   exact go hk (I.bet k hk j hj)

theorem tree {r : Int} (I : Inv n [r] n H) : Tr n H where
 out := I.out
 lo := I.lo
 hi := I.hi
 root := by
  have hr := I.rng r (by simp)
  exact ⟨r, hr, (I.free r hr.1 hr.2).2 (by simp), fun a h1 h2 e => by simpa using (I.free a h1 h2).1 e⟩
 back := fun a h1 h2 => by
  have hr := I.rng r (by simp)
  obtain ⟨s, hs, k, e⟩ := I.reach a h1 h2
  have hs : s = r := by simpa using hs
  subst hs
  refine Hd.reach I.zero I.lo I.hi ⟨h1, h2⟩ (k := k + 1) ?_
  rw [it_succ, e]
  exact (I.free s hr.1 hr.2).2 (by simp)
end Inv

/-! ### The rule -/
/-- All that depend on w were taken away. -/
def Done (h H : Int → Int) (w : Int) : Prop := ∀ x, h x = w → H x ≠ 0
/-- Of the upper a and the lower c one is the head of the other one, which may be taken away. -/
def Red (h H : Int → Int) (a c : Int) : Prop := (h c = a ∧ Done h H c) ∨ (h a = c ∧ Done h H a)
def NR (h H : Int → Int) : List Int → Prop
 | a :: c :: r => ¬ Red h H a c ∧ NR h H (c :: r)
 | _ => True

structure MInv (n : Nat) (h : Int → Int) (st : List Int) (i : Int) (H : Int → Int) : Prop where
 inv : Inv n st i H
 told : ∀ x, H x ≠ 0 → H x = h x
 closed : ∀ y, H y ≠ 0 → Done h H y
 nr : NR h H st.tail

theorem NR_tail {h H : Int → Int} : ∀ {st : List Int}, NR h H st → NR h H st.tail
 | [], _ => trivial
 | [_], _ => trivial
 | _ :: _ :: _, k => k.2

theorem NR_upd {h H : Int → Int} {b u : Int} : ∀ {st : List Int}, (∀ w, w ∈ st → h b ≠ w) → NR h H st → NR h (upd H b u) st
 | [], _, _ => trivial
 | [_], _, _ => trivial
 | a :: c :: r, hb, k => by
  refine ⟨fun hR => k.1 ?_, NR_upd (st := c :: r) (fun w hw => hb w (by simp at hw ⊢; right; exact hw)) k.2⟩
  have dn : ∀ w, w ∈ a :: c :: r → Done h (upd H b u) w → Done h H w := by
   intro w hw d x hx
   have := d x hx
   by_cases e : x = b
   ·subst e; exact absurd hx (hb w hw)
   ·rwa [upd_ne H e] at this
  rcases hR with ⟨e, d⟩ | ⟨e, d⟩
  ·exact .inl ⟨e, dn c (by simp) d⟩
  ·exact .inr ⟨e, dn a (by simp) d⟩

theorem NR_pair {h H : Int → Int} : ∀ {st : List Int}, Desc st → NR h H st → ∀ {p q : Int}, p ∈ st → q ∈ st → q < p → (∀ y, y ∈ st → ¬ (q < y ∧ y < p)) → ¬ Red h H p q
 | [], _, _, p, q, hp, _, _, _ => by cases hp
 | [a], _, _, p, q, hp, hq, hlt, _ => by
  have : p = a := by simpa using hp
  have : q = a := by simpa using hq
  omega
 | a :: c :: r, d, k, p, q, hp, hq, hlt, hno => by
  have hca := d.1 c (by simp)
  rcases List.mem_cons.1 hp with e | hp
  ·subst e
   have hqc : q = c := by
    rcases List.mem_cons.1 hq with e | hq
    ·omega
    ·rcases List.mem_cons.1 hq with e | hq
     ·exact e
     ·have := d.2.1 q hq
      exact absurd ⟨this, hca⟩ (hno c (by simp))
   rw [hqc]; exact k.1
  ·have hq2 : q ∈ c :: r := by
    rcases List.mem_cons.1 hq with e | hq
    ·have := d.1 p hp; omega
    ·exact hq
   exact NR_pair d.2 k.2 hp hq2 hlt (fun y hy => hno y (by simp at hy ⊢; right; exact hy))

theorem Tr.dep_und {n : Nat} {h : Int → Int} (T : Tr n h) {w : Int} (hw : w ≠ 0) : ∀ (k : Nat) (y : Int), it h k y = w → y ≠ w → dep n h w < dep n h y := by
 intro k
 induction k with
 | zero => intro y e hne; exact absurd e hne
 | succ k ih =>
  intro y e hne
  have e' : it h k (h y) = w := e
  by_cases hz : h y = 0
  ·rw [hz, it_zero T.zero] at e'; exact absurd e'.symm hw
  ·rw [T.dep_head hz]
   by_cases e2 : h y = w
   ·rw [e2]; omega
   ·have := ih (h y) e' e2
    omega

namespace MInv
variable {n : Nat} {h : Int → Int} {st : List Int} {i : Int} {H : Int → Int}

theorem start (n : Nat) (h : Int → Int) : MInv n h [] 0 (fun _ => 0) := ⟨Inv.start n, fun _ hx => absurd rfl hx, fun _ hx => absurd rfl hx, trivial⟩

theorem push (M : MInv n h st i H) (hi : i < n) (hr : ∀ a c r, st = a :: c :: r → ¬ Red h H a c) : MInv n h ((i + 1) :: st) (i + 1) H := by
 refine ⟨M.inv.push hi, M.told, M.closed, ?_⟩
 show NR h H st
 match st, hr, M.nr with
 | [], _, _ => trivial
 | [_], _, _ => trivial
 | a :: c :: r, hr, k => exact ⟨hr a c r rfl, k⟩

theorem left {a c : Int} {r : List Int} (M : MInv n h (a :: c :: r) i H) (e : h c = a) (d : Done h H c) : MInv n h (a :: r) i (upd H c a) := by
 have hca : c < a := M.inv.desc.1 c (by simp)
 have hra : ∀ s, s ∈ r → s < c := M.inv.desc.2.1
 have ha := M.inv.rng a (by simp)
 refine ⟨M.inv.attach (.inl ⟨rfl, rfl⟩), ?_, ?_, ?_⟩
 ·intro x hx
  by_cases e2 : x = c
  ·subst e2; rw [upd_self, e]
  ·rw [upd_ne H e2] at hx ⊢; exact M.told x hx
 ·intro y hy x hx
  by_cases e3 : x = c
  ·subst e3; rw [upd_self]; omega
  ·rw [upd_ne H e3]
   by_cases e2 : y = c
   ·subst e2; exact d x hx
   ·rw [upd_ne H e2] at hy; exact M.closed y hy x hx
 ·exact NR_upd (fun w hw => by have := hra w hw; omega) (NR_tail (st := c :: r) M.nr)

theorem right {a c : Int} {r : List Int} (M : MInv n h (a :: c :: r) i H) (e : h a = c) (d : Done h H a) : MInv n h (c :: r) i (upd H a c) := by
 have hca : c < a := M.inv.desc.1 c (by simp)
 have hra : ∀ s, s ∈ r → s < c := M.inv.desc.2.1
 have hc := M.inv.rng c (by simp)
 refine ⟨M.inv.attach (.inr ⟨rfl, rfl⟩), ?_, ?_, ?_⟩
 ·intro x hx
  by_cases e2 : x = a
  ·subst e2; rw [upd_self, e]
  ·rw [upd_ne H e2] at hx ⊢; exact M.told x hx
 ·intro y hy x hx
  by_cases e3 : x = a
  ·subst e3; rw [upd_self]; omega
  ·rw [upd_ne H e3]
   by_cases e2 : y = a
   ·subst e2; exact d x hx
   ·rw [upd_ne H e2] at hy; exact M.closed y hy x hx
 ·exact NR_upd (fun w hw => by have := hra w hw; omega) (NR_tail (st := c :: r) M.nr)

/-- When all words were put, one of the upper two may be taken away. -/
theorem last (T : Tr n h) (B : Bet h) {a c : Int} {r : List Int} (M : MInv n h (a :: c :: r) n H) : Red h H a c := by
 apply Classical.byContradiction
 intro hR
 have I := M.inv
 have nr : NR h H (a :: c :: r) := ⟨hR, M.nr⟩
 have up : ∀ x, x ∈ a :: c :: r → h x ≠ 0 → h x ∈ a :: c :: r := by
  intro x hx hz
  have hw := T.word hz
  have hxw := I.rng x hx
  rw [← I.free _ hw.1 hw.2]
  apply Classical.byContradiction
  intro hn
  exact M.closed _ hn x rfl ((I.free x hxw.1 hxw.2).2 hx)
 have key : ∀ N : Nat, ∀ x, x ∈ a :: c :: r → h x ≠ 0 → (n - dep n h x) * (n + 1) + (x - h x).natAbs ≤ N → False := by
  intro N
  induction N using Nat.strongRecOn with
  | ind N ih =>
   intro x hx hz hN
   have hxw := T.word_of hz
   have hhw := T.word hz
   have hdx := T.dep_lt hxw
   by_cases hd : Done h H x
   ·by_cases hb : ∃ y, y ∈ a :: c :: r ∧ Btw y x (h x)
    ·obtain ⟨y, hy, hbt⟩ := hb
     have hyx : y ≠ h x ∧ y ≠ x := by unfold Btw at hbt; omega
     obtain ⟨hy0, v⟩ := T.und_step (B x hz y hbt) hyx.1 hz
     have hyw := T.word_of hy0
     have hdy := T.dep_lt hyw
     have d1 := T.dep_head hz
     have d2 := T.dep_head hy0
     have d3 : h y ≠ h x → dep n h (h x) < dep n h (h y) := by
      intro hne
      obtain ⟨k, e⟩ := v
      exact T.dep_und hz k _ e hne
     have lt : (n - dep n h y) * (n + 1) + (y - h y).natAbs < (n - dep n h x) * (n + 1) + (x - h x).natAbs := by
      by_cases he : h y = h x
      ·have : dep n h y = dep n h x := by rw [d1, d2, he]
       rw [this, he]
       unfold Btw at hbt
       omega
      ·have h3 := d3 he
       have h5 := T.word hy0
       have h4 : n - dep n h x = (n - dep n h y) + 1 + (dep n h y - dep n h x - 1) := by omega
       rw [h4, Nat.add_mul, Nat.add_mul]
       have : (y - h y).natAbs ≤ n := by omega
       omega
     exact ih _ (Nat.lt_of_lt_of_le lt hN) y hy hy0 (Nat.le_refl _)
    ·have hm := up x hx hz
     have hno : ∀ y, y ∈ a :: c :: r → ¬ Btw y x (h x) := fun y hy hbt => hb ⟨y, hy, hbt⟩
     have hne := T.not_own hxw
     by_cases hlt : x < h x
     ·refine NR_pair I.desc nr hm hx hlt (fun y hy hh => hno y hy (.inl hh)) (.inl ⟨rfl, hd⟩)
     ·refine NR_pair I.desc nr hx hm (by omega) (fun y hy hh => hno y hy (.inr hh)) (.inr ⟨rfl, hd⟩)
   ·have : ∃ z, h z = x ∧ H z = 0 := by
     apply Classical.byContradiction
     intro hn
     exact hd fun z hz2 h0 => hn ⟨z, hz2, h0⟩
    obtain ⟨z, hzx, hz0⟩ := this
    have hhz : h z ≠ 0 := by omega
    have hzw := T.word_of hhz
    have hdz := T.dep_lt hzw
    have d1 := T.dep_head hhz
    rw [hzx] at d1
    have lt : (n - dep n h z) * (n + 1) + (z - h z).natAbs < (n - dep n h x) * (n + 1) + (x - h x).natAbs := by
     have h4 : n - dep n h x = (n - dep n h z) + 1 := by omega
     rw [h4, Nat.add_mul]
     have : (z - h z).natAbs ≤ n := by omega
     omega
    exact ih _ (Nat.lt_of_lt_of_le lt hN) z ((I.free z hzw.1 hzw.2).1 hz0) hhz (Nat.le_refl _)
 have hca : c < a := I.desc.1 c (by simp)
 obtain ⟨ro, _, _, uq⟩ := T.root
 have ha := I.rng a (by simp)
 have hc := I.rng c (by simp)
 by_cases hz : h a = 0
 ·by_cases hz2 : h c = 0
  ·have := uq a ha.1 ha.2 hz
   have := uq c hc.1 hc.2 hz2
   omega
  ·exact key _ c (by simp) hz2 (Nat.le_refl _)
 ·exact key _ a (by simp) hz (Nat.le_refl _)

theorem all (T : Tr n h) {r : Int} (M : MInv n h [r] n H) : ∀ x, H x = h x := by
 intro x
 obtain ⟨ro, hro, hro0, uq⟩ := T.root
 by_cases hx : H x = 0
 ·by_cases hw : 1 ≤ x ∧ x ≤ (n : Int)
  ·have e1 : x = r := by simpa using (M.inv.free x hw.1 hw.2).1 hx
   have : ro = r := by
    apply Classical.byContradiction
    intro hne
    have h2 : H ro ≠ 0 := fun e => hne (by simpa using (M.inv.free ro hro.1 hro.2).1 e)
    exact h2 ((M.told ro h2).trans hro0)
   rw [hx, e1, ← this, hro0]
  ·rw [hx, T.out x hw]
 ·exact M.told x hx
end MInv

/-- The moves ms are what the rule tells from here on. -/
def Told (n : Nat) (h : Int → Int) : List Int → List Int → Int → (Int → Int) → Prop
 | [], st, i, H => i = n ∧ (∃ r, st = [r]) ∧ ∀ x, H x = h x
 | m :: ms, st, i, H =>
  (m = 76 ∧ ∃ a c r, st = a :: c :: r ∧ h c = a ∧ Done h H c ∧ Told n h ms (a :: r) i (upd H c a)) ∨
  (m = 82 ∧ ∃ a c r, st = a :: c :: r ∧ ¬ (h c = a ∧ Done h H c) ∧ h a = c ∧ Done h H a ∧ Told n h ms (c :: r) i (upd H a c)) ∨
  (m = 83 ∧ i < n ∧ (∀ a c r, st = a :: c :: r → ¬ (h c = a ∧ Done h H c) ∧ ¬ (h a = c ∧ Done h H a)) ∧ Told n h ms ((i + 1) :: st) (i + 1) H)

theorem told_from {n : Nat} {h : Int → Int} (T : Tr n h) (B : Bet h) : ∀ (k : Nat) (st : List Int) (i : Int) (H : Int → Int), MInv n h st i H → 2 * i - st.length + k = 2 * n - 1 → (i = 0 ∨ 1 ≤ st.length) → ∃ ms, Told n h ms st i H ∧ ms.length = k := by
 intro k
 induction k with
 | zero =>
  intro st i H M hk hs
  have h1 := M.inv.i1
  have hp := T.pos
  have hin : i = n ∧ st.length = 1 := by omega
  obtain ⟨rfl, hl⟩ := hin
  match st, hl, M with
  | [r], _, M => exact ⟨[], ⟨rfl, ⟨r, rfl⟩, M.all T⟩, rfl⟩
 | succ k ih =>
  intro st i H M hk hs
  have h1 := M.inv.i1
  have h0 := M.inv.i0
  by_cases hL : ∃ a c r, st = a :: c :: r ∧ (h c = a ∧ Done h H c)
  ·obtain ⟨a, c, r, rfl, e, d⟩ := hL
   obtain ⟨ms, hms, hl⟩ := ih (a :: r) i (upd H c a) (M.left e d) (by simp at hk ⊢; omega) (by simp)
   exact ⟨76 :: ms, .inl ⟨rfl, a, c, r, rfl, e, d, hms⟩, by simp [hl]⟩
  ·by_cases hR : ∃ a c r, st = a :: c :: r ∧ (h a = c ∧ Done h H a)
   ·obtain ⟨a, c, r, rfl, e, d⟩ := hR
    obtain ⟨ms, hms, hl⟩ := ih (c :: r) i (upd H a c) (M.right e d) (by simp at hk ⊢; omega) (by simp)
    exact ⟨82 :: ms, .inr (.inl ⟨rfl, a, c, r, rfl, fun hx => hL ⟨a, c, r, rfl, hx⟩, e, d, hms⟩), by simp [hl]⟩
   ·have hno : ∀ a c r, st = a :: c :: r → ¬ (h c = a ∧ Done h H c) ∧ ¬ (h a = c ∧ Done h H a) :=
     fun a c r e => ⟨fun hx => hL ⟨a, c, r, e, hx⟩, fun hx => hR ⟨a, c, r, e, hx⟩⟩
    have hlt : i < n := by
     apply Classical.byContradiction
     intro hn
     have : i = n := by omega
     subst this
     match st, hno, M, hk, hs with
     | [], _, _, hk, hs => have := T.pos; simp at hs; omega
     | [_], _, _, hk, _ => simp at hk; omega
     | a :: c :: r, hno, M, _, _ => exact (M.last T B).elim (hno a c r rfl).1 (hno a c r rfl).2
    obtain ⟨ms, hms, hl⟩ := ih ((i + 1) :: st) (i + 1) H (M.push hlt (fun a c r e hx => hx.elim (hno a c r e).1 (hno a c r e).2)) (by simp; omega) (by simp)
    exact ⟨83 :: ms, .inr (.inr ⟨rfl, hlt, hno, hms⟩), by simp [hl]⟩

theorem told_start {n : Nat} {h : Int → Int} (T : Tr n h) (B : Bet h) : ∃ ms, Told n h ms [] 0 (fun _ => 0) ∧ ms.length = 2 * n - 1 := by
 have hp := T.pos
 exact told_from T B (2 * n - 1) [] 0 _ (MInv.start n h) (by simp; omega) (.inl rfl)
end Hd
