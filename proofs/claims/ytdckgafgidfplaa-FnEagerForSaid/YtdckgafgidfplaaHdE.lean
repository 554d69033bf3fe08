/- What the machine with a stack tells is a flat tree; the moves of the rule as bytes: plain facts. -/
import Derived.Test.YtdckgafgidfplaaHdD
namespace Hd
/-- What a run keeps. -/
theorem run_inv {n : Nat} : ∀ (ms : List Int) (s s' : St) (st : List Int) (i : Int) (H : Int → Int), s.OK n → Fits s st i H → Inv n st i H → runM ms s = some s' →
  ∃ st' i' H', s'.OK n ∧ Fits s' st' i' H' ∧ Inv n st' i' H' ∧ (ms.length : Int) = 2 * (i' - i) - ((st'.length : Int) - st.length)
 | [], s, s', st, i, H, o, f, I, h => by
  obtain rfl := Option.some.inj h
  exact ⟨st, i, H, o, f, I, by simp⟩
 | m :: ms, s, s', st, i, H, o, f, I, h => by
  simp only [runM] at h
  cases e : moveS m s with
  | none => rw [e] at h; cases h
  | some t =>
   rw [e, Option.bind_some] at h
   have o' := o.move e
   have step : ∃ st1 i1 H1, Fits t st1 i1 H1 ∧ Inv n st1 i1 H1 ∧ (1 : Int) = 2 * (i1 - i) - ((st1.length : Int) - st.length) := by
    unfold moveS at e
    by_cases c : m = 83
    ·rw [if_pos c] at e
     have hn := (pushS_eq e).1
     have := o.nx1; have := o.len; have := f.nx
     exact ⟨_, _, _, f.push e, I.push (by omega), by simp; omega⟩
    rw [if_neg c] at e
    by_cases c2 : s.ws.length < 2
    ·rw [if_pos c2] at e; cases e
    rw [if_neg c2] at e
    match st, f, I with
    | [], f, I => exact absurd (by rw [f.ws]; simp) c2
    | [_], f, I => exact absurd (by rw [f.ws]; simp) c2
    | a :: c' :: r, f, I =>
     by_cases c3 : m = 76
     ·rw [if_pos c3] at e
      obtain rfl := Option.some.inj e
      exact ⟨_, _, _, f.left o, I.attach (.inl ⟨rfl, rfl⟩), by simp; omega⟩
     rw [if_neg c3] at e
     by_cases c4 : m = 82
     ·rw [if_pos c4] at e
      obtain rfl := Option.some.inj e
      exact ⟨_, _, _, f.right o, I.attach (.inr ⟨rfl, rfl⟩), by simp; omega⟩
     rw [if_neg c4] at e; cases e
   obtain ⟨st1, i1, H1, f1, I1, h1⟩ := step
   obtain ⟨st2, i2, H2, o2, f2, I2, h2⟩ := run_inv ms t s' st1 i1 H1 o' f1 I1 h
   exact ⟨st2, i2, H2, o2, f2, I2, by rw [List.length_cons]; omega⟩
theorem ran_flat {n : Int} {ms : List Int} {s : St} (h : ranS n ms = some s) : flatB s.hs = true ∧ (ms.length : Int) = 2 * n - 1 ∧ (s.hs.length : Int) = n := by
 obtain ⟨n1, n8, hr, hnx, hw, o, _⟩ := ranS_some h
 obtain ⟨st, i, H, o', f, I, hl⟩ := run_inv ms _ s [] 0 _ (St.OK.start (n := n.toNat) (by omega)) (Fits.start _) (Inv.start _) hr
 have e1 := f.nx
 have e2 : s.ws.length = st.length := by rw [f.ws]; simp
 have hlen := o'.len
 match st, f, I, hl, e2 with
 | [], f, I, hl, e2 => exact absurd (hw.symm.trans e2) (by simp)
 | _ :: _ :: _, f, I, hl, e2 => exact absurd (hw.symm.trans e2) (by simp)
 | [r], f, I, hl, e2 =>
  have hi : i = ((n.toNat : Nat) : Int) := by omega
  subst hi
  have hH : hd s.hs = H := funext f.hs
  have T0 := I.tree
  rw [← hH] at T0
  have B := I.bet
  rw [← hH] at B
  refine ⟨?_, by simp only [List.length_cons, List.length_nil] at hl; omega, by omega⟩
  rw [← hlen] at T0
  exact flatB_true.2 ⟨⟨by omega, T0⟩, (row_iff_bet T0).2 B⟩
theorem Told.moves {n : Nat} {h : Int → Int} : ∀ {ms : List Int} {st : List Int} {i : Int} {H : Int → Int}, Told n h ms st i H → ∀ m, m ∈ ms → m = 76 ∨ m = 82 ∨ m = 83
 | [], _, _, _, _, m, hm => by cases hm
 | x :: ms, _, _, _, t, m, hm => by
  rcases t with ⟨rfl, a, c, r, rfl, _, _, t⟩ | ⟨rfl, a, c, r, rfl, _, _, _, t⟩ | ⟨rfl, _, _, t⟩ <;> rcases List.mem_cons.1 hm with rfl | hm
  ·simp
  ·exact t.moves m hm
  ·simp
  ·exact t.moves m hm
  ·simp
  ·exact t.moves m hm
/-- The moves, out of their bytes. -/
theorem bytesM_list : ∀ (ms : List Int), (∀ m, m ∈ ms → 0 ≤ m ∧ m ≤ 255) → (bytesM ms).data.toList.map (fun b => (b.toNat : Int)) = ms
 | [], _ => rfl
 | m :: ms, h => by
  have ih := bytesM_list ms (fun x hx => h x (by simp [hx]))
  have hm := h m (by simp)
  have e : (bytesM (m :: ms)).data.toList = m.toNat.toUInt8 :: (bytesM ms).data.toList := by
   rw [bytesM, ByteArray.data_append]; simp
  rw [e, List.map_cons, ih]
  congr 1
  rw [show (m.toNat.toUInt8).toNat = m.toNat % 256 from rfl]
  omega
end Hd
