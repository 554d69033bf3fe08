/- For every drawn tree and word the program's DependsOf answers as the reference's does; the yields of all words that depend on a word are together its yield without it; on 0 just the root depends. -/
import Derived.Test.YtkicbdbplfdfgaaBFnDependsOf
namespace Go.Proofs.Ytkicbdbplfdfgaa.Pure
open Go.Proofs.Ytkicbdbplfdfgaa.PFnDependsOf
open Go.RowKit Go.Proofs.YtkicbdbplfdfgaaW.PrintWords Go.Proofs.YtkicbdbplfdfgaaW.PrintLast Go.Proofs.YtkicbdbplfdfgaaW.PrintMore
set_option linter.unusedVariables false
theorem kid_zero {h : List Int} (t : Hd.T h) : Hd.kidL h 0 = [Hd.rootI h] := by
 obtain ⟨hr, hz, uq⟩ := Hd.rootI_spec t
 have e : Hd.kidL h 0 = Hd.sel (fun a => decide (Hd.hd h a = 0)) h.length := by rw [Hd.kidL, if_pos t]
 have len : (Hd.kidL h 0).length = 1 := by
  rw [e, Hd.sel_length]
  exact Hd.cnt_uniq.2 ⟨Hd.rootI h, hr, by simp [hz], fun a h1 h2 h3 => uq a h1 h2 (by simpa using h3)⟩
 match hk : Hd.kidL h 0, len with
 | [x], _ =>
  have hx : x ∈ Hd.kidL h 0 := by rw [hk]; simp
  rw [e, Hd.mem_sel] at hx
  rw [uq x hx.1 hx.2.1 (by simpa using hx.2.2)]
/-- How many words are in the yield of one of the first so many. -/
noncomputable def partsN (h : List Int) (ks : List Int) : Nat := Hd.cnt (fun x => ks.any fun c => Hd.undB h x c) h.length
theorem kid_apart {h : List Int} (t : Hd.T h) {w c d x : Int} (hc : Hd.hd h c = w) (hd : Hd.hd h d = w) (wc : 1 ≤ c ∧ c ≤ (h.length : Int)) (wd : 1 ≤ d ∧ d ≤ (h.length : Int)) (hw : w ≠ 0) (u : Hd.Und (Hd.hd h) x c) (v : Hd.Und (Hd.hd h) x d) : c = d := by
 have one : ∀ {c d : Int}, Hd.hd h c = w → Hd.hd h d = w → (1 ≤ d ∧ d ≤ (h.length : Int)) → Hd.Und (Hd.hd h) c d → c = d := by
  intro c d hc hd wd u
  rcases u.cases with e | u
  ·exact e
  ·rw [hc] at u
   have v : Hd.Und (Hd.hd h) d w := by have := Hd.Und.head (Hd.hd h) d; rwa [hd] at this
   have e := t.2.anti wd v u
   exact absurd (e ▸ hd) (t.2.not_own wd)
 exact (u.linear v).elim (one hc hd wd) (fun x => (one hd hc wc x).symm)
theorem FnDependsOf_l1 {h : List Int} (t : Hd.T h) {w c : Int} (hw : 1 ≤ w ∧ w ≤ (h.length : Int)) (hc : Hd.hd h c = w) (wc : 1 ≤ c ∧ c ≤ (h.length : Int)) {ks : List Int} {sum i : Int} (hs : 0 ≤ sum ∧ sum ≤ 100) (hi : 0 ≤ i ∧ i ≤ 100) {r : Bool}
  (next : Ev (fun k => laws_FnDependsOf.l0 k h w ks (Hd.yld h w) (sum + (Hd.yld h c).length) (i + 1)) r) : ∀ j : Int, j ≤ (Hd.yld h c).length → 0 ≤ j → Ev (fun k => laws_FnDependsOf.l1 k h w ks (Hd.yld h w) sum i (Hd.yld h c) j) r := by
 have h8 := t.1
 have l1 : (Hd.yld h c).length ≤ h.length := Hd.sel_le _ _
 have l2 : (Hd.yld h w).length ≤ h.length := Hd.sel_le _ _
 refine Hd.down ?_
 intro j hj ih h0
 refine laws_FnDependsOf.l1.ev ?_
 by_cases hlt : j < (Hd.yld h c).length
 ·rw [wid (x := j + 1) (by omega) (by omega)]
  have hm : rd (Hd.yld h c) j ∈ Hd.yld h c := by
   unfold rd
   rw [List.getD_eq_getElem?_getD, List.getElem?_eq_getElem (by omega)]
   exact List.getElem_mem _
  have m := Hd.mem_sel.1 hm
  have u : Hd.Und (Hd.hd h) (rd (Hd.yld h c) j) c := Hd.undB_true.1 m.2.2
  have cw : Hd.Und (Hd.hd h) c w := by have := Hd.Und.head (Hd.hd h) c; rwa [hc] at this
  refine Ev.pos hlt (Ev.pos h0 (Ev.bind (laws_hasInt_ev (by omega) _) (Ev.pos ?_ (Ev.neg ?_ (ih hlt (by omega))))))
  ·rw [decide_eq_true_eq]
   exact Hd.mem_sel.2 ⟨m.1, m.2.1, Hd.undB_true.2 (u.trans cw)⟩
  ·intro e
   rw [e] at u
   have e2 := t.2.anti hw u cw
   exact t.2.not_own wc (e2 ▸ hc)
 ·rw [wid (x := sum + ((Hd.yld h c).length : Int)) (by omega) (by omega), wid (x := i + 1) (by omega) (by omega)]
  exact Ev.neg hlt next
theorem FnDependsOf_l0 {h : List Int} (t : Hd.T h) {w : Int} (hw : 1 ≤ w ∧ w ≤ (h.length : Int)) : ∀ i : Int, i ≤ (Hd.kidL h w).length → 0 ≤ i → Ev (fun k => laws_FnDependsOf.l0 k h w (Hd.kidL h w) (Hd.yld h w) (1 + (partsN h ((Hd.kidL h w).take i.toNat) : Int)) i) true := by
 have h8 := t.1
 have kl := Hd.kidL_len h w
 have ke : Hd.kidL h w = Hd.sel (fun a => decide (Hd.hd h a = w)) h.length := by rw [Hd.kidL, if_pos t]
 refine Hd.down ?_
 intro i hi ih h0
 refine laws_FnDependsOf.l0.ev ?_
 have pl : partsN h ((Hd.kidL h w).take i.toNat) ≤ h.length := Hd.cnt_le _ _
 by_cases hlt : i < (Hd.kidL h w).length
 ·have next := ih hlt (by omega)
  have hi' : i.toNat < (Hd.kidL h w).length := by omega
  have g : (Hd.kidL h w)[i.toNat]'hi' = rd (Hd.kidL h w) i := by simp [rd, List.getD_eq_getElem?_getD, List.getElem?_eq_getElem hi']
  have hm : rd (Hd.kidL h w) i ∈ Hd.kidL h w := by rw [← g]; exact List.getElem_mem hi'
  have km : ∀ x, x ∈ Hd.kidL h w → 1 ≤ x ∧ x ≤ (h.length : Int) ∧ Hd.hd h x = w := fun x hx => by
   rw [ke, Hd.mem_sel] at hx
   exact ⟨hx.1, hx.2.1, by simpa using hx.2.2⟩
  have m := km _ hm
  have hc : Hd.hd h (rd (Hd.kidL h w) i) = w := m.2.2
  have wc : 1 ≤ rd (Hd.kidL h w) i ∧ rd (Hd.kidL h w) i ≤ (h.length : Int) := ⟨m.1, m.2.1⟩
  rw [show (i + 1).toNat = i.toNat + 1 from by omega, List.take_succ_eq_append_getElem hi', g] at next
  have add : partsN h ((Hd.kidL h w).take i.toNat ++ [rd (Hd.kidL h w) i]) = partsN h ((Hd.kidL h w).take i.toNat) + (Hd.yld h (rd (Hd.kidL h w) i)).length := by
   rw [show (Hd.yld h (rd (Hd.kidL h w) i)).length = Hd.cnt (fun x => Hd.undB h x (rd (Hd.kidL h w) i)) h.length from Hd.sel_length _ _]
   unfold partsN
   rw [← Hd.cnt_add]
   ·exact Hd.cnt_congr fun x _ _ => by simp
   ·rintro x _ _ ⟨u, v⟩
    rw [List.any_eq_true] at u
    obtain ⟨d, hd, u⟩ := u
    obtain ⟨j, hj, ej⟩ := List.getElem_of_mem hd
    rw [List.getElem_take] at ej
    rw [List.length_take] at hj
    have hdm : d ∈ Hd.kidL h w := List.mem_of_mem_take hd
    rw [ke, Hd.mem_sel] at hdm
    have e := kid_apart t (c := d) (d := rd (Hd.kidL h w) i) (by simpa using hdm.2.2) hc ⟨hdm.1, hdm.2.1⟩ wc (by omega) (Hd.undB_true.1 u) (Hd.undB_true.1 v)
    have asc : ∀ (b a : Nat), a < b → b < (Hd.kidL h w).length → (Hd.kidL h w).getD a 0 < (Hd.kidL h w).getD b 0 := by
     intro b
     induction b with
     | zero => intro a ha; omega
     | succ b ihb =>
      intro a ha hb
      have s := sel_asc (fun a => decide (Hd.hd h a = w)) h.length b (by rw [← ke]; exact hb)
      rw [← ke] at s
      by_cases e : a = b
      ·rw [e]; exact s
      ·have := ihb a (by omega) (by omega)
       omega
    have lt := asc i.toNat j (by omega) (by omega)
    rw [List.getD_eq_getElem?_getD, List.getD_eq_getElem?_getD, List.getElem?_eq_getElem (by omega), List.getElem?_eq_getElem hi', Option.getD_some, Option.getD_some, ej, g, e] at lt
    omega
  rw [add] at next
  have ye : Hd.yldL h (rd (Hd.kidL h w) i) = Hd.yld h (rd (Hd.kidL h w) i) := by rw [Hd.yldL, if_pos ⟨t, wc⟩]
  have e := impl_YieldOf_ev h (rd (Hd.kidL h w) i)
  rw [ye] at e
  refine Ev.pos hlt (Ev.pos h0 (Ev.bind e ?_))
  refine FnDependsOf_l1 t hw hc wc (by omega) (by omega) ?_ 0 (by omega) (by omega)
  rw [show (1 : Int) + (partsN h ((Hd.kidL h w).take i.toNat) : Int) + ((Hd.yld h (rd (Hd.kidL h w) i)).length : Int) = 1 + ((partsN h ((Hd.kidL h w).take i.toNat) + (Hd.yld h (rd (Hd.kidL h w) i)).length : Nat) : Int) from by omega]
  exact next
 ·have all : (Hd.kidL h w).take i.toNat = Hd.kidL h w := List.take_of_length_le (by omega)
  rw [all]
  have asc := sel_asc (fun a => decide (Hd.hd h a = w)) h.length
  rw [← ke] at asc
  refine Ev.neg hlt (Ev.bind (laws_ascend_ev (by omega) asc) (Ev.pos rfl (Ev.ret ?_)))
  have one := Hd.cnt_one (p := fun x => (Hd.kidL h w).any fun c => Hd.undB h x c) (q := fun x => Hd.undB h x w) (b := w) (m := h.length) hw.1 hw.2
   (by
    cases hb : (Hd.kidL h w).any fun c => Hd.undB h w c with
    | false => rfl
    | true =>
     rw [List.any_eq_true] at hb
     obtain ⟨c, hc, u⟩ := hb
     rw [ke, Hd.mem_sel] at hc
     have hcw : Hd.hd h c = w := by simpa using hc.2.2
     have v : Hd.Und (Hd.hd h) c w := by have := Hd.Und.head (Hd.hd h) c; rwa [hcw] at this
     have e := t.2.anti hw (Hd.undB_true.1 u) v
     exact absurd (e ▸ hcw) (t.2.not_own ⟨hc.1, hc.2.1⟩))
   (Hd.undB_true.2 (Hd.Und.refl _ _))
   (fun x hx => bool_eq (by
    rw [List.any_eq_true, Hd.undB_true, Hd.und_child t.2 hw]
    constructor
    ·rintro ⟨c, hc, u⟩
     rw [ke, Hd.mem_sel] at hc
     exact .inr ⟨c, ⟨hc.1, hc.2.1⟩, by simpa using hc.2.2, Hd.undB_true.1 u⟩
    ·rintro (e | ⟨c, hc, e, u⟩)
     ·exact absurd e hx
     ·exact ⟨c, by rw [ke, Hd.mem_sel]; exact ⟨hc.1, hc.2, by simpa using e⟩, Hd.undB_true.2 u⟩))
  have yl : (Hd.yld h w).length = Hd.cnt (fun x => Hd.undB h x w) h.length := Hd.sel_length _ _
  rw [yl, one, beq_iff_eq]
  unfold partsN
  omega
theorem FnDependsOf : laws_FnDependsOf.Pure := by
 intro l _ _ hw
 refine Ev.rounds (g := fun k => laws_FnDependsOf.f k l) ?_
 unfold laws_FnDependsOf.f
 by_cases hbig : (l.length : Int) > 1048576
 ·exact Ev.pos hbig (Ev.now _)
 refine Ev.neg hbig ?_
 obtain ⟨h, w, e, hl, hb⟩ := spec_DrawDependsOf_ev hw
 have kl := Hd.kidL_len h w
 refine Ev.bind e (Ev.bind (impl_DependsOf_ev h w) (Ev.bind (spec_DependsOf_ev h w) (Ev.bind (laws_sameInts_ev (by omega)) (Ev.pos (by simp) (Ev.bind (spec_TreeOk_ev h) ?_)))))
 have none : Hd.kidL h w = [] → Ev (fun k => laws_FnDependsOf.j0 k h w (Hd.kidL h w) true) true := fun hk => by
  rw [hk]
  exact laws_FnDependsOf.j0.ev (Ev.pos rfl (Ev.pos rfl (Ev.bind laws_alive_ev (Ev.now _))))
 by_cases t : Hd.T h
 ·have out : ¬ (0 ≤ w ∧ w ≤ h.length) → Hd.kidL h w = [] := fun hn => by
   rw [Hd.kidL, if_pos t]
   apply List.eq_nil_of_length_eq_zero
   rw [Hd.sel_length]
   exact Hd.cnt_none fun a _ _ => by
    have := t.2.lo a
    have := t.2.hi a
    simp; omega
  refine Ev.pos (Hd.treeB_yes t) ?_
  by_cases w0 : w < 0
  ·exact Ev.pos w0 (none (out (by omega)))
  refine Ev.neg w0 ?_
  by_cases w1 : w > (h.length : Int)
  ·rw [decide_eq_true w1]
   exact none (out (by omega))
  rw [decide_eq_false w1]
  refine laws_FnDependsOf.j0.ev (Ev.neg (by simp) ?_)
  by_cases wz : w = 0
  ·subst wz
   rw [kid_zero t]
   exact Ev.pos rfl (Ev.pos rfl (Ev.pos (by simp) (Ev.bind (impl_RootOf_ev h) (Ev.ret (by simp [rd])))))
  ·have ye : Hd.yldL h w = Hd.yld h w := by rw [Hd.yldL, if_pos ⟨t, by omega, by omega⟩]
   have e := impl_YieldOf_ev h w
   rw [ye] at e
   have := FnDependsOf_l0 t (w := w) (by omega) 0 (by omega) (by omega)
   have z : partsN h ((Hd.kidL h w).take (0 : Int).toNat) = 0 := by
    rw [show (0 : Int).toNat = 0 from rfl, List.take_zero]
    exact Hd.cnt_none fun a _ _ => rfl
   rw [z] at this
   exact Ev.neg wz (Ev.bind e this)
 ·refine Ev.neg (by rw [Hd.treeB_no t]; simp) (none ?_)
  rw [Hd.kidL, if_neg t]

end Go.Proofs.Ytkicbdbplfdfgaa.Pure
