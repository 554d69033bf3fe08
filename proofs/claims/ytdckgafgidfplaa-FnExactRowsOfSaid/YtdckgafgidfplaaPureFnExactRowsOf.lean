/- The program's RowsOf answers as the reference's does, for all arguments, leaves its argument as it was, and hands back memory that it shares with no other call (rows of more than 1048576 numbers are let by). -/
import Derived.Test.YtdckgafgidfplaaBFnExactRowsOf
namespace Go.Proofs.Ytdckgafgidfplaa.Pure
open Go.Proofs.Ytdckgafgidfplaa.QFnExactRowsOf
open Go.RowKit Go.Proofs.YtdckgafgidfplaaW.PrintWords Go.Proofs.YtdckgafgidfplaaW.PrintLast Go.Proofs.YtdckgafgidfplaaW.PrintMore
set_option linter.unusedVariables false
set_option linter.unusedSimpArgs false
-- base Hd8
-- flat
-- uses HdB
theorem FnExactRowsOf : laws_FnExactRowsOf.Pure := by
 intro l0 a1 _ _ _ _
 refine Ev.rounds (g := fun k => laws_FnExactRowsOf.f k l0 a1) ?_
 unfold laws_FnExactRowsOf.f
 by_cases hbig : (l0.length : Int) > 1048576
 ·exact Ev.pos hbig (Ev.now _)
 refine Ev.neg hbig ?_
 have L := laws_toIntS_ev (l := l0) (by omega)
 have E0 := laws_eqIntS_ev (a := l0) (b := l0) (by omega)
 have I := impl_RowsOf_ev l0 a1
 have S := spec_RowsOf_ev l0 a1
 have M := laws_markIntS_ev (l := l0) (c := 1) (by omega) (by omega) (by omega)
 have hs : SmallR (Hd.rowsL l0 a1) := by
  have h1 := Hd.rowsL_len l0 a1
  have h2 := Hd.yldL_len l0 a1
  exact ⟨by omega, fun x hx => by have := Hd.rowsR_two (Hd.yldL l0 a1) x hx; omega⟩
 generalize Hd.rowsL l0 a1 = x at I S hs
 have tb := totL_bd hs.2
 have hs1 := hs.1
 have MS := laws_markIntSS_ev (xs := x) (c := 1) hs.2 (by omega) (by omega)
 have HS := laws_heldIntSS_ev hs
 have ES := laws_eqIntSS_ev hs
 exact Ev.bind L (Ev.bind S (Ev.bind I (Ev.bind ES (Ev.bind E0 (Ev.bind M (Ev.bind MS (Ev.bind HS (Ev.pos ⟨rfl, by simp, by show ¬ ((1 : Int) + l0.length < 0); omega, rfl, by show ¬ ((1 : Int) + totL x < 0); omega⟩ (Ev.now _)))))))))

end Go.Proofs.Ytdckgafgidfplaa.Pure
