/-
  No cell of these rows narrows 'for every input' (looked for: loops, veiled, ifaces, maps, wideKeys, modest, calm, conditions, laid).
  DERIVED. THE GIVEN ROWS OF THIS SEAT. 12 by the template 'for every input the law returns true; each argument reads behind the call as it read before'; 0 by the template 'total and deterministic' (their statements: YtkicbdbplfdfgaaTotals.lean).
  GIVEN WITH THE SEED: the statements are not yours to turn. If you find one false, say at which input.
  Laid BY PROGRAM, IN A SANDBOX (cutbox-rows.mjs): the forced cells as the released guide's own fill.sh prints them over the translation 3dff3ba1faf603a0… (all of the seat's roots in one cut). By AI agents, Wed Nov 11 2026. No macro, syntax, notation, axiom, sorry.
-/
import Derived.Test.YtkicbdbplfdfgaaChecked
import GoSem.Claim
import GoSem.ClaimJoined
import GoSem.ClaimMapViews
import Derived.JoinedTies
import Derived.KernelRfl
namespace Go.Proofs.Ytkicbdbplfdfgaa
/- THE CELL 'sum', in the pinned program and in every row, IS THE sha256 OF THE DUMP (.gsa) THAT YtkicbdbplfdfgaaProg.lean LOADS. Nothing in Lean hashes anything: it is a label: what it is worth is what the hold of that sum in a sandbox is worth. -/
noncomputable def Try.pinned : Pinned := { name := "ytkicbdbplfdfgaa", sum := "3dff3ba1faf603a0ccd4258a86344af22d01e5aecd3c2fd221aaa6fbc6af1241", checked := Try.checked }
namespace Rows
def none {H : Type} : Left H := { results := [], args := [] }

/-- 'laws.FnCoveredOk': WHATEVER THE INPUT: true; the input reads as it did. -/
def fnCoveredOkSpec : ChangeSpec := { name := "fnCoveredOk", fn := fun _ => fun
  | [d] => { results := [.lit (.bool true)], args := [d] }
  | _ => none }
def fnCoveredOkRow : OpenClaim := { program := "ytkicbdbplfdfgaa", sum := "3dff3ba1faf603a0ccd4258a86344af22d01e5aecd3c2fd221aaa6fbc6af1241", func := "loop.example/headtrees/laws.FnCoveredOk", spec := "fnCoveredOk", recurses := true, apart := false }
def FnCoveredOkSaid : Prop := fnCoveredOkRow.holds Try.pinned (OpenSpec.ofChange fnCoveredOkSpec)

/-- ITS FALSE NEIGHBOUR: 'it returns false'. Refute it at one input. -/
def fnCoveredOkWrong : ChangeSpec := { name := "fnCoveredOk", fn := fun _ => fun
  | [d] => { results := [.lit (.bool false)], args := [d] }
  | _ => none }
def FnCoveredOkWrongFalsely : Prop := fnCoveredOkRow.holds Try.pinned (OpenSpec.ofChange fnCoveredOkWrong)

/-- 'laws.FnExactMovesFor': WHATEVER THE INPUT: true; the input reads as it did. -/
def fnExactMovesForSpec : ChangeSpec := { name := "fnExactMovesFor", fn := fun _ => fun
  | [d] => { results := [.lit (.bool true)], args := [d] }
  | _ => none }
def fnExactMovesForRow : OpenClaim := { program := "ytkicbdbplfdfgaa", sum := "3dff3ba1faf603a0ccd4258a86344af22d01e5aecd3c2fd221aaa6fbc6af1241", func := "loop.example/headtrees/laws.FnExactMovesFor", spec := "fnExactMovesFor", recurses := true, apart := false }
def FnExactMovesForSaid : Prop := fnExactMovesForRow.holds Try.pinned (OpenSpec.ofChange fnExactMovesForSpec)

/-- ITS FALSE NEIGHBOUR: 'it returns false'. Refute it at one input. -/
def fnExactMovesForWrong : ChangeSpec := { name := "fnExactMovesFor", fn := fun _ => fun
  | [d] => { results := [.lit (.bool false)], args := [d] }
  | _ => none }
def FnExactMovesForWrongFalsely : Prop := fnExactMovesForRow.holds Try.pinned (OpenSpec.ofChange fnExactMovesForWrong)

/-- 'laws.FnDependsOf': WHATEVER THE INPUT: true; the input reads as it did. -/
def fnDependsOfSpec : ChangeSpec := { name := "fnDependsOf", fn := fun _ => fun
  | [d] => { results := [.lit (.bool true)], args := [d] }
  | _ => none }
def fnDependsOfRow : OpenClaim := { program := "ytkicbdbplfdfgaa", sum := "3dff3ba1faf603a0ccd4258a86344af22d01e5aecd3c2fd221aaa6fbc6af1241", func := "loop.example/headtrees/laws.FnDependsOf", spec := "fnDependsOf", apart := false }
def FnDependsOfSaid : Prop := fnDependsOfRow.holds Try.pinned (OpenSpec.ofChange fnDependsOfSpec)

/-- ITS FALSE NEIGHBOUR: 'it returns false'. Refute it at one input. -/
def fnDependsOfWrong : ChangeSpec := { name := "fnDependsOf", fn := fun _ => fun
  | [d] => { results := [.lit (.bool false)], args := [d] }
  | _ => none }
def FnDependsOfWrongFalsely : Prop := fnDependsOfRow.holds Try.pinned (OpenSpec.ofChange fnDependsOfWrong)

/-- 'laws.FnYieldOf': WHATEVER THE INPUT: true; the input reads as it did. -/
def fnYieldOfSpec : ChangeSpec := { name := "fnYieldOf", fn := fun _ => fun
  | [d] => { results := [.lit (.bool true)], args := [d] }
  | _ => none }
def fnYieldOfRow : OpenClaim := { program := "ytkicbdbplfdfgaa", sum := "3dff3ba1faf603a0ccd4258a86344af22d01e5aecd3c2fd221aaa6fbc6af1241", func := "loop.example/headtrees/laws.FnYieldOf", spec := "fnYieldOf", recurses := true, apart := false }
def FnYieldOfSaid : Prop := fnYieldOfRow.holds Try.pinned (OpenSpec.ofChange fnYieldOfSpec)

/-- ITS FALSE NEIGHBOUR: 'it returns false'. Refute it at one input. -/
def fnYieldOfWrong : ChangeSpec := { name := "fnYieldOf", fn := fun _ => fun
  | [d] => { results := [.lit (.bool false)], args := [d] }
  | _ => none }
def FnYieldOfWrongFalsely : Prop := fnYieldOfRow.holds Try.pinned (OpenSpec.ofChange fnYieldOfWrong)

/-- 'laws.FnRunStack': WHATEVER THE INPUT: true; the input reads as it did. -/
def fnRunStackSpec : ChangeSpec := { name := "fnRunStack", fn := fun _ => fun
  | [d] => { results := [.lit (.bool true)], args := [d] }
  | _ => none }
def fnRunStackRow : OpenClaim := { program := "ytkicbdbplfdfgaa", sum := "3dff3ba1faf603a0ccd4258a86344af22d01e5aecd3c2fd221aaa6fbc6af1241", func := "loop.example/headtrees/laws.FnRunStack", spec := "fnRunStack", apart := false }
def FnRunStackSaid : Prop := fnRunStackRow.holds Try.pinned (OpenSpec.ofChange fnRunStackSpec)

/-- ITS FALSE NEIGHBOUR: 'it returns false'. Refute it at one input. -/
def fnRunStackWrong : ChangeSpec := { name := "fnRunStack", fn := fun _ => fun
  | [d] => { results := [.lit (.bool false)], args := [d] }
  | _ => none }
def FnRunStackWrongFalsely : Prop := fnRunStackRow.holds Try.pinned (OpenSpec.ofChange fnRunStackWrong)

/-- 'laws.FnBackOf': WHATEVER THE INPUT: true; the input reads as it did. -/
def fnBackOfSpec : ChangeSpec := { name := "fnBackOf", fn := fun _ => fun
  | [d] => { results := [.lit (.bool true)], args := [d] }
  | _ => none }
def fnBackOfRow : OpenClaim := { program := "ytkicbdbplfdfgaa", sum := "3dff3ba1faf603a0ccd4258a86344af22d01e5aecd3c2fd221aaa6fbc6af1241", func := "loop.example/headtrees/laws.FnBackOf", spec := "fnBackOf", recurses := true, apart := false }
def FnBackOfSaid : Prop := fnBackOfRow.holds Try.pinned (OpenSpec.ofChange fnBackOfSpec)

/-- ITS FALSE NEIGHBOUR: 'it returns false'. Refute it at one input. -/
def fnBackOfWrong : ChangeSpec := { name := "fnBackOf", fn := fun _ => fun
  | [d] => { results := [.lit (.bool false)], args := [d] }
  | _ => none }
def FnBackOfWrongFalsely : Prop := fnBackOfRow.holds Try.pinned (OpenSpec.ofChange fnBackOfWrong)

/-- 'laws.FnExactEagerFor': WHATEVER THE INPUT: true; the input reads as it did. -/
def fnExactEagerForSpec : ChangeSpec := { name := "fnExactEagerFor", fn := fun _ => fun
  | [d] => { results := [.lit (.bool true)], args := [d] }
  | _ => none }
def fnExactEagerForRow : OpenClaim := { program := "ytkicbdbplfdfgaa", sum := "3dff3ba1faf603a0ccd4258a86344af22d01e5aecd3c2fd221aaa6fbc6af1241", func := "loop.example/headtrees/laws.FnExactEagerFor", spec := "fnExactEagerFor", unfollowed := true, recurses := true, apart := false }
def FnExactEagerForSaid : Prop := fnExactEagerForRow.holds Try.pinned (OpenSpec.ofChange fnExactEagerForSpec)

/-- ITS FALSE NEIGHBOUR: 'it returns false'. Refute it at one input. -/
def fnExactEagerForWrong : ChangeSpec := { name := "fnExactEagerFor", fn := fun _ => fun
  | [d] => { results := [.lit (.bool false)], args := [d] }
  | _ => none }
def FnExactEagerForWrongFalsely : Prop := fnExactEagerForRow.holds Try.pinned (OpenSpec.ofChange fnExactEagerForWrong)

/-- 'laws.FnExactPlaceOf': WHATEVER THE INPUT: true; the input reads as it did. -/
def fnExactPlaceOfSpec : ChangeSpec := { name := "fnExactPlaceOf", fn := fun _ => fun
  | [d] => { results := [.lit (.bool true)], args := [d] }
  | _ => none }
def fnExactPlaceOfRow : OpenClaim := { program := "ytkicbdbplfdfgaa", sum := "3dff3ba1faf603a0ccd4258a86344af22d01e5aecd3c2fd221aaa6fbc6af1241", func := "loop.example/headtrees/laws.FnExactPlaceOf", spec := "fnExactPlaceOf", unfollowed := true, recurses := true, apart := false }
def FnExactPlaceOfSaid : Prop := fnExactPlaceOfRow.holds Try.pinned (OpenSpec.ofChange fnExactPlaceOfSpec)

/-- ITS FALSE NEIGHBOUR: 'it returns false'. Refute it at one input. -/
def fnExactPlaceOfWrong : ChangeSpec := { name := "fnExactPlaceOf", fn := fun _ => fun
  | [d] => { results := [.lit (.bool false)], args := [d] }
  | _ => none }
def FnExactPlaceOfWrongFalsely : Prop := fnExactPlaceOfRow.holds Try.pinned (OpenSpec.ofChange fnExactPlaceOfWrong)

/-- 'laws.FnFlatOk': WHATEVER THE INPUT: true; the input reads as it did. -/
def fnFlatOkSpec : ChangeSpec := { name := "fnFlatOk", fn := fun _ => fun
  | [d] => { results := [.lit (.bool true)], args := [d] }
  | _ => none }
def fnFlatOkRow : OpenClaim := { program := "ytkicbdbplfdfgaa", sum := "3dff3ba1faf603a0ccd4258a86344af22d01e5aecd3c2fd221aaa6fbc6af1241", func := "loop.example/headtrees/laws.FnFlatOk", spec := "fnFlatOk", recurses := true, apart := false }
def FnFlatOkSaid : Prop := fnFlatOkRow.holds Try.pinned (OpenSpec.ofChange fnFlatOkSpec)

/-- ITS FALSE NEIGHBOUR: 'it returns false'. Refute it at one input. -/
def fnFlatOkWrong : ChangeSpec := { name := "fnFlatOk", fn := fun _ => fun
  | [d] => { results := [.lit (.bool false)], args := [d] }
  | _ => none }
def FnFlatOkWrongFalsely : Prop := fnFlatOkRow.holds Try.pinned (OpenSpec.ofChange fnFlatOkWrong)

/-- 'laws.FnCrossingsOf': WHATEVER THE INPUT: true; the input reads as it did. -/
def fnCrossingsOfSpec : ChangeSpec := { name := "fnCrossingsOf", fn := fun _ => fun
  | [d] => { results := [.lit (.bool true)], args := [d] }
  | _ => none }
def fnCrossingsOfRow : OpenClaim := { program := "ytkicbdbplfdfgaa", sum := "3dff3ba1faf603a0ccd4258a86344af22d01e5aecd3c2fd221aaa6fbc6af1241", func := "loop.example/headtrees/laws.FnCrossingsOf", spec := "fnCrossingsOf", recurses := true, apart := false }
def FnCrossingsOfSaid : Prop := fnCrossingsOfRow.holds Try.pinned (OpenSpec.ofChange fnCrossingsOfSpec)

/-- ITS FALSE NEIGHBOUR: 'it returns false'. Refute it at one input. -/
def fnCrossingsOfWrong : ChangeSpec := { name := "fnCrossingsOf", fn := fun _ => fun
  | [d] => { results := [.lit (.bool false)], args := [d] }
  | _ => none }
def FnCrossingsOfWrongFalsely : Prop := fnCrossingsOfRow.holds Try.pinned (OpenSpec.ofChange fnCrossingsOfWrong)

/-- 'laws.FnFlatAt': WHATEVER THE INPUT: true; the input reads as it did. -/
def fnFlatAtSpec : ChangeSpec := { name := "fnFlatAt", fn := fun _ => fun
  | [d] => { results := [.lit (.bool true)], args := [d] }
  | _ => none }
def fnFlatAtRow : OpenClaim := { program := "ytkicbdbplfdfgaa", sum := "3dff3ba1faf603a0ccd4258a86344af22d01e5aecd3c2fd221aaa6fbc6af1241", func := "loop.example/headtrees/laws.FnFlatAt", spec := "fnFlatAt", unfollowed := true, recurses := true, apart := false }
def FnFlatAtSaid : Prop := fnFlatAtRow.holds Try.pinned (OpenSpec.ofChange fnFlatAtSpec)

/-- ITS FALSE NEIGHBOUR: 'it returns false'. Refute it at one input. -/
def fnFlatAtWrong : ChangeSpec := { name := "fnFlatAt", fn := fun _ => fun
  | [d] => { results := [.lit (.bool false)], args := [d] }
  | _ => none }
def FnFlatAtWrongFalsely : Prop := fnFlatAtRow.holds Try.pinned (OpenSpec.ofChange fnFlatAtWrong)

/-- 'laws.FnRowsOf': WHATEVER THE INPUT: true; the input reads as it did. -/
def fnRowsOfSpec : ChangeSpec := { name := "fnRowsOf", fn := fun _ => fun
  | [d] => { results := [.lit (.bool true)], args := [d] }
  | _ => none }
def fnRowsOfRow : OpenClaim := { program := "ytkicbdbplfdfgaa", sum := "3dff3ba1faf603a0ccd4258a86344af22d01e5aecd3c2fd221aaa6fbc6af1241", func := "loop.example/headtrees/laws.FnRowsOf", spec := "fnRowsOf", recurses := true, apart := false }
def FnRowsOfSaid : Prop := fnRowsOfRow.holds Try.pinned (OpenSpec.ofChange fnRowsOfSpec)

/-- ITS FALSE NEIGHBOUR: 'it returns false'. Refute it at one input. -/
def fnRowsOfWrong : ChangeSpec := { name := "fnRowsOf", fn := fun _ => fun
  | [d] => { results := [.lit (.bool false)], args := [d] }
  | _ => none }
def FnRowsOfWrongFalsely : Prop := fnRowsOfRow.holds Try.pinned (OpenSpec.ofChange fnRowsOfWrong)

/- THE SECOND FORM. 'bulk': how many values and letters a reading holds, each counted each time it is reached (what is shared counts as often as it is met; a slice's spare places count too). A statement '..UptoSaid' is the law's where the arguments, and the package variables that the reading takes, are together of bulk at most 1048576: NARROWER than '..Said'. Prove '..Said' where nothing that the law and all that it calls make is longer than what came in: it says more and counts as full. Else prove '..UptoSaid'. A law counts once. -/
mutual
def uptoBulk {H : Type} : DataW H → Nat
  | .lit (.string bytes) => bytes.length + 1
  | .lit _ => 1
  | .nil => 1
  | .ptr d => uptoBulk d + 1
  | .slice elems spare => uptoBulkAll elems + uptoBulkAll spare + 1
  | .agg parts => uptoBulkAll parts + 1
  | .iface _ d => uptoBulk d + 1
  | .map entries => uptoBulkEntries entries + 1
  | .held _ => 1
def uptoBulkAll {H : Type} : List (DataW H) → Nat
  | [] => 0
  | d :: r => uptoBulk d + uptoBulkAll r
def uptoBulkEntries {H : Type} : List (Lit × DataW H) → Nat
  | [] => 0
  | x :: r => uptoBulkEntry x + uptoBulkEntries r
def uptoBulkEntry {H : Type} : Lit × DataW H → Nat
  | (.string bytes, d) => bytes.length + uptoBulk d + 1
  | (_, d) => uptoBulk d + 1
 end
def uptoSmall : (H : Type) → List (DataW H) → Bool := fun _ ds => decide (uptoBulkAll ds ≤ 1048576)
def OpenSpec.upto (s : _root_.Go.ChangeSpec) : _root_.Go.OpenSpec := { _root_.Go.OpenSpec.ofChange s with cond := some uptoSmall }

/-- 'laws.FnCoveredOk', WHERE WHAT IT READS IS OF BULK AT MOST 1048576: true; the input reads as it did. -/
def fnCoveredOkUptoRow : OpenClaim := { program := "ytkicbdbplfdfgaa", sum := "3dff3ba1faf603a0ccd4258a86344af22d01e5aecd3c2fd221aaa6fbc6af1241", func := "loop.example/headtrees/laws.FnCoveredOk", spec := "fnCoveredOk", recurses := true, apart := false, narrowed := true }
def FnCoveredOkUptoSaid : Prop := fnCoveredOkUptoRow.holds Try.pinned (OpenSpec.upto fnCoveredOkSpec)

/-- 'laws.FnExactMovesFor', WHERE WHAT IT READS IS OF BULK AT MOST 1048576: true; the input reads as it did. -/
def fnExactMovesForUptoRow : OpenClaim := { program := "ytkicbdbplfdfgaa", sum := "3dff3ba1faf603a0ccd4258a86344af22d01e5aecd3c2fd221aaa6fbc6af1241", func := "loop.example/headtrees/laws.FnExactMovesFor", spec := "fnExactMovesFor", recurses := true, apart := false, narrowed := true }
def FnExactMovesForUptoSaid : Prop := fnExactMovesForUptoRow.holds Try.pinned (OpenSpec.upto fnExactMovesForSpec)

/-- 'laws.FnDependsOf', WHERE WHAT IT READS IS OF BULK AT MOST 1048576: true; the input reads as it did. -/
def fnDependsOfUptoRow : OpenClaim := { program := "ytkicbdbplfdfgaa", sum := "3dff3ba1faf603a0ccd4258a86344af22d01e5aecd3c2fd221aaa6fbc6af1241", func := "loop.example/headtrees/laws.FnDependsOf", spec := "fnDependsOf", apart := false, narrowed := true }
def FnDependsOfUptoSaid : Prop := fnDependsOfUptoRow.holds Try.pinned (OpenSpec.upto fnDependsOfSpec)

/-- 'laws.FnYieldOf', WHERE WHAT IT READS IS OF BULK AT MOST 1048576: true; the input reads as it did. -/
def fnYieldOfUptoRow : OpenClaim := { program := "ytkicbdbplfdfgaa", sum := "3dff3ba1faf603a0ccd4258a86344af22d01e5aecd3c2fd221aaa6fbc6af1241", func := "loop.example/headtrees/laws.FnYieldOf", spec := "fnYieldOf", recurses := true, apart := false, narrowed := true }
def FnYieldOfUptoSaid : Prop := fnYieldOfUptoRow.holds Try.pinned (OpenSpec.upto fnYieldOfSpec)

/-- 'laws.FnRunStack', WHERE WHAT IT READS IS OF BULK AT MOST 1048576: true; the input reads as it did. -/
def fnRunStackUptoRow : OpenClaim := { program := "ytkicbdbplfdfgaa", sum := "3dff3ba1faf603a0ccd4258a86344af22d01e5aecd3c2fd221aaa6fbc6af1241", func := "loop.example/headtrees/laws.FnRunStack", spec := "fnRunStack", apart := false, narrowed := true }
def FnRunStackUptoSaid : Prop := fnRunStackUptoRow.holds Try.pinned (OpenSpec.upto fnRunStackSpec)

/-- 'laws.FnBackOf', WHERE WHAT IT READS IS OF BULK AT MOST 1048576: true; the input reads as it did. -/
def fnBackOfUptoRow : OpenClaim := { program := "ytkicbdbplfdfgaa", sum := "3dff3ba1faf603a0ccd4258a86344af22d01e5aecd3c2fd221aaa6fbc6af1241", func := "loop.example/headtrees/laws.FnBackOf", spec := "fnBackOf", recurses := true, apart := false, narrowed := true }
def FnBackOfUptoSaid : Prop := fnBackOfUptoRow.holds Try.pinned (OpenSpec.upto fnBackOfSpec)

/-- 'laws.FnExactEagerFor', WHERE WHAT IT READS IS OF BULK AT MOST 1048576: true; the input reads as it did. -/
def fnExactEagerForUptoRow : OpenClaim := { program := "ytkicbdbplfdfgaa", sum := "3dff3ba1faf603a0ccd4258a86344af22d01e5aecd3c2fd221aaa6fbc6af1241", func := "loop.example/headtrees/laws.FnExactEagerFor", spec := "fnExactEagerFor", unfollowed := true, recurses := true, apart := false, narrowed := true }
def FnExactEagerForUptoSaid : Prop := fnExactEagerForUptoRow.holds Try.pinned (OpenSpec.upto fnExactEagerForSpec)

/-- 'laws.FnExactPlaceOf', WHERE WHAT IT READS IS OF BULK AT MOST 1048576: true; the input reads as it did. -/
def fnExactPlaceOfUptoRow : OpenClaim := { program := "ytkicbdbplfdfgaa", sum := "3dff3ba1faf603a0ccd4258a86344af22d01e5aecd3c2fd221aaa6fbc6af1241", func := "loop.example/headtrees/laws.FnExactPlaceOf", spec := "fnExactPlaceOf", unfollowed := true, recurses := true, apart := false, narrowed := true }
def FnExactPlaceOfUptoSaid : Prop := fnExactPlaceOfUptoRow.holds Try.pinned (OpenSpec.upto fnExactPlaceOfSpec)

/-- 'laws.FnFlatOk', WHERE WHAT IT READS IS OF BULK AT MOST 1048576: true; the input reads as it did. -/
def fnFlatOkUptoRow : OpenClaim := { program := "ytkicbdbplfdfgaa", sum := "3dff3ba1faf603a0ccd4258a86344af22d01e5aecd3c2fd221aaa6fbc6af1241", func := "loop.example/headtrees/laws.FnFlatOk", spec := "fnFlatOk", recurses := true, apart := false, narrowed := true }
def FnFlatOkUptoSaid : Prop := fnFlatOkUptoRow.holds Try.pinned (OpenSpec.upto fnFlatOkSpec)

/-- 'laws.FnCrossingsOf', WHERE WHAT IT READS IS OF BULK AT MOST 1048576: true; the input reads as it did. -/
def fnCrossingsOfUptoRow : OpenClaim := { program := "ytkicbdbplfdfgaa", sum := "3dff3ba1faf603a0ccd4258a86344af22d01e5aecd3c2fd221aaa6fbc6af1241", func := "loop.example/headtrees/laws.FnCrossingsOf", spec := "fnCrossingsOf", recurses := true, apart := false, narrowed := true }
def FnCrossingsOfUptoSaid : Prop := fnCrossingsOfUptoRow.holds Try.pinned (OpenSpec.upto fnCrossingsOfSpec)

/-- 'laws.FnFlatAt', WHERE WHAT IT READS IS OF BULK AT MOST 1048576: true; the input reads as it did. -/
def fnFlatAtUptoRow : OpenClaim := { program := "ytkicbdbplfdfgaa", sum := "3dff3ba1faf603a0ccd4258a86344af22d01e5aecd3c2fd221aaa6fbc6af1241", func := "loop.example/headtrees/laws.FnFlatAt", spec := "fnFlatAt", unfollowed := true, recurses := true, apart := false, narrowed := true }
def FnFlatAtUptoSaid : Prop := fnFlatAtUptoRow.holds Try.pinned (OpenSpec.upto fnFlatAtSpec)

/-- 'laws.FnRowsOf', WHERE WHAT IT READS IS OF BULK AT MOST 1048576: true; the input reads as it did. -/
def fnRowsOfUptoRow : OpenClaim := { program := "ytkicbdbplfdfgaa", sum := "3dff3ba1faf603a0ccd4258a86344af22d01e5aecd3c2fd221aaa6fbc6af1241", func := "loop.example/headtrees/laws.FnRowsOf", spec := "fnRowsOf", recurses := true, apart := false, narrowed := true }
def FnRowsOfUptoSaid : Prop := fnRowsOfUptoRow.holds Try.pinned (OpenSpec.upto fnRowsOfSpec)

end Rows
end Go.Proofs.Ytkicbdbplfdfgaa
