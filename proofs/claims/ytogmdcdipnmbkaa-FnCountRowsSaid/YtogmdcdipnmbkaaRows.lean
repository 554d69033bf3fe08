/-
  No cell of these rows narrows 'for every input' (looked for: loops, veiled, ifaces, maps, wideKeys, modest, calm, conditions, laid).
  DERIVED. THE GIVEN ROWS OF THIS SEAT. 12 by the template 'for every input the law returns true; each argument reads behind the call as it read before'; 0 by the template 'total and deterministic' (their statements: YtogmdcdipnmbkaaTotals.lean).
  GIVEN WITH THE SEED: the statements are not yours to turn. If you find one false, say at which input.
  Laid BY PROGRAM, IN A SANDBOX (cutbox-rows.mjs): the forced cells as the released guide's own fill.sh prints them over the translation fad540a78be17a94… (all of the seat's roots in one cut). By AI agents, Wed Nov 11 2026. No macro, syntax, notation, axiom, sorry.
-/
import Derived.Test.YtogmdcdipnmbkaaChecked
import GoSem.Claim
import GoSem.ClaimJoined
import GoSem.ClaimMapViews
import Derived.JoinedTies
import Derived.KernelRfl
namespace Go.Proofs.Ytogmdcdipnmbkaa
/- THE CELL 'sum', in the pinned program and in every row, IS THE sha256 OF THE DUMP (.gsa) THAT YtogmdcdipnmbkaaProg.lean LOADS. Nothing in Lean hashes anything: it is a label: what it is worth is what the hold of that sum in a sandbox is worth. -/
noncomputable def Try.pinned : Pinned := { name := "ytogmdcdipnmbkaa", sum := "fad540a78be17a94d0294ef7c93b9a8047fa5d5ce9e3283f41f08557ec6d1777", checked := Try.checked }
namespace Rows
def none {H : Type} : Left H := { results := [], args := [] }

/-- 'laws.FnExactConstants': WHATEVER THE INPUT: true; the input reads as it did. -/
def fnExactConstantsSpec : ChangeSpec := { name := "fnExactConstants", fn := fun _ => fun
  | [] => { results := [.lit (.bool true)], args := [] }
  | _ => none }
def fnExactConstantsRow : OpenClaim := { program := "ytogmdcdipnmbkaa", sum := "fad540a78be17a94d0294ef7c93b9a8047fa5d5ce9e3283f41f08557ec6d1777", func := "loop.example/headtrees/laws.FnExactConstants", spec := "fnExactConstants", apart := false }
def FnExactConstantsSaid : Prop := fnExactConstantsRow.holds Try.pinned (OpenSpec.ofChange fnExactConstantsSpec)

/-- ITS FALSE NEIGHBOUR: 'it returns false'. Refute it at one input. -/
def fnExactConstantsWrong : ChangeSpec := { name := "fnExactConstants", fn := fun _ => fun
  | [] => { results := [.lit (.bool false)], args := [] }
  | _ => none }
def FnExactConstantsWrongFalsely : Prop := fnExactConstantsRow.holds Try.pinned (OpenSpec.ofChange fnExactConstantsWrong)

/-- 'laws.FnExactCrossOk': WHATEVER THE INPUT: true; the input reads as it did. -/
def fnExactCrossOkSpec : ChangeSpec := { name := "fnExactCrossOk", fn := fun _ => fun
  | [d1, d2, d3, d4] => { results := [.lit (.bool true)], args := [d1, d2, d3, d4] }
  | _ => none }
def fnExactCrossOkRow : OpenClaim := { program := "ytogmdcdipnmbkaa", sum := "fad540a78be17a94d0294ef7c93b9a8047fa5d5ce9e3283f41f08557ec6d1777", func := "loop.example/headtrees/laws.FnExactCrossOk", spec := "fnExactCrossOk", apart := false }
def FnExactCrossOkSaid : Prop := fnExactCrossOkRow.holds Try.pinned (OpenSpec.ofChange fnExactCrossOkSpec)

/-- ITS FALSE NEIGHBOUR: 'it returns false'. Refute it at one input. -/
def fnExactCrossOkWrong : ChangeSpec := { name := "fnExactCrossOk", fn := fun _ => fun
  | [d1, d2, d3, d4] => { results := [.lit (.bool false)], args := [d1, d2, d3, d4] }
  | _ => none }
def FnExactCrossOkWrongFalsely : Prop := fnExactCrossOkRow.holds Try.pinned (OpenSpec.ofChange fnExactCrossOkWrong)

/-- 'laws.FnExactCountTrees': WHATEVER THE INPUT: true; the input reads as it did. -/
def fnExactCountTreesSpec : ChangeSpec := { name := "fnExactCountTrees", fn := fun _ => fun
  | [d] => { results := [.lit (.bool true)], args := [d] }
  | _ => none }
def fnExactCountTreesRow : OpenClaim := { program := "ytogmdcdipnmbkaa", sum := "fad540a78be17a94d0294ef7c93b9a8047fa5d5ce9e3283f41f08557ec6d1777", func := "loop.example/headtrees/laws.FnExactCountTrees", spec := "fnExactCountTrees", apart := false }
def FnExactCountTreesSaid : Prop := fnExactCountTreesRow.holds Try.pinned (OpenSpec.ofChange fnExactCountTreesSpec)

/-- ITS FALSE NEIGHBOUR: 'it returns false'. Refute it at one input. -/
def fnExactCountTreesWrong : ChangeSpec := { name := "fnExactCountTrees", fn := fun _ => fun
  | [d] => { results := [.lit (.bool false)], args := [d] }
  | _ => none }
def FnExactCountTreesWrongFalsely : Prop := fnExactCountTreesRow.holds Try.pinned (OpenSpec.ofChange fnExactCountTreesWrong)

/-- 'laws.FnCrossOk': WHATEVER THE INPUT: true; the input reads as it did. -/
def fnCrossOkSpec : ChangeSpec := { name := "fnCrossOk", fn := fun _ => fun
  | [d] => { results := [.lit (.bool true)], args := [d] }
  | _ => none }
def fnCrossOkRow : OpenClaim := { program := "ytogmdcdipnmbkaa", sum := "fad540a78be17a94d0294ef7c93b9a8047fa5d5ce9e3283f41f08557ec6d1777", func := "loop.example/headtrees/laws.FnCrossOk", spec := "fnCrossOk", apart := false }
def FnCrossOkSaid : Prop := fnCrossOkRow.holds Try.pinned (OpenSpec.ofChange fnCrossOkSpec)

/-- ITS FALSE NEIGHBOUR: 'it returns false'. Refute it at one input. -/
def fnCrossOkWrong : ChangeSpec := { name := "fnCrossOk", fn := fun _ => fun
  | [d] => { results := [.lit (.bool false)], args := [d] }
  | _ => none }
def FnCrossOkWrongFalsely : Prop := fnCrossOkRow.holds Try.pinned (OpenSpec.ofChange fnCrossOkWrong)

/-- 'laws.FnExactCountFlat': WHATEVER THE INPUT: true; the input reads as it did. -/
def fnExactCountFlatSpec : ChangeSpec := { name := "fnExactCountFlat", fn := fun _ => fun
  | [d] => { results := [.lit (.bool true)], args := [d] }
  | _ => none }
def fnExactCountFlatRow : OpenClaim := { program := "ytogmdcdipnmbkaa", sum := "fad540a78be17a94d0294ef7c93b9a8047fa5d5ce9e3283f41f08557ec6d1777", func := "loop.example/headtrees/laws.FnExactCountFlat", spec := "fnExactCountFlat", recurses := true, apart := false }
def FnExactCountFlatSaid : Prop := fnExactCountFlatRow.holds Try.pinned (OpenSpec.ofChange fnExactCountFlatSpec)

/-- ITS FALSE NEIGHBOUR: 'it returns false'. Refute it at one input. -/
def fnExactCountFlatWrong : ChangeSpec := { name := "fnExactCountFlat", fn := fun _ => fun
  | [d] => { results := [.lit (.bool false)], args := [d] }
  | _ => none }
def FnExactCountFlatWrongFalsely : Prop := fnExactCountFlatRow.holds Try.pinned (OpenSpec.ofChange fnExactCountFlatWrong)

/-- 'laws.FnExactCountRows': WHATEVER THE INPUT: true; the input reads as it did. -/
def fnExactCountRowsSpec : ChangeSpec := { name := "fnExactCountRows", fn := fun _ => fun
  | [d] => { results := [.lit (.bool true)], args := [d] }
  | _ => none }
def fnExactCountRowsRow : OpenClaim := { program := "ytogmdcdipnmbkaa", sum := "fad540a78be17a94d0294ef7c93b9a8047fa5d5ce9e3283f41f08557ec6d1777", func := "loop.example/headtrees/laws.FnExactCountRows", spec := "fnExactCountRows", recurses := true, apart := false }
def FnExactCountRowsSaid : Prop := fnExactCountRowsRow.holds Try.pinned (OpenSpec.ofChange fnExactCountRowsSpec)

/-- ITS FALSE NEIGHBOUR: 'it returns false'. Refute it at one input. -/
def fnExactCountRowsWrong : ChangeSpec := { name := "fnExactCountRows", fn := fun _ => fun
  | [d] => { results := [.lit (.bool false)], args := [d] }
  | _ => none }
def FnExactCountRowsWrongFalsely : Prop := fnExactCountRowsRow.holds Try.pinned (OpenSpec.ofChange fnExactCountRowsWrong)

/-- 'laws.FnExactTreeOk': WHATEVER THE INPUT: true; the input reads as it did. -/
def fnExactTreeOkSpec : ChangeSpec := { name := "fnExactTreeOk", fn := fun _ => fun
  | [d] => { results := [.lit (.bool true)], args := [d] }
  | _ => none }
def fnExactTreeOkRow : OpenClaim := { program := "ytogmdcdipnmbkaa", sum := "fad540a78be17a94d0294ef7c93b9a8047fa5d5ce9e3283f41f08557ec6d1777", func := "loop.example/headtrees/laws.FnExactTreeOk", spec := "fnExactTreeOk", apart := false }
def FnExactTreeOkSaid : Prop := fnExactTreeOkRow.holds Try.pinned (OpenSpec.ofChange fnExactTreeOkSpec)

/-- ITS FALSE NEIGHBOUR: 'it returns false'. Refute it at one input. -/
def fnExactTreeOkWrong : ChangeSpec := { name := "fnExactTreeOk", fn := fun _ => fun
  | [d] => { results := [.lit (.bool false)], args := [d] }
  | _ => none }
def FnExactTreeOkWrongFalsely : Prop := fnExactTreeOkRow.holds Try.pinned (OpenSpec.ofChange fnExactTreeOkWrong)

/-- 'laws.FnCountTrees': WHATEVER THE INPUT: true; the input reads as it did. -/
def fnCountTreesSpec : ChangeSpec := { name := "fnCountTrees", fn := fun _ => fun
  | [d] => { results := [.lit (.bool true)], args := [d] }
  | _ => none }
def fnCountTreesRow : OpenClaim := { program := "ytogmdcdipnmbkaa", sum := "fad540a78be17a94d0294ef7c93b9a8047fa5d5ce9e3283f41f08557ec6d1777", func := "loop.example/headtrees/laws.FnCountTrees", spec := "fnCountTrees", apart := false }
def FnCountTreesSaid : Prop := fnCountTreesRow.holds Try.pinned (OpenSpec.ofChange fnCountTreesSpec)

/-- ITS FALSE NEIGHBOUR: 'it returns false'. Refute it at one input. -/
def fnCountTreesWrong : ChangeSpec := { name := "fnCountTrees", fn := fun _ => fun
  | [d] => { results := [.lit (.bool false)], args := [d] }
  | _ => none }
def FnCountTreesWrongFalsely : Prop := fnCountTreesRow.holds Try.pinned (OpenSpec.ofChange fnCountTreesWrong)

/-- 'laws.FnExactRootOf': WHATEVER THE INPUT: true; the input reads as it did. -/
def fnExactRootOfSpec : ChangeSpec := { name := "fnExactRootOf", fn := fun _ => fun
  | [d] => { results := [.lit (.bool true)], args := [d] }
  | _ => none }
def fnExactRootOfRow : OpenClaim := { program := "ytogmdcdipnmbkaa", sum := "fad540a78be17a94d0294ef7c93b9a8047fa5d5ce9e3283f41f08557ec6d1777", func := "loop.example/headtrees/laws.FnExactRootOf", spec := "fnExactRootOf", apart := false }
def FnExactRootOfSaid : Prop := fnExactRootOfRow.holds Try.pinned (OpenSpec.ofChange fnExactRootOfSpec)

/-- ITS FALSE NEIGHBOUR: 'it returns false'. Refute it at one input. -/
def fnExactRootOfWrong : ChangeSpec := { name := "fnExactRootOf", fn := fun _ => fun
  | [d] => { results := [.lit (.bool false)], args := [d] }
  | _ => none }
def FnExactRootOfWrongFalsely : Prop := fnExactRootOfRow.holds Try.pinned (OpenSpec.ofChange fnExactRootOfWrong)

/-- 'laws.FnExactUnderOk': WHATEVER THE INPUT: true; the input reads as it did. -/
def fnExactUnderOkSpec : ChangeSpec := { name := "fnExactUnderOk", fn := fun _ => fun
  | [d1, d2, d3] => { results := [.lit (.bool true)], args := [d1, d2, d3] }
  | _ => none }
def fnExactUnderOkRow : OpenClaim := { program := "ytogmdcdipnmbkaa", sum := "fad540a78be17a94d0294ef7c93b9a8047fa5d5ce9e3283f41f08557ec6d1777", func := "loop.example/headtrees/laws.FnExactUnderOk", spec := "fnExactUnderOk", recurses := true, apart := false }
def FnExactUnderOkSaid : Prop := fnExactUnderOkRow.holds Try.pinned (OpenSpec.ofChange fnExactUnderOkSpec)

/-- ITS FALSE NEIGHBOUR: 'it returns false'. Refute it at one input. -/
def fnExactUnderOkWrong : ChangeSpec := { name := "fnExactUnderOk", fn := fun _ => fun
  | [d1, d2, d3] => { results := [.lit (.bool false)], args := [d1, d2, d3] }
  | _ => none }
def FnExactUnderOkWrongFalsely : Prop := fnExactUnderOkRow.holds Try.pinned (OpenSpec.ofChange fnExactUnderOkWrong)

/-- 'laws.FnExactDeepestStack': WHATEVER THE INPUT: true; the input reads as it did. -/
def fnExactDeepestStackSpec : ChangeSpec := { name := "fnExactDeepestStack", fn := fun _ => fun
  | [d1, d2] => { results := [.lit (.bool true)], args := [d1, d2] }
  | _ => none }
def fnExactDeepestStackRow : OpenClaim := { program := "ytogmdcdipnmbkaa", sum := "fad540a78be17a94d0294ef7c93b9a8047fa5d5ce9e3283f41f08557ec6d1777", func := "loop.example/headtrees/laws.FnExactDeepestStack", spec := "fnExactDeepestStack", apart := false }
def FnExactDeepestStackSaid : Prop := fnExactDeepestStackRow.holds Try.pinned (OpenSpec.ofChange fnExactDeepestStackSpec)

/-- ITS FALSE NEIGHBOUR: 'it returns false'. Refute it at one input. -/
def fnExactDeepestStackWrong : ChangeSpec := { name := "fnExactDeepestStack", fn := fun _ => fun
  | [d1, d2] => { results := [.lit (.bool false)], args := [d1, d2] }
  | _ => none }
def FnExactDeepestStackWrongFalsely : Prop := fnExactDeepestStackRow.holds Try.pinned (OpenSpec.ofChange fnExactDeepestStackWrong)

/-- 'laws.FnCountRows': WHATEVER THE INPUT: true; the input reads as it did. -/
def fnCountRowsSpec : ChangeSpec := { name := "fnCountRows", fn := fun _ => fun
  | [d] => { results := [.lit (.bool true)], args := [d] }
  | _ => none }
def fnCountRowsRow : OpenClaim := { program := "ytogmdcdipnmbkaa", sum := "fad540a78be17a94d0294ef7c93b9a8047fa5d5ce9e3283f41f08557ec6d1777", func := "loop.example/headtrees/laws.FnCountRows", spec := "fnCountRows", recurses := true, apart := false }
def FnCountRowsSaid : Prop := fnCountRowsRow.holds Try.pinned (OpenSpec.ofChange fnCountRowsSpec)

/-- ITS FALSE NEIGHBOUR: 'it returns false'. Refute it at one input. -/
def fnCountRowsWrong : ChangeSpec := { name := "fnCountRows", fn := fun _ => fun
  | [d] => { results := [.lit (.bool false)], args := [d] }
  | _ => none }
def FnCountRowsWrongFalsely : Prop := fnCountRowsRow.holds Try.pinned (OpenSpec.ofChange fnCountRowsWrong)

/- THE SECOND FORM. 'bulk': how many values and letters a reading holds, each counted each time it is reached (what is shared counts as often as it is met; a slice's spare places count too). A statement '..UptoSaid' is the law's where the arguments, and the package variables that the reading takes, are together of bulk at most 1048576: NARROWER than '..Said'. Prove '..Said' where nothing that the law and all that it calls make is longer than what came in: it says more and counts as full. Else prove '..UptoSaid'. A law counts once. -/
mutual
def uptoBulk {H : Type} : DataW H → Nat
  | .lit (.string bytes) => bytes.length + 1
  | .lit _ => 1
  | .nil => 1
  | .ptr d => uptoBulk d + 1
  | .slice elems spare => uptoBulkAll elems + uptoBulkAll spare + 1
  | .agg parts => uptoBulkAll parts + 1
  | .iface _ d => uptoBulk d + 1
  | .map entries => uptoBulkEntries entries + 1
  | .held _ => 1
def uptoBulkAll {H : Type} : List (DataW H) → Nat
  | [] => 0
  | d :: r => uptoBulk d + uptoBulkAll r
def uptoBulkEntries {H : Type} : List (Lit × DataW H) → Nat
  | [] => 0
  | x :: r => uptoBulkEntry x + uptoBulkEntries r
def uptoBulkEntry {H : Type} : Lit × DataW H → Nat
  | (.string bytes, d) => bytes.length + uptoBulk d + 1
  | (_, d) => uptoBulk d + 1
 end
def uptoSmall : (H : Type) → List (DataW H) → Bool := fun _ ds => decide (uptoBulkAll ds ≤ 1048576)
def OpenSpec.upto (s : _root_.Go.ChangeSpec) : _root_.Go.OpenSpec := { _root_.Go.OpenSpec.ofChange s with cond := some uptoSmall }

/-- 'laws.FnExactConstants', WHERE WHAT IT READS IS OF BULK AT MOST 1048576: true; the input reads as it did. -/
def fnExactConstantsUptoRow : OpenClaim := { program := "ytogmdcdipnmbkaa", sum := "fad540a78be17a94d0294ef7c93b9a8047fa5d5ce9e3283f41f08557ec6d1777", func := "loop.example/headtrees/laws.FnExactConstants", spec := "fnExactConstants", apart := false, narrowed := true }
def FnExactConstantsUptoSaid : Prop := fnExactConstantsUptoRow.holds Try.pinned (OpenSpec.upto fnExactConstantsSpec)

/-- 'laws.FnExactCrossOk', WHERE WHAT IT READS IS OF BULK AT MOST 1048576: true; the input reads as it did. -/
def fnExactCrossOkUptoRow : OpenClaim := { program := "ytogmdcdipnmbkaa", sum := "fad540a78be17a94d0294ef7c93b9a8047fa5d5ce9e3283f41f08557ec6d1777", func := "loop.example/headtrees/laws.FnExactCrossOk", spec := "fnExactCrossOk", apart := false, narrowed := true }
def FnExactCrossOkUptoSaid : Prop := fnExactCrossOkUptoRow.holds Try.pinned (OpenSpec.upto fnExactCrossOkSpec)

/-- 'laws.FnExactCountTrees', WHERE WHAT IT READS IS OF BULK AT MOST 1048576: true; the input reads as it did. -/
def fnExactCountTreesUptoRow : OpenClaim := { program := "ytogmdcdipnmbkaa", sum := "fad540a78be17a94d0294ef7c93b9a8047fa5d5ce9e3283f41f08557ec6d1777", func := "loop.example/headtrees/laws.FnExactCountTrees", spec := "fnExactCountTrees", apart := false, narrowed := true }
def FnExactCountTreesUptoSaid : Prop := fnExactCountTreesUptoRow.holds Try.pinned (OpenSpec.upto fnExactCountTreesSpec)

/-- 'laws.FnCrossOk', WHERE WHAT IT READS IS OF BULK AT MOST 1048576: true; the input reads as it did. -/
def fnCrossOkUptoRow : OpenClaim := { program := "ytogmdcdipnmbkaa", sum := "fad540a78be17a94d0294ef7c93b9a8047fa5d5ce9e3283f41f08557ec6d1777", func := "loop.example/headtrees/laws.FnCrossOk", spec := "fnCrossOk", apart := false, narrowed := true }
def FnCrossOkUptoSaid : Prop := fnCrossOkUptoRow.holds Try.pinned (OpenSpec.upto fnCrossOkSpec)

/-- 'laws.FnExactCountFlat', WHERE WHAT IT READS IS OF BULK AT MOST 1048576: true; the input reads as it did. -/
def fnExactCountFlatUptoRow : OpenClaim := { program := "ytogmdcdipnmbkaa", sum := "fad540a78be17a94d0294ef7c93b9a8047fa5d5ce9e3283f41f08557ec6d1777", func := "loop.example/headtrees/laws.FnExactCountFlat", spec := "fnExactCountFlat", recurses := true, apart := false, narrowed := true }
def FnExactCountFlatUptoSaid : Prop := fnExactCountFlatUptoRow.holds Try.pinned (OpenSpec.upto fnExactCountFlatSpec)

/-- 'laws.FnExactCountRows', WHERE WHAT IT READS IS OF BULK AT MOST 1048576: true; the input reads as it did. -/
def fnExactCountRowsUptoRow : OpenClaim := { program := "ytogmdcdipnmbkaa", sum := "fad540a78be17a94d0294ef7c93b9a8047fa5d5ce9e3283f41f08557ec6d1777", func := "loop.example/headtrees/laws.FnExactCountRows", spec := "fnExactCountRows", recurses := true, apart := false, narrowed := true }
def FnExactCountRowsUptoSaid : Prop := fnExactCountRowsUptoRow.holds Try.pinned (OpenSpec.upto fnExactCountRowsSpec)

/-- 'laws.FnExactTreeOk', WHERE WHAT IT READS IS OF BULK AT MOST 1048576: true; the input reads as it did. -/
def fnExactTreeOkUptoRow : OpenClaim := { program := "ytogmdcdipnmbkaa", sum := "fad540a78be17a94d0294ef7c93b9a8047fa5d5ce9e3283f41f08557ec6d1777", func := "loop.example/headtrees/laws.FnExactTreeOk", spec := "fnExactTreeOk", apart := false, narrowed := true }
def FnExactTreeOkUptoSaid : Prop := fnExactTreeOkUptoRow.holds Try.pinned (OpenSpec.upto fnExactTreeOkSpec)

/-- 'laws.FnCountTrees', WHERE WHAT IT READS IS OF BULK AT MOST 1048576: true; the input reads as it did. -/
def fnCountTreesUptoRow : OpenClaim := { program := "ytogmdcdipnmbkaa", sum := "fad540a78be17a94d0294ef7c93b9a8047fa5d5ce9e3283f41f08557ec6d1777", func := "loop.example/headtrees/laws.FnCountTrees", spec := "fnCountTrees", apart := false, narrowed := true }
def FnCountTreesUptoSaid : Prop := fnCountTreesUptoRow.holds Try.pinned (OpenSpec.upto fnCountTreesSpec)

/-- 'laws.FnExactRootOf', WHERE WHAT IT READS IS OF BULK AT MOST 1048576: true; the input reads as it did. -/
def fnExactRootOfUptoRow : OpenClaim := { program := "ytogmdcdipnmbkaa", sum := "fad540a78be17a94d0294ef7c93b9a8047fa5d5ce9e3283f41f08557ec6d1777", func := "loop.example/headtrees/laws.FnExactRootOf", spec := "fnExactRootOf", apart := false, narrowed := true }
def FnExactRootOfUptoSaid : Prop := fnExactRootOfUptoRow.holds Try.pinned (OpenSpec.upto fnExactRootOfSpec)

/-- 'laws.FnExactUnderOk', WHERE WHAT IT READS IS OF BULK AT MOST 1048576: true; the input reads as it did. -/
def fnExactUnderOkUptoRow : OpenClaim := { program := "ytogmdcdipnmbkaa", sum := "fad540a78be17a94d0294ef7c93b9a8047fa5d5ce9e3283f41f08557ec6d1777", func := "loop.example/headtrees/laws.FnExactUnderOk", spec := "fnExactUnderOk", recurses := true, apart := false, narrowed := true }
def FnExactUnderOkUptoSaid : Prop := fnExactUnderOkUptoRow.holds Try.pinned (OpenSpec.upto fnExactUnderOkSpec)

/-- 'laws.FnExactDeepestStack', WHERE WHAT IT READS IS OF BULK AT MOST 1048576: true; the input reads as it did. -/
def fnExactDeepestStackUptoRow : OpenClaim := { program := "ytogmdcdipnmbkaa", sum := "fad540a78be17a94d0294ef7c93b9a8047fa5d5ce9e3283f41f08557ec6d1777", func := "loop.example/headtrees/laws.FnExactDeepestStack", spec := "fnExactDeepestStack", apart := false, narrowed := true }
def FnExactDeepestStackUptoSaid : Prop := fnExactDeepestStackUptoRow.holds Try.pinned (OpenSpec.upto fnExactDeepestStackSpec)

/-- 'laws.FnCountRows', WHERE WHAT IT READS IS OF BULK AT MOST 1048576: true; the input reads as it did. -/
def fnCountRowsUptoRow : OpenClaim := { program := "ytogmdcdipnmbkaa", sum := "fad540a78be17a94d0294ef7c93b9a8047fa5d5ce9e3283f41f08557ec6d1777", func := "loop.example/headtrees/laws.FnCountRows", spec := "fnCountRows", recurses := true, apart := false, narrowed := true }
def FnCountRowsUptoSaid : Prop := fnCountRowsUptoRow.holds Try.pinned (OpenSpec.upto fnCountRowsSpec)

end Rows
end Go.Proofs.Ytogmdcdipnmbkaa
