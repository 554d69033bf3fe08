/-
  No cell of these rows narrows 'for every input' (looked for: loops, veiled, ifaces, maps, wideKeys, modest, calm, conditions, laid).
  DERIVED. THE GIVEN ROWS OF THIS SEAT. 12 by the template 'for every input the law returns true; each argument reads behind the call as it read before'; 0 by the template 'total and deterministic' (their statements: YtaclehflljpfgaaTotals.lean).
  GIVEN WITH THE SEED: the statements are not yours to turn. If you find one false, say at which input.
  Laid BY PROGRAM, IN A SANDBOX (cutbox-rows.mjs): the forced cells as the released guide's own fill.sh prints them over the translation 02df5e5e5a3f3315… (all of the seat's roots in one cut). By AI agents, Wed Nov 11 2026. No macro, syntax, notation, axiom, sorry.
-/
import Derived.Test.YtaclehflljpfgaaChecked
import GoSem.Claim
import GoSem.ClaimJoined
import GoSem.ClaimMapViews
import Derived.JoinedTies
import Derived.KernelRfl
namespace Go.Proofs.Ytaclehflljpfgaa
/- THE CELL 'sum', in the pinned program and in every row, IS THE sha256 OF THE DUMP (.gsa) THAT YtaclehflljpfgaaProg.lean LOADS. Nothing in Lean hashes anything: it is a label: what it is worth is what the hold of that sum in a sandbox is worth. -/
noncomputable def Try.pinned : Pinned := { name := "ytaclehflljpfgaa", sum := "02df5e5e5a3f33158f340597bc27376b73e86f8ecddd3a90fabdcf05783275f2", checked := Try.checked }
namespace Rows
def none {H : Type} : Left H := { results := [], args := [] }

/-- 'laws.FnExactGapsOf': WHATEVER THE INPUT: true; the input reads as it did. -/
def fnExactGapsOfSpec : ChangeSpec := { name := "fnExactGapsOf", fn := fun _ => fun
  | [d1, d2] => { results := [.lit (.bool true)], args := [d1, d2] }
  | _ => none }
def fnExactGapsOfRow : OpenClaim := { program := "ytaclehflljpfgaa", sum := "02df5e5e5a3f33158f340597bc27376b73e86f8ecddd3a90fabdcf05783275f2", func := "loop.example/headtrees/laws.FnExactGapsOf", spec := "fnExactGapsOf", recurses := true, apart := false }
def FnExactGapsOfSaid : Prop := fnExactGapsOfRow.holds Try.pinned (OpenSpec.ofChange fnExactGapsOfSpec)

/-- ITS FALSE NEIGHBOUR: 'it returns false'. Refute it at one input. -/
def fnExactGapsOfWrong : ChangeSpec := { name := "fnExactGapsOf", fn := fun _ => fun
  | [d1, d2] => { results := [.lit (.bool false)], args := [d1, d2] }
  | _ => none }
def FnExactGapsOfWrongFalsely : Prop := fnExactGapsOfRow.holds Try.pinned (OpenSpec.ofChange fnExactGapsOfWrong)

/-- 'laws.FnExactYieldOf': WHATEVER THE INPUT: true; the input reads as it did. -/
def fnExactYieldOfSpec : ChangeSpec := { name := "fnExactYieldOf", fn := fun _ => fun
  | [d1, d2] => { results := [.lit (.bool true)], args := [d1, d2] }
  | _ => none }
def fnExactYieldOfRow : OpenClaim := { program := "ytaclehflljpfgaa", sum := "02df5e5e5a3f33158f340597bc27376b73e86f8ecddd3a90fabdcf05783275f2", func := "loop.example/headtrees/laws.FnExactYieldOf", spec := "fnExactYieldOf", recurses := true, apart := false }
def FnExactYieldOfSaid : Prop := fnExactYieldOfRow.holds Try.pinned (OpenSpec.ofChange fnExactYieldOfSpec)

/-- ITS FALSE NEIGHBOUR: 'it returns false'. Refute it at one input. -/
def fnExactYieldOfWrong : ChangeSpec := { name := "fnExactYieldOf", fn := fun _ => fun
  | [d1, d2] => { results := [.lit (.bool false)], args := [d1, d2] }
  | _ => none }
def FnExactYieldOfWrongFalsely : Prop := fnExactYieldOfRow.holds Try.pinned (OpenSpec.ofChange fnExactYieldOfWrong)

/-- 'laws.FnExactMostGaps': WHATEVER THE INPUT: true; the input reads as it did. -/
def fnExactMostGapsSpec : ChangeSpec := { name := "fnExactMostGaps", fn := fun _ => fun
  | [d] => { results := [.lit (.bool true)], args := [d] }
  | _ => none }
def fnExactMostGapsRow : OpenClaim := { program := "ytaclehflljpfgaa", sum := "02df5e5e5a3f33158f340597bc27376b73e86f8ecddd3a90fabdcf05783275f2", func := "loop.example/headtrees/laws.FnExactMostGaps", spec := "fnExactMostGaps", recurses := true, apart := false }
def FnExactMostGapsSaid : Prop := fnExactMostGapsRow.holds Try.pinned (OpenSpec.ofChange fnExactMostGapsSpec)

/-- ITS FALSE NEIGHBOUR: 'it returns false'. Refute it at one input. -/
def fnExactMostGapsWrong : ChangeSpec := { name := "fnExactMostGaps", fn := fun _ => fun
  | [d] => { results := [.lit (.bool false)], args := [d] }
  | _ => none }
def FnExactMostGapsWrongFalsely : Prop := fnExactMostGapsRow.holds Try.pinned (OpenSpec.ofChange fnExactMostGapsWrong)

/-- 'laws.FnExactNestedOk': WHATEVER THE INPUT: true; the input reads as it did. -/
def fnExactNestedOkSpec : ChangeSpec := { name := "fnExactNestedOk", fn := fun _ => fun
  | [d] => { results := [.lit (.bool true)], args := [d] }
  | _ => none }
def fnExactNestedOkRow : OpenClaim := { program := "ytaclehflljpfgaa", sum := "02df5e5e5a3f33158f340597bc27376b73e86f8ecddd3a90fabdcf05783275f2", func := "loop.example/headtrees/laws.FnExactNestedOk", spec := "fnExactNestedOk", recurses := true, apart := false }
def FnExactNestedOkSaid : Prop := fnExactNestedOkRow.holds Try.pinned (OpenSpec.ofChange fnExactNestedOkSpec)

/-- ITS FALSE NEIGHBOUR: 'it returns false'. Refute it at one input. -/
def fnExactNestedOkWrong : ChangeSpec := { name := "fnExactNestedOk", fn := fun _ => fun
  | [d] => { results := [.lit (.bool false)], args := [d] }
  | _ => none }
def FnExactNestedOkWrongFalsely : Prop := fnExactNestedOkRow.holds Try.pinned (OpenSpec.ofChange fnExactNestedOkWrong)

/-- 'laws.FnDepthOf': WHATEVER THE INPUT: true; the input reads as it did. -/
def fnDepthOfSpec : ChangeSpec := { name := "fnDepthOf", fn := fun _ => fun
  | [d] => { results := [.lit (.bool true)], args := [d] }
  | _ => none }
def fnDepthOfRow : OpenClaim := { program := "ytaclehflljpfgaa", sum := "02df5e5e5a3f33158f340597bc27376b73e86f8ecddd3a90fabdcf05783275f2", func := "loop.example/headtrees/laws.FnDepthOf", spec := "fnDepthOf", apart := false }
def FnDepthOfSaid : Prop := fnDepthOfRow.holds Try.pinned (OpenSpec.ofChange fnDepthOfSpec)

/-- ITS FALSE NEIGHBOUR: 'it returns false'. Refute it at one input. -/
def fnDepthOfWrong : ChangeSpec := { name := "fnDepthOf", fn := fun _ => fun
  | [d] => { results := [.lit (.bool false)], args := [d] }
  | _ => none }
def FnDepthOfWrongFalsely : Prop := fnDepthOfRow.holds Try.pinned (OpenSpec.ofChange fnDepthOfWrong)

/-- 'laws.FnRootOf': WHATEVER THE INPUT: true; the input reads as it did. -/
def fnRootOfSpec : ChangeSpec := { name := "fnRootOf", fn := fun _ => fun
  | [d] => { results := [.lit (.bool true)], args := [d] }
  | _ => none }
def fnRootOfRow : OpenClaim := { program := "ytaclehflljpfgaa", sum := "02df5e5e5a3f33158f340597bc27376b73e86f8ecddd3a90fabdcf05783275f2", func := "loop.example/headtrees/laws.FnRootOf", spec := "fnRootOf", apart := false }
def FnRootOfSaid : Prop := fnRootOfRow.holds Try.pinned (OpenSpec.ofChange fnRootOfSpec)

/-- ITS FALSE NEIGHBOUR: 'it returns false'. Refute it at one input. -/
def fnRootOfWrong : ChangeSpec := { name := "fnRootOf", fn := fun _ => fun
  | [d] => { results := [.lit (.bool false)], args := [d] }
  | _ => none }
def FnRootOfWrongFalsely : Prop := fnRootOfRow.holds Try.pinned (OpenSpec.ofChange fnRootOfWrong)

/-- 'laws.FnExactFlatAt': WHATEVER THE INPUT: true; the input reads as it did. -/
def fnExactFlatAtSpec : ChangeSpec := { name := "fnExactFlatAt", fn := fun _ => fun
  | [d1, d2] => { results := [.lit (.bool true)], args := [d1, d2] }
  | _ => none }
def fnExactFlatAtRow : OpenClaim := { program := "ytaclehflljpfgaa", sum := "02df5e5e5a3f33158f340597bc27376b73e86f8ecddd3a90fabdcf05783275f2", func := "loop.example/headtrees/laws.FnExactFlatAt", spec := "fnExactFlatAt", recurses := true, apart := false }
def FnExactFlatAtSaid : Prop := fnExactFlatAtRow.holds Try.pinned (OpenSpec.ofChange fnExactFlatAtSpec)

/-- ITS FALSE NEIGHBOUR: 'it returns false'. Refute it at one input. -/
def fnExactFlatAtWrong : ChangeSpec := { name := "fnExactFlatAt", fn := fun _ => fun
  | [d1, d2] => { results := [.lit (.bool false)], args := [d1, d2] }
  | _ => none }
def FnExactFlatAtWrongFalsely : Prop := fnExactFlatAtRow.holds Try.pinned (OpenSpec.ofChange fnExactFlatAtWrong)

/-- 'laws.FnUnderOk': WHATEVER THE INPUT: true; the input reads as it did. -/
def fnUnderOkSpec : ChangeSpec := { name := "fnUnderOk", fn := fun _ => fun
  | [d] => { results := [.lit (.bool true)], args := [d] }
  | _ => none }
def fnUnderOkRow : OpenClaim := { program := "ytaclehflljpfgaa", sum := "02df5e5e5a3f33158f340597bc27376b73e86f8ecddd3a90fabdcf05783275f2", func := "loop.example/headtrees/laws.FnUnderOk", spec := "fnUnderOk", recurses := true, apart := false }
def FnUnderOkSaid : Prop := fnUnderOkRow.holds Try.pinned (OpenSpec.ofChange fnUnderOkSpec)

/-- ITS FALSE NEIGHBOUR: 'it returns false'. Refute it at one input. -/
def fnUnderOkWrong : ChangeSpec := { name := "fnUnderOk", fn := fun _ => fun
  | [d] => { results := [.lit (.bool false)], args := [d] }
  | _ => none }
def FnUnderOkWrongFalsely : Prop := fnUnderOkRow.holds Try.pinned (OpenSpec.ofChange fnUnderOkWrong)

/-- 'laws.FnSidesOf': WHATEVER THE INPUT: true; the input reads as it did. -/
def fnSidesOfSpec : ChangeSpec := { name := "fnSidesOf", fn := fun _ => fun
  | [d] => { results := [.lit (.bool true)], args := [d] }
  | _ => none }
def fnSidesOfRow : OpenClaim := { program := "ytaclehflljpfgaa", sum := "02df5e5e5a3f33158f340597bc27376b73e86f8ecddd3a90fabdcf05783275f2", func := "loop.example/headtrees/laws.FnSidesOf", spec := "fnSidesOf", apart := false }
def FnSidesOfSaid : Prop := fnSidesOfRow.holds Try.pinned (OpenSpec.ofChange fnSidesOfSpec)

/-- ITS FALSE NEIGHBOUR: 'it returns false'. Refute it at one input. -/
def fnSidesOfWrong : ChangeSpec := { name := "fnSidesOf", fn := fun _ => fun
  | [d] => { results := [.lit (.bool false)], args := [d] }
  | _ => none }
def FnSidesOfWrongFalsely : Prop := fnSidesOfRow.holds Try.pinned (OpenSpec.ofChange fnSidesOfWrong)

/-- 'laws.FnMeetOf': WHATEVER THE INPUT: true; the input reads as it did. -/
def fnMeetOfSpec : ChangeSpec := { name := "fnMeetOf", fn := fun _ => fun
  | [d] => { results := [.lit (.bool true)], args := [d] }
  | _ => none }
def fnMeetOfRow : OpenClaim := { program := "ytaclehflljpfgaa", sum := "02df5e5e5a3f33158f340597bc27376b73e86f8ecddd3a90fabdcf05783275f2", func := "loop.example/headtrees/laws.FnMeetOf", spec := "fnMeetOf", recurses := true, apart := false }
def FnMeetOfSaid : Prop := fnMeetOfRow.holds Try.pinned (OpenSpec.ofChange fnMeetOfSpec)

/-- ITS FALSE NEIGHBOUR: 'it returns false'. Refute it at one input. -/
def fnMeetOfWrong : ChangeSpec := { name := "fnMeetOf", fn := fun _ => fun
  | [d] => { results := [.lit (.bool false)], args := [d] }
  | _ => none }
def FnMeetOfWrongFalsely : Prop := fnMeetOfRow.holds Try.pinned (OpenSpec.ofChange fnMeetOfWrong)

/-- 'laws.FnDeepestStack': WHATEVER THE INPUT: true; the input reads as it did. -/
def fnDeepestStackSpec : ChangeSpec := { name := "fnDeepestStack", fn := fun _ => fun
  | [d] => { results := [.lit (.bool true)], args := [d] }
  | _ => none }
def fnDeepestStackRow : OpenClaim := { program := "ytaclehflljpfgaa", sum := "02df5e5e5a3f33158f340597bc27376b73e86f8ecddd3a90fabdcf05783275f2", func := "loop.example/headtrees/laws.FnDeepestStack", spec := "fnDeepestStack", apart := false }
def FnDeepestStackSaid : Prop := fnDeepestStackRow.holds Try.pinned (OpenSpec.ofChange fnDeepestStackSpec)

/-- ITS FALSE NEIGHBOUR: 'it returns false'. Refute it at one input. -/
def fnDeepestStackWrong : ChangeSpec := { name := "fnDeepestStack", fn := fun _ => fun
  | [d] => { results := [.lit (.bool false)], args := [d] }
  | _ => none }
def FnDeepestStackWrongFalsely : Prop := fnDeepestStackRow.holds Try.pinned (OpenSpec.ofChange fnDeepestStackWrong)

/-- 'laws.FnExactRowsOf': WHATEVER THE INPUT: true; the input reads as it did. -/
def fnExactRowsOfSpec : ChangeSpec := { name := "fnExactRowsOf", fn := fun _ => fun
  | [d1, d2] => { results := [.lit (.bool true)], args := [d1, d2] }
  | _ => none }
def fnExactRowsOfRow : OpenClaim := { program := "ytaclehflljpfgaa", sum := "02df5e5e5a3f33158f340597bc27376b73e86f8ecddd3a90fabdcf05783275f2", func := "loop.example/headtrees/laws.FnExactRowsOf", spec := "fnExactRowsOf", recurses := true, apart := false }
def FnExactRowsOfSaid : Prop := fnExactRowsOfRow.holds Try.pinned (OpenSpec.ofChange fnExactRowsOfSpec)

/-- ITS FALSE NEIGHBOUR: 'it returns false'. Refute it at one input. -/
def fnExactRowsOfWrong : ChangeSpec := { name := "fnExactRowsOf", fn := fun _ => fun
  | [d1, d2] => { results := [.lit (.bool false)], args := [d1, d2] }
  | _ => none }
def FnExactRowsOfWrongFalsely : Prop := fnExactRowsOfRow.holds Try.pinned (OpenSpec.ofChange fnExactRowsOfWrong)

/- THE SECOND FORM. 'bulk': how many values and letters a reading holds, each counted each time it is reached (what is shared counts as often as it is met; a slice's spare places count too). A statement '..UptoSaid' is the law's where the arguments, and the package variables that the reading takes, are together of bulk at most 1048576: NARROWER than '..Said'. Prove '..Said' where nothing that the law and all that it calls make is longer than what came in: it says more and counts as full. Else prove '..UptoSaid'. A law counts once. -/
mutual
def uptoBulk {H : Type} : DataW H → Nat
  | .lit (.string bytes) => bytes.length + 1
  | .lit _ => 1
  | .nil => 1
  | .ptr d => uptoBulk d + 1
  | .slice elems spare => uptoBulkAll elems + uptoBulkAll spare + 1
  | .agg parts => uptoBulkAll parts + 1
  | .iface _ d => uptoBulk d + 1
  | .map entries => uptoBulkEntries entries + 1
  | .held _ => 1
def uptoBulkAll {H : Type} : List (DataW H) → Nat
  | [] => 0
  | d :: r => uptoBulk d + uptoBulkAll r
def uptoBulkEntries {H : Type} : List (Lit × DataW H) → Nat
  | [] => 0
  | x :: r => uptoBulkEntry x + uptoBulkEntries r
def uptoBulkEntry {H : Type} : Lit × DataW H → Nat
  | (.string bytes, d) => bytes.length + uptoBulk d + 1
  | (_, d) => uptoBulk d + 1
 end
def uptoSmall : (H : Type) → List (DataW H) → Bool := fun _ ds => decide (uptoBulkAll ds ≤ 1048576)
def OpenSpec.upto (s : _root_.Go.ChangeSpec) : _root_.Go.OpenSpec := { _root_.Go.OpenSpec.ofChange s with cond := some uptoSmall }

/-- 'laws.FnExactGapsOf', WHERE WHAT IT READS IS OF BULK AT MOST 1048576: true; the input reads as it did. -/
def fnExactGapsOfUptoRow : OpenClaim := { program := "ytaclehflljpfgaa", sum := "02df5e5e5a3f33158f340597bc27376b73e86f8ecddd3a90fabdcf05783275f2", func := "loop.example/headtrees/laws.FnExactGapsOf", spec := "fnExactGapsOf", recurses := true, apart := false, narrowed := true }
def FnExactGapsOfUptoSaid : Prop := fnExactGapsOfUptoRow.holds Try.pinned (OpenSpec.upto fnExactGapsOfSpec)

/-- 'laws.FnExactYieldOf', WHERE WHAT IT READS IS OF BULK AT MOST 1048576: true; the input reads as it did. -/
def fnExactYieldOfUptoRow : OpenClaim := { program := "ytaclehflljpfgaa", sum := "02df5e5e5a3f33158f340597bc27376b73e86f8ecddd3a90fabdcf05783275f2", func := "loop.example/headtrees/laws.FnExactYieldOf", spec := "fnExactYieldOf", recurses := true, apart := false, narrowed := true }
def FnExactYieldOfUptoSaid : Prop := fnExactYieldOfUptoRow.holds Try.pinned (OpenSpec.upto fnExactYieldOfSpec)

/-- 'laws.FnExactMostGaps', WHERE WHAT IT READS IS OF BULK AT MOST 1048576: true; the input reads as it did. -/
def fnExactMostGapsUptoRow : OpenClaim := { program := "ytaclehflljpfgaa", sum := "02df5e5e5a3f33158f340597bc27376b73e86f8ecddd3a90fabdcf05783275f2", func := "loop.example/headtrees/laws.FnExactMostGaps", spec := "fnExactMostGaps", recurses := true, apart := false, narrowed := true }
def FnExactMostGapsUptoSaid : Prop := fnExactMostGapsUptoRow.holds Try.pinned (OpenSpec.upto fnExactMostGapsSpec)

/-- 'laws.FnExactNestedOk', WHERE WHAT IT READS IS OF BULK AT MOST 1048576: true; the input reads as it did. -/
def fnExactNestedOkUptoRow : OpenClaim := { program := "ytaclehflljpfgaa", sum := "02df5e5e5a3f33158f340597bc27376b73e86f8ecddd3a90fabdcf05783275f2", func := "loop.example/headtrees/laws.FnExactNestedOk", spec := "fnExactNestedOk", recurses := true, apart := false, narrowed := true }
def FnExactNestedOkUptoSaid : Prop := fnExactNestedOkUptoRow.holds Try.pinned (OpenSpec.upto fnExactNestedOkSpec)

/-- 'laws.FnDepthOf', WHERE WHAT IT READS IS OF BULK AT MOST 1048576: true; the input reads as it did. -/
def fnDepthOfUptoRow : OpenClaim := { program := "ytaclehflljpfgaa", sum := "02df5e5e5a3f33158f340597bc27376b73e86f8ecddd3a90fabdcf05783275f2", func := "loop.example/headtrees/laws.FnDepthOf", spec := "fnDepthOf", apart := false, narrowed := true }
def FnDepthOfUptoSaid : Prop := fnDepthOfUptoRow.holds Try.pinned (OpenSpec.upto fnDepthOfSpec)

/-- 'laws.FnRootOf', WHERE WHAT IT READS IS OF BULK AT MOST 1048576: true; the input reads as it did. -/
def fnRootOfUptoRow : OpenClaim := { program := "ytaclehflljpfgaa", sum := "02df5e5e5a3f33158f340597bc27376b73e86f8ecddd3a90fabdcf05783275f2", func := "loop.example/headtrees/laws.FnRootOf", spec := "fnRootOf", apart := false, narrowed := true }
def FnRootOfUptoSaid : Prop := fnRootOfUptoRow.holds Try.pinned (OpenSpec.upto fnRootOfSpec)

/-- 'laws.FnExactFlatAt', WHERE WHAT IT READS IS OF BULK AT MOST 1048576: true; the input reads as it did. -/
def fnExactFlatAtUptoRow : OpenClaim := { program := "ytaclehflljpfgaa", sum := "02df5e5e5a3f33158f340597bc27376b73e86f8ecddd3a90fabdcf05783275f2", func := "loop.example/headtrees/laws.FnExactFlatAt", spec := "fnExactFlatAt", recurses := true, apart := false, narrowed := true }
def FnExactFlatAtUptoSaid : Prop := fnExactFlatAtUptoRow.holds Try.pinned (OpenSpec.upto fnExactFlatAtSpec)

/-- 'laws.FnUnderOk', WHERE WHAT IT READS IS OF BULK AT MOST 1048576: true; the input reads as it did. -/
def fnUnderOkUptoRow : OpenClaim := { program := "ytaclehflljpfgaa", sum := "02df5e5e5a3f33158f340597bc27376b73e86f8ecddd3a90fabdcf05783275f2", func := "loop.example/headtrees/laws.FnUnderOk", spec := "fnUnderOk", recurses := true, apart := false, narrowed := true }
def FnUnderOkUptoSaid : Prop := fnUnderOkUptoRow.holds Try.pinned (OpenSpec.upto fnUnderOkSpec)

/-- 'laws.FnSidesOf', WHERE WHAT IT READS IS OF BULK AT MOST 1048576: true; the input reads as it did. -/
def fnSidesOfUptoRow : OpenClaim := { program := "ytaclehflljpfgaa", sum := "02df5e5e5a3f33158f340597bc27376b73e86f8ecddd3a90fabdcf05783275f2", func := "loop.example/headtrees/laws.FnSidesOf", spec := "fnSidesOf", apart := false, narrowed := true }
def FnSidesOfUptoSaid : Prop := fnSidesOfUptoRow.holds Try.pinned (OpenSpec.upto fnSidesOfSpec)

/-- 'laws.FnMeetOf', WHERE WHAT IT READS IS OF BULK AT MOST 1048576: true; the input reads as it did. -/
def fnMeetOfUptoRow : OpenClaim := { program := "ytaclehflljpfgaa", sum := "02df5e5e5a3f33158f340597bc27376b73e86f8ecddd3a90fabdcf05783275f2", func := "loop.example/headtrees/laws.FnMeetOf", spec := "fnMeetOf", recurses := true, apart := false, narrowed := true }
def FnMeetOfUptoSaid : Prop := fnMeetOfUptoRow.holds Try.pinned (OpenSpec.upto fnMeetOfSpec)

/-- 'laws.FnDeepestStack', WHERE WHAT IT READS IS OF BULK AT MOST 1048576: true; the input reads as it did. -/
def fnDeepestStackUptoRow : OpenClaim := { program := "ytaclehflljpfgaa", sum := "02df5e5e5a3f33158f340597bc27376b73e86f8ecddd3a90fabdcf05783275f2", func := "loop.example/headtrees/laws.FnDeepestStack", spec := "fnDeepestStack", apart := false, narrowed := true }
def FnDeepestStackUptoSaid : Prop := fnDeepestStackUptoRow.holds Try.pinned (OpenSpec.upto fnDeepestStackSpec)

/-- 'laws.FnExactRowsOf', WHERE WHAT IT READS IS OF BULK AT MOST 1048576: true; the input reads as it did. -/
def fnExactRowsOfUptoRow : OpenClaim := { program := "ytaclehflljpfgaa", sum := "02df5e5e5a3f33158f340597bc27376b73e86f8ecddd3a90fabdcf05783275f2", func := "loop.example/headtrees/laws.FnExactRowsOf", spec := "fnExactRowsOf", recurses := true, apart := false, narrowed := true }
def FnExactRowsOfUptoSaid : Prop := fnExactRowsOfUptoRow.holds Try.pinned (OpenSpec.upto fnExactRowsOfSpec)

end Rows
end Go.Proofs.Ytaclehflljpfgaa
