/-
  No cell of these rows narrows 'for every input' (looked for: loops, veiled, ifaces, maps, wideKeys, modest, calm, conditions, laid).
  DERIVED. THE GIVEN ROWS OF THIS SEAT. 12 by the template 'for every input the law returns true; each argument reads behind the call as it read before'; 0 by the template 'total and deterministic' (their statements: YtdckgafgidfplaaTotals.lean).
  GIVEN WITH THE SEED: the statements are not yours to turn. If you find one false, say at which input.
  Laid BY PROGRAM, IN A SANDBOX (cutbox-rows.mjs): the forced cells as the released guide's own fill.sh prints them over the translation 5f7072ecded19122… (all of the seat's roots in one cut). By AI agents, Wed Nov 11 2026. No macro, syntax, notation, axiom, sorry.
-/
import Derived.Test.YtdckgafgidfplaaChecked
import GoSem.Claim
import GoSem.ClaimJoined
import GoSem.ClaimMapViews
import Derived.JoinedTies
import Derived.KernelRfl
namespace Go.Proofs.Ytdckgafgidfplaa
/- THE CELL 'sum', in the pinned program and in every row, IS THE sha256 OF THE DUMP (.gsa) THAT YtdckgafgidfplaaProg.lean LOADS. Nothing in Lean hashes anything: it is a label: what it is worth is what the hold of that sum in a sandbox is worth. -/
noncomputable def Try.pinned : Pinned := { name := "ytdckgafgidfplaa", sum := "5f7072ecded191226bba1896b2e787d62d0b09f4c5155d7c55fbdf0fe2023a42", checked := Try.checked }
namespace Rows
def none {H : Type} : Left H := { results := [], args := [] }

/-- 'laws.FnExactDeepestStack': WHATEVER THE INPUT: true; the input reads as it did. -/
def fnExactDeepestStackSpec : ChangeSpec := { name := "fnExactDeepestStack", fn := fun _ => fun
  | [d1, d2] => { results := [.lit (.bool true)], args := [d1, d2] }
  | _ => none }
def fnExactDeepestStackRow : OpenClaim := { program := "ytdckgafgidfplaa", sum := "5f7072ecded191226bba1896b2e787d62d0b09f4c5155d7c55fbdf0fe2023a42", func := "loop.example/headtrees/laws.FnExactDeepestStack", spec := "fnExactDeepestStack", apart := false }
def FnExactDeepestStackSaid : Prop := fnExactDeepestStackRow.holds Try.pinned (OpenSpec.ofChange fnExactDeepestStackSpec)

/-- ITS FALSE NEIGHBOUR: 'it returns false'. Refute it at one input. -/
def fnExactDeepestStackWrong : ChangeSpec := { name := "fnExactDeepestStack", fn := fun _ => fun
  | [d1, d2] => { results := [.lit (.bool false)], args := [d1, d2] }
  | _ => none }
def FnExactDeepestStackWrongFalsely : Prop := fnExactDeepestStackRow.holds Try.pinned (OpenSpec.ofChange fnExactDeepestStackWrong)

/-- 'laws.FnDeepestStack': WHATEVER THE INPUT: true; the input reads as it did. -/
def fnDeepestStackSpec : ChangeSpec := { name := "fnDeepestStack", fn := fun _ => fun
  | [d] => { results := [.lit (.bool true)], args := [d] }
  | _ => none }
def fnDeepestStackRow : OpenClaim := { program := "ytdckgafgidfplaa", sum := "5f7072ecded191226bba1896b2e787d62d0b09f4c5155d7c55fbdf0fe2023a42", func := "loop.example/headtrees/laws.FnDeepestStack", spec := "fnDeepestStack", apart := false }
def FnDeepestStackSaid : Prop := fnDeepestStackRow.holds Try.pinned (OpenSpec.ofChange fnDeepestStackSpec)

/-- ITS FALSE NEIGHBOUR: 'it returns false'. Refute it at one input. -/
def fnDeepestStackWrong : ChangeSpec := { name := "fnDeepestStack", fn := fun _ => fun
  | [d] => { results := [.lit (.bool false)], args := [d] }
  | _ => none }
def FnDeepestStackWrongFalsely : Prop := fnDeepestStackRow.holds Try.pinned (OpenSpec.ofChange fnDeepestStackWrong)

/-- 'laws.FnExactRunStack': WHATEVER THE INPUT: true; the input reads as it did. -/
def fnExactRunStackSpec : ChangeSpec := { name := "fnExactRunStack", fn := fun _ => fun
  | [d1, d2] => { results := [.lit (.bool true)], args := [d1, d2] }
  | _ => none }
def fnExactRunStackRow : OpenClaim := { program := "ytdckgafgidfplaa", sum := "5f7072ecded191226bba1896b2e787d62d0b09f4c5155d7c55fbdf0fe2023a42", func := "loop.example/headtrees/laws.FnExactRunStack", spec := "fnExactRunStack", apart := false }
def FnExactRunStackSaid : Prop := fnExactRunStackRow.holds Try.pinned (OpenSpec.ofChange fnExactRunStackSpec)

/-- ITS FALSE NEIGHBOUR: 'it returns false'. Refute it at one input. -/
def fnExactRunStackWrong : ChangeSpec := { name := "fnExactRunStack", fn := fun _ => fun
  | [d1, d2] => { results := [.lit (.bool false)], args := [d1, d2] }
  | _ => none }
def FnExactRunStackWrongFalsely : Prop := fnExactRunStackRow.holds Try.pinned (OpenSpec.ofChange fnExactRunStackWrong)

/-- 'laws.FnRunStack': WHATEVER THE INPUT: true; the input reads as it did. -/
def fnRunStackSpec : ChangeSpec := { name := "fnRunStack", fn := fun _ => fun
  | [d] => { results := [.lit (.bool true)], args := [d] }
  | _ => none }
def fnRunStackRow : OpenClaim := { program := "ytdckgafgidfplaa", sum := "5f7072ecded191226bba1896b2e787d62d0b09f4c5155d7c55fbdf0fe2023a42", func := "loop.example/headtrees/laws.FnRunStack", spec := "fnRunStack", apart := false }
def FnRunStackSaid : Prop := fnRunStackRow.holds Try.pinned (OpenSpec.ofChange fnRunStackSpec)

/-- ITS FALSE NEIGHBOUR: 'it returns false'. Refute it at one input. -/
def fnRunStackWrong : ChangeSpec := { name := "fnRunStack", fn := fun _ => fun
  | [d] => { results := [.lit (.bool false)], args := [d] }
  | _ => none }
def FnRunStackWrongFalsely : Prop := fnRunStackRow.holds Try.pinned (OpenSpec.ofChange fnRunStackWrong)

/-- 'laws.FnExactMovesFor': WHATEVER THE INPUT: true; the input reads as it did. -/
def fnExactMovesForSpec : ChangeSpec := { name := "fnExactMovesFor", fn := fun _ => fun
  | [d] => { results := [.lit (.bool true)], args := [d] }
  | _ => none }
def fnExactMovesForRow : OpenClaim := { program := "ytdckgafgidfplaa", sum := "5f7072ecded191226bba1896b2e787d62d0b09f4c5155d7c55fbdf0fe2023a42", func := "loop.example/headtrees/laws.FnExactMovesFor", spec := "fnExactMovesFor", recurses := true, apart := false }
def FnExactMovesForSaid : Prop := fnExactMovesForRow.holds Try.pinned (OpenSpec.ofChange fnExactMovesForSpec)

/-- ITS FALSE NEIGHBOUR: 'it returns false'. Refute it at one input. -/
def fnExactMovesForWrong : ChangeSpec := { name := "fnExactMovesFor", fn := fun _ => fun
  | [d] => { results := [.lit (.bool false)], args := [d] }
  | _ => none }
def FnExactMovesForWrongFalsely : Prop := fnExactMovesForRow.holds Try.pinned (OpenSpec.ofChange fnExactMovesForWrong)

/-- 'laws.FnMovesFor': WHATEVER THE INPUT: true; the input reads as it did. -/
def fnMovesForSpec : ChangeSpec := { name := "fnMovesFor", fn := fun _ => fun
  | [d] => { results := [.lit (.bool true)], args := [d] }
  | _ => none }
def fnMovesForRow : OpenClaim := { program := "ytdckgafgidfplaa", sum := "5f7072ecded191226bba1896b2e787d62d0b09f4c5155d7c55fbdf0fe2023a42", func := "loop.example/headtrees/laws.FnMovesFor", spec := "fnMovesFor", recurses := true, apart := false }
def FnMovesForSaid : Prop := fnMovesForRow.holds Try.pinned (OpenSpec.ofChange fnMovesForSpec)

/-- ITS FALSE NEIGHBOUR: 'it returns false'. Refute it at one input. -/
def fnMovesForWrong : ChangeSpec := { name := "fnMovesFor", fn := fun _ => fun
  | [d] => { results := [.lit (.bool false)], args := [d] }
  | _ => none }
def FnMovesForWrongFalsely : Prop := fnMovesForRow.holds Try.pinned (OpenSpec.ofChange fnMovesForWrong)

/-- 'laws.FnExactRunEager': WHATEVER THE INPUT: true; the input reads as it did. -/
def fnExactRunEagerSpec : ChangeSpec := { name := "fnExactRunEager", fn := fun _ => fun
  | [d1, d2] => { results := [.lit (.bool true)], args := [d1, d2] }
  | _ => none }
def fnExactRunEagerRow : OpenClaim := { program := "ytdckgafgidfplaa", sum := "5f7072ecded191226bba1896b2e787d62d0b09f4c5155d7c55fbdf0fe2023a42", func := "loop.example/headtrees/laws.FnExactRunEager", spec := "fnExactRunEager", apart := false }
def FnExactRunEagerSaid : Prop := fnExactRunEagerRow.holds Try.pinned (OpenSpec.ofChange fnExactRunEagerSpec)

/-- ITS FALSE NEIGHBOUR: 'it returns false'. Refute it at one input. -/
def fnExactRunEagerWrong : ChangeSpec := { name := "fnExactRunEager", fn := fun _ => fun
  | [d1, d2] => { results := [.lit (.bool false)], args := [d1, d2] }
  | _ => none }
def FnExactRunEagerWrongFalsely : Prop := fnExactRunEagerRow.holds Try.pinned (OpenSpec.ofChange fnExactRunEagerWrong)

/-- 'laws.FnExactEagerFor': WHATEVER THE INPUT: true; the input reads as it did. -/
def fnExactEagerForSpec : ChangeSpec := { name := "fnExactEagerFor", fn := fun _ => fun
  | [d] => { results := [.lit (.bool true)], args := [d] }
  | _ => none }
def fnExactEagerForRow : OpenClaim := { program := "ytdckgafgidfplaa", sum := "5f7072ecded191226bba1896b2e787d62d0b09f4c5155d7c55fbdf0fe2023a42", func := "loop.example/headtrees/laws.FnExactEagerFor", spec := "fnExactEagerFor", unfollowed := true, recurses := true, apart := false }
def FnExactEagerForSaid : Prop := fnExactEagerForRow.holds Try.pinned (OpenSpec.ofChange fnExactEagerForSpec)

/-- ITS FALSE NEIGHBOUR: 'it returns false'. Refute it at one input. -/
def fnExactEagerForWrong : ChangeSpec := { name := "fnExactEagerFor", fn := fun _ => fun
  | [d] => { results := [.lit (.bool false)], args := [d] }
  | _ => none }
def FnExactEagerForWrongFalsely : Prop := fnExactEagerForRow.holds Try.pinned (OpenSpec.ofChange fnExactEagerForWrong)

/-- 'laws.FnEagerFor': WHATEVER THE INPUT: true; the input reads as it did. -/
def fnEagerForSpec : ChangeSpec := { name := "fnEagerFor", fn := fun _ => fun
  | [d] => { results := [.lit (.bool true)], args := [d] }
  | _ => none }
def fnEagerForRow : OpenClaim := { program := "ytdckgafgidfplaa", sum := "5f7072ecded191226bba1896b2e787d62d0b09f4c5155d7c55fbdf0fe2023a42", func := "loop.example/headtrees/laws.FnEagerFor", spec := "fnEagerFor", unfollowed := true, recurses := true, apart := false }
def FnEagerForSaid : Prop := fnEagerForRow.holds Try.pinned (OpenSpec.ofChange fnEagerForSpec)

/-- ITS FALSE NEIGHBOUR: 'it returns false'. Refute it at one input. -/
def fnEagerForWrong : ChangeSpec := { name := "fnEagerFor", fn := fun _ => fun
  | [d] => { results := [.lit (.bool false)], args := [d] }
  | _ => none }
def FnEagerForWrongFalsely : Prop := fnEagerForRow.holds Try.pinned (OpenSpec.ofChange fnEagerForWrong)

/-- 'laws.FnExactRowsOf': WHATEVER THE INPUT: true; the input reads as it did. -/
def fnExactRowsOfSpec : ChangeSpec := { name := "fnExactRowsOf", fn := fun _ => fun
  | [d1, d2] => { results := [.lit (.bool true)], args := [d1, d2] }
  | _ => none }
def fnExactRowsOfRow : OpenClaim := { program := "ytdckgafgidfplaa", sum := "5f7072ecded191226bba1896b2e787d62d0b09f4c5155d7c55fbdf0fe2023a42", func := "loop.example/headtrees/laws.FnExactRowsOf", spec := "fnExactRowsOf", recurses := true, apart := false }
def FnExactRowsOfSaid : Prop := fnExactRowsOfRow.holds Try.pinned (OpenSpec.ofChange fnExactRowsOfSpec)

/-- ITS FALSE NEIGHBOUR: 'it returns false'. Refute it at one input. -/
def fnExactRowsOfWrong : ChangeSpec := { name := "fnExactRowsOf", fn := fun _ => fun
  | [d1, d2] => { results := [.lit (.bool false)], args := [d1, d2] }
  | _ => none }
def FnExactRowsOfWrongFalsely : Prop := fnExactRowsOfRow.holds Try.pinned (OpenSpec.ofChange fnExactRowsOfWrong)

/-- 'laws.FnRowsOf': WHATEVER THE INPUT: true; the input reads as it did. -/
def fnRowsOfSpec : ChangeSpec := { name := "fnRowsOf", fn := fun _ => fun
  | [d] => { results := [.lit (.bool true)], args := [d] }
  | _ => none }
def fnRowsOfRow : OpenClaim := { program := "ytdckgafgidfplaa", sum := "5f7072ecded191226bba1896b2e787d62d0b09f4c5155d7c55fbdf0fe2023a42", func := "loop.example/headtrees/laws.FnRowsOf", spec := "fnRowsOf", recurses := true, apart := false }
def FnRowsOfSaid : Prop := fnRowsOfRow.holds Try.pinned (OpenSpec.ofChange fnRowsOfSpec)

/-- ITS FALSE NEIGHBOUR: 'it returns false'. Refute it at one input. -/
def fnRowsOfWrong : ChangeSpec := { name := "fnRowsOf", fn := fun _ => fun
  | [d] => { results := [.lit (.bool false)], args := [d] }
  | _ => none }
def FnRowsOfWrongFalsely : Prop := fnRowsOfRow.holds Try.pinned (OpenSpec.ofChange fnRowsOfWrong)

/-- 'laws.FnExactFlatAt': WHATEVER THE INPUT: true; the input reads as it did. -/
def fnExactFlatAtSpec : ChangeSpec := { name := "fnExactFlatAt", fn := fun _ => fun
  | [d1, d2] => { results := [.lit (.bool true)], args := [d1, d2] }
  | _ => none }
def fnExactFlatAtRow : OpenClaim := { program := "ytdckgafgidfplaa", sum := "5f7072ecded191226bba1896b2e787d62d0b09f4c5155d7c55fbdf0fe2023a42", func := "loop.example/headtrees/laws.FnExactFlatAt", spec := "fnExactFlatAt", recurses := true, apart := false }
def FnExactFlatAtSaid : Prop := fnExactFlatAtRow.holds Try.pinned (OpenSpec.ofChange fnExactFlatAtSpec)

/-- ITS FALSE NEIGHBOUR: 'it returns false'. Refute it at one input. -/
def fnExactFlatAtWrong : ChangeSpec := { name := "fnExactFlatAt", fn := fun _ => fun
  | [d1, d2] => { results := [.lit (.bool false)], args := [d1, d2] }
  | _ => none }
def FnExactFlatAtWrongFalsely : Prop := fnExactFlatAtRow.holds Try.pinned (OpenSpec.ofChange fnExactFlatAtWrong)

/- THE SECOND FORM. 'bulk': how many values and letters a reading holds, each counted each time it is reached (what is shared counts as often as it is met; a slice's spare places count too). A statement '..UptoSaid' is the law's where the arguments, and the package variables that the reading takes, are together of bulk at most 1048576: NARROWER than '..Said'. Prove '..Said' where nothing that the law and all that it calls make is longer than what came in: it says more and counts as full. Else prove '..UptoSaid'. A law counts once. -/
mutual
def uptoBulk {H : Type} : DataW H → Nat
  | .lit (.string bytes) => bytes.length + 1
  | .lit _ => 1
  | .nil => 1
  | .ptr d => uptoBulk d + 1
  | .slice elems spare => uptoBulkAll elems + uptoBulkAll spare + 1
  | .agg parts => uptoBulkAll parts + 1
  | .iface _ d => uptoBulk d + 1
  | .map entries => uptoBulkEntries entries + 1
  | .held _ => 1
def uptoBulkAll {H : Type} : List (DataW H) → Nat
  | [] => 0
  | d :: r => uptoBulk d + uptoBulkAll r
def uptoBulkEntries {H : Type} : List (Lit × DataW H) → Nat
  | [] => 0
  | x :: r => uptoBulkEntry x + uptoBulkEntries r
def uptoBulkEntry {H : Type} : Lit × DataW H → Nat
  | (.string bytes, d) => bytes.length + uptoBulk d + 1
  | (_, d) => uptoBulk d + 1
 end
def uptoSmall : (H : Type) → List (DataW H) → Bool := fun _ ds => decide (uptoBulkAll ds ≤ 1048576)
def OpenSpec.upto (s : _root_.Go.ChangeSpec) : _root_.Go.OpenSpec := { _root_.Go.OpenSpec.ofChange s with cond := some uptoSmall }

/-- 'laws.FnExactDeepestStack', WHERE WHAT IT READS IS OF BULK AT MOST 1048576: true; the input reads as it did. -/
def fnExactDeepestStackUptoRow : OpenClaim := { program := "ytdckgafgidfplaa", sum := "5f7072ecded191226bba1896b2e787d62d0b09f4c5155d7c55fbdf0fe2023a42", func := "loop.example/headtrees/laws.FnExactDeepestStack", spec := "fnExactDeepestStack", apart := false, narrowed := true }
def FnExactDeepestStackUptoSaid : Prop := fnExactDeepestStackUptoRow.holds Try.pinned (OpenSpec.upto fnExactDeepestStackSpec)

/-- 'laws.FnDeepestStack', WHERE WHAT IT READS IS OF BULK AT MOST 1048576: true; the input reads as it did. -/
def fnDeepestStackUptoRow : OpenClaim := { program := "ytdckgafgidfplaa", sum := "5f7072ecded191226bba1896b2e787d62d0b09f4c5155d7c55fbdf0fe2023a42", func := "loop.example/headtrees/laws.FnDeepestStack", spec := "fnDeepestStack", apart := false, narrowed := true }
def FnDeepestStackUptoSaid : Prop := fnDeepestStackUptoRow.holds Try.pinned (OpenSpec.upto fnDeepestStackSpec)

/-- 'laws.FnExactRunStack', WHERE WHAT IT READS IS OF BULK AT MOST 1048576: true; the input reads as it did. -/
def fnExactRunStackUptoRow : OpenClaim := { program := "ytdckgafgidfplaa", sum := "5f7072ecded191226bba1896b2e787d62d0b09f4c5155d7c55fbdf0fe2023a42", func := "loop.example/headtrees/laws.FnExactRunStack", spec := "fnExactRunStack", apart := false, narrowed := true }
def FnExactRunStackUptoSaid : Prop := fnExactRunStackUptoRow.holds Try.pinned (OpenSpec.upto fnExactRunStackSpec)

/-- 'laws.FnRunStack', WHERE WHAT IT READS IS OF BULK AT MOST 1048576: true; the input reads as it did. -/
def fnRunStackUptoRow : OpenClaim := { program := "ytdckgafgidfplaa", sum := "5f7072ecded191226bba1896b2e787d62d0b09f4c5155d7c55fbdf0fe2023a42", func := "loop.example/headtrees/laws.FnRunStack", spec := "fnRunStack", apart := false, narrowed := true }
def FnRunStackUptoSaid : Prop := fnRunStackUptoRow.holds Try.pinned (OpenSpec.upto fnRunStackSpec)

/-- 'laws.FnExactMovesFor', WHERE WHAT IT READS IS OF BULK AT MOST 1048576: true; the input reads as it did. -/
def fnExactMovesForUptoRow : OpenClaim := { program := "ytdckgafgidfplaa", sum := "5f7072ecded191226bba1896b2e787d62d0b09f4c5155d7c55fbdf0fe2023a42", func := "loop.example/headtrees/laws.FnExactMovesFor", spec := "fnExactMovesFor", recurses := true, apart := false, narrowed := true }
def FnExactMovesForUptoSaid : Prop := fnExactMovesForUptoRow.holds Try.pinned (OpenSpec.upto fnExactMovesForSpec)

/-- 'laws.FnMovesFor', WHERE WHAT IT READS IS OF BULK AT MOST 1048576: true; the input reads as it did. -/
def fnMovesForUptoRow : OpenClaim := { program := "ytdckgafgidfplaa", sum := "5f7072ecded191226bba1896b2e787d62d0b09f4c5155d7c55fbdf0fe2023a42", func := "loop.example/headtrees/laws.FnMovesFor", spec := "fnMovesFor", recurses := true, apart := false, narrowed := true }
def FnMovesForUptoSaid : Prop := fnMovesForUptoRow.holds Try.pinned (OpenSpec.upto fnMovesForSpec)

/-- 'laws.FnExactRunEager', WHERE WHAT IT READS IS OF BULK AT MOST 1048576: true; the input reads as it did. -/
def fnExactRunEagerUptoRow : OpenClaim := { program := "ytdckgafgidfplaa", sum := "5f7072ecded191226bba1896b2e787d62d0b09f4c5155d7c55fbdf0fe2023a42", func := "loop.example/headtrees/laws.FnExactRunEager", spec := "fnExactRunEager", apart := false, narrowed := true }
def FnExactRunEagerUptoSaid : Prop := fnExactRunEagerUptoRow.holds Try.pinned (OpenSpec.upto fnExactRunEagerSpec)

/-- 'laws.FnExactEagerFor', WHERE WHAT IT READS IS OF BULK AT MOST 1048576: true; the input reads as it did. -/
def fnExactEagerForUptoRow : OpenClaim := { program := "ytdckgafgidfplaa", sum := "5f7072ecded191226bba1896b2e787d62d0b09f4c5155d7c55fbdf0fe2023a42", func := "loop.example/headtrees/laws.FnExactEagerFor", spec := "fnExactEagerFor", unfollowed := true, recurses := true, apart := false, narrowed := true }
def FnExactEagerForUptoSaid : Prop := fnExactEagerForUptoRow.holds Try.pinned (OpenSpec.upto fnExactEagerForSpec)

/-- 'laws.FnEagerFor', WHERE WHAT IT READS IS OF BULK AT MOST 1048576: true; the input reads as it did. -/
def fnEagerForUptoRow : OpenClaim := { program := "ytdckgafgidfplaa", sum := "5f7072ecded191226bba1896b2e787d62d0b09f4c5155d7c55fbdf0fe2023a42", func := "loop.example/headtrees/laws.FnEagerFor", spec := "fnEagerFor", unfollowed := true, recurses := true, apart := false, narrowed := true }
def FnEagerForUptoSaid : Prop := fnEagerForUptoRow.holds Try.pinned (OpenSpec.upto fnEagerForSpec)

/-- 'laws.FnExactRowsOf', WHERE WHAT IT READS IS OF BULK AT MOST 1048576: true; the input reads as it did. -/
def fnExactRowsOfUptoRow : OpenClaim := { program := "ytdckgafgidfplaa", sum := "5f7072ecded191226bba1896b2e787d62d0b09f4c5155d7c55fbdf0fe2023a42", func := "loop.example/headtrees/laws.FnExactRowsOf", spec := "fnExactRowsOf", recurses := true, apart := false, narrowed := true }
def FnExactRowsOfUptoSaid : Prop := fnExactRowsOfUptoRow.holds Try.pinned (OpenSpec.upto fnExactRowsOfSpec)

/-- 'laws.FnRowsOf', WHERE WHAT IT READS IS OF BULK AT MOST 1048576: true; the input reads as it did. -/
def fnRowsOfUptoRow : OpenClaim := { program := "ytdckgafgidfplaa", sum := "5f7072ecded191226bba1896b2e787d62d0b09f4c5155d7c55fbdf0fe2023a42", func := "loop.example/headtrees/laws.FnRowsOf", spec := "fnRowsOf", recurses := true, apart := false, narrowed := true }
def FnRowsOfUptoSaid : Prop := fnRowsOfUptoRow.holds Try.pinned (OpenSpec.upto fnRowsOfSpec)

/-- 'laws.FnExactFlatAt', WHERE WHAT IT READS IS OF BULK AT MOST 1048576: true; the input reads as it did. -/
def fnExactFlatAtUptoRow : OpenClaim := { program := "ytdckgafgidfplaa", sum := "5f7072ecded191226bba1896b2e787d62d0b09f4c5155d7c55fbdf0fe2023a42", func := "loop.example/headtrees/laws.FnExactFlatAt", spec := "fnExactFlatAt", recurses := true, apart := false, narrowed := true }
def FnExactFlatAtUptoSaid : Prop := fnExactFlatAtUptoRow.holds Try.pinned (OpenSpec.upto fnExactFlatAtSpec)

end Rows
end Go.Proofs.Ytdckgafgidfplaa
