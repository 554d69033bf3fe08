/-
  No cell of these rows narrows 'for every input' (looked for: loops, veiled, ifaces, maps, wideKeys, modest, calm, conditions, laid).
  DERIVED. THE GIVEN ROWS OF THIS SEAT. 7 by the template 'for every input the law returns true; each argument reads behind the call as it read before'; 0 by the template 'total and deterministic' (their statements: YtafkabhnldahdaaTotals.lean).
  GIVEN WITH THE SEED: the statements are not yours to turn. If you find one false, say at which input.
  Laid BY PROGRAM, IN A SANDBOX (cutbox-rows.mjs): the forced cells as the released guide's own fill.sh prints them over the translation d71b88aa0d566452… (all of the seat's roots in one cut). By AI agents, Wed Nov 11 2026. No macro, syntax, notation, axiom, sorry.
-/
import Derived.Test.YtafkabhnldahdaaChecked
import GoSem.Claim
import GoSem.ClaimJoined
import GoSem.ClaimMapViews
import Derived.JoinedTies
import Derived.KernelRfl
namespace Go.Proofs.Ytafkabhnldahdaa
/- THE CELL 'sum', in the pinned program and in every row, IS THE sha256 OF THE DUMP (.gsa) THAT YtafkabhnldahdaaProg.lean LOADS. Nothing in Lean hashes anything: it is a label: what it is worth is what the hold of that sum in a sandbox is worth. -/
noncomputable def Try.pinned : Pinned := { name := "ytafkabhnldahdaa", sum := "d71b88aa0d566452104c3b0534e9c7b37316ca3815c55eb40377be6cd76c29d4", checked := Try.checked }
namespace Rows
def none {H : Type} : Left H := { results := [], args := [] }

/-- 'laws.FnTurnsOk': WHATEVER THE INPUT: true; the input reads as it did. -/
def fnTurnsOkSpec : ChangeSpec := { name := "fnTurnsOk", fn := fun _ => fun
  | [d] => { results := [.lit (.bool true)], args := [d] }
  | _ => none }
def fnTurnsOkRow : OpenClaim := { program := "ytafkabhnldahdaa", sum := "d71b88aa0d566452104c3b0534e9c7b37316ca3815c55eb40377be6cd76c29d4", func := "loop.example/headtrees/laws.FnTurnsOk", spec := "fnTurnsOk", recurses := true, apart := false }
def FnTurnsOkSaid : Prop := fnTurnsOkRow.holds Try.pinned (OpenSpec.ofChange fnTurnsOkSpec)

/-- ITS FALSE NEIGHBOUR: 'it returns false'. Refute it at one input. -/
def fnTurnsOkWrong : ChangeSpec := { name := "fnTurnsOk", fn := fun _ => fun
  | [d] => { results := [.lit (.bool false)], args := [d] }
  | _ => none }
def FnTurnsOkWrongFalsely : Prop := fnTurnsOkRow.holds Try.pinned (OpenSpec.ofChange fnTurnsOkWrong)

/-- 'laws.FnGapsOf': WHATEVER THE INPUT: true; the input reads as it did. -/
def fnGapsOfSpec : ChangeSpec := { name := "fnGapsOf", fn := fun _ => fun
  | [d] => { results := [.lit (.bool true)], args := [d] }
  | _ => none }
def fnGapsOfRow : OpenClaim := { program := "ytafkabhnldahdaa", sum := "d71b88aa0d566452104c3b0534e9c7b37316ca3815c55eb40377be6cd76c29d4", func := "loop.example/headtrees/laws.FnGapsOf", spec := "fnGapsOf", recurses := true, apart := false }
def FnGapsOfSaid : Prop := fnGapsOfRow.holds Try.pinned (OpenSpec.ofChange fnGapsOfSpec)

/-- ITS FALSE NEIGHBOUR: 'it returns false'. Refute it at one input. -/
def fnGapsOfWrong : ChangeSpec := { name := "fnGapsOf", fn := fun _ => fun
  | [d] => { results := [.lit (.bool false)], args := [d] }
  | _ => none }
def FnGapsOfWrongFalsely : Prop := fnGapsOfRow.holds Try.pinned (OpenSpec.ofChange fnGapsOfWrong)

/-- 'laws.FnMostGaps': WHATEVER THE INPUT: true; the input reads as it did. -/
def fnMostGapsSpec : ChangeSpec := { name := "fnMostGaps", fn := fun _ => fun
  | [d] => { results := [.lit (.bool true)], args := [d] }
  | _ => none }
def fnMostGapsRow : OpenClaim := { program := "ytafkabhnldahdaa", sum := "d71b88aa0d566452104c3b0534e9c7b37316ca3815c55eb40377be6cd76c29d4", func := "loop.example/headtrees/laws.FnMostGaps", spec := "fnMostGaps", recurses := true, apart := false }
def FnMostGapsSaid : Prop := fnMostGapsRow.holds Try.pinned (OpenSpec.ofChange fnMostGapsSpec)

/-- ITS FALSE NEIGHBOUR: 'it returns false'. Refute it at one input. -/
def fnMostGapsWrong : ChangeSpec := { name := "fnMostGaps", fn := fun _ => fun
  | [d] => { results := [.lit (.bool false)], args := [d] }
  | _ => none }
def FnMostGapsWrongFalsely : Prop := fnMostGapsRow.holds Try.pinned (OpenSpec.ofChange fnMostGapsWrong)

/-- 'laws.FnMovesFor': WHATEVER THE INPUT: true; the input reads as it did. -/
def fnMovesForSpec : ChangeSpec := { name := "fnMovesFor", fn := fun _ => fun
  | [d] => { results := [.lit (.bool true)], args := [d] }
  | _ => none }
def fnMovesForRow : OpenClaim := { program := "ytafkabhnldahdaa", sum := "d71b88aa0d566452104c3b0534e9c7b37316ca3815c55eb40377be6cd76c29d4", func := "loop.example/headtrees/laws.FnMovesFor", spec := "fnMovesFor", recurses := true, apart := false }
def FnMovesForSaid : Prop := fnMovesForRow.holds Try.pinned (OpenSpec.ofChange fnMovesForSpec)

/-- ITS FALSE NEIGHBOUR: 'it returns false'. Refute it at one input. -/
def fnMovesForWrong : ChangeSpec := { name := "fnMovesFor", fn := fun _ => fun
  | [d] => { results := [.lit (.bool false)], args := [d] }
  | _ => none }
def FnMovesForWrongFalsely : Prop := fnMovesForRow.holds Try.pinned (OpenSpec.ofChange fnMovesForWrong)

/-- 'laws.FnNestedOk': WHATEVER THE INPUT: true; the input reads as it did. -/
def fnNestedOkSpec : ChangeSpec := { name := "fnNestedOk", fn := fun _ => fun
  | [d] => { results := [.lit (.bool true)], args := [d] }
  | _ => none }
def fnNestedOkRow : OpenClaim := { program := "ytafkabhnldahdaa", sum := "d71b88aa0d566452104c3b0534e9c7b37316ca3815c55eb40377be6cd76c29d4", func := "loop.example/headtrees/laws.FnNestedOk", spec := "fnNestedOk", recurses := true, apart := false }
def FnNestedOkSaid : Prop := fnNestedOkRow.holds Try.pinned (OpenSpec.ofChange fnNestedOkSpec)

/-- ITS FALSE NEIGHBOUR: 'it returns false'. Refute it at one input. -/
def fnNestedOkWrong : ChangeSpec := { name := "fnNestedOk", fn := fun _ => fun
  | [d] => { results := [.lit (.bool false)], args := [d] }
  | _ => none }
def FnNestedOkWrongFalsely : Prop := fnNestedOkRow.holds Try.pinned (OpenSpec.ofChange fnNestedOkWrong)

/-- 'laws.FnEagerFor': WHATEVER THE INPUT: true; the input reads as it did. -/
def fnEagerForSpec : ChangeSpec := { name := "fnEagerFor", fn := fun _ => fun
  | [d] => { results := [.lit (.bool true)], args := [d] }
  | _ => none }
def fnEagerForRow : OpenClaim := { program := "ytafkabhnldahdaa", sum := "d71b88aa0d566452104c3b0534e9c7b37316ca3815c55eb40377be6cd76c29d4", func := "loop.example/headtrees/laws.FnEagerFor", spec := "fnEagerFor", unfollowed := true, recurses := true, apart := false }
def FnEagerForSaid : Prop := fnEagerForRow.holds Try.pinned (OpenSpec.ofChange fnEagerForSpec)

/-- ITS FALSE NEIGHBOUR: 'it returns false'. Refute it at one input. -/
def fnEagerForWrong : ChangeSpec := { name := "fnEagerFor", fn := fun _ => fun
  | [d] => { results := [.lit (.bool false)], args := [d] }
  | _ => none }
def FnEagerForWrongFalsely : Prop := fnEagerForRow.holds Try.pinned (OpenSpec.ofChange fnEagerForWrong)

/-- 'laws.FnPlaceOf': WHATEVER THE INPUT: true; the input reads as it did. -/
def fnPlaceOfSpec : ChangeSpec := { name := "fnPlaceOf", fn := fun _ => fun
  | [d] => { results := [.lit (.bool true)], args := [d] }
  | _ => none }
def fnPlaceOfRow : OpenClaim := { program := "ytafkabhnldahdaa", sum := "d71b88aa0d566452104c3b0534e9c7b37316ca3815c55eb40377be6cd76c29d4", func := "loop.example/headtrees/laws.FnPlaceOf", spec := "fnPlaceOf", unfollowed := true, recurses := true, apart := false }
def FnPlaceOfSaid : Prop := fnPlaceOfRow.holds Try.pinned (OpenSpec.ofChange fnPlaceOfSpec)

/-- ITS FALSE NEIGHBOUR: 'it returns false'. Refute it at one input. -/
def fnPlaceOfWrong : ChangeSpec := { name := "fnPlaceOf", fn := fun _ => fun
  | [d] => { results := [.lit (.bool false)], args := [d] }
  | _ => none }
def FnPlaceOfWrongFalsely : Prop := fnPlaceOfRow.holds Try.pinned (OpenSpec.ofChange fnPlaceOfWrong)

/- THE SECOND FORM. 'bulk': how many values and letters a reading holds, each counted each time it is reached (what is shared counts as often as it is met; a slice's spare places count too). A statement '..UptoSaid' is the law's where the arguments, and the package variables that the reading takes, are together of bulk at most 1048576: NARROWER than '..Said'. Prove '..Said' where nothing that the law and all that it calls make is longer than what came in: it says more and counts as full. Else prove '..UptoSaid'. A law counts once. -/
mutual
def uptoBulk {H : Type} : DataW H → Nat
  | .lit (.string bytes) => bytes.length + 1
  | .lit _ => 1
  | .nil => 1
  | .ptr d => uptoBulk d + 1
  | .slice elems spare => uptoBulkAll elems + uptoBulkAll spare + 1
  | .agg parts => uptoBulkAll parts + 1
  | .iface _ d => uptoBulk d + 1
  | .map entries => uptoBulkEntries entries + 1
  | .held _ => 1
def uptoBulkAll {H : Type} : List (DataW H) → Nat
  | [] => 0
  | d :: r => uptoBulk d + uptoBulkAll r
def uptoBulkEntries {H : Type} : List (Lit × DataW H) → Nat
  | [] => 0
  | x :: r => uptoBulkEntry x + uptoBulkEntries r
def uptoBulkEntry {H : Type} : Lit × DataW H → Nat
  | (.string bytes, d) => bytes.length + uptoBulk d + 1
  | (_, d) => uptoBulk d + 1
 end
def uptoSmall : (H : Type) → List (DataW H) → Bool := fun _ ds => decide (uptoBulkAll ds ≤ 1048576)
def OpenSpec.upto (s : _root_.Go.ChangeSpec) : _root_.Go.OpenSpec := { _root_.Go.OpenSpec.ofChange s with cond := some uptoSmall }

/-- 'laws.FnTurnsOk', WHERE WHAT IT READS IS OF BULK AT MOST 1048576: true; the input reads as it did. -/
def fnTurnsOkUptoRow : OpenClaim := { program := "ytafkabhnldahdaa", sum := "d71b88aa0d566452104c3b0534e9c7b37316ca3815c55eb40377be6cd76c29d4", func := "loop.example/headtrees/laws.FnTurnsOk", spec := "fnTurnsOk", recurses := true, apart := false, narrowed := true }
def FnTurnsOkUptoSaid : Prop := fnTurnsOkUptoRow.holds Try.pinned (OpenSpec.upto fnTurnsOkSpec)

/-- 'laws.FnGapsOf', WHERE WHAT IT READS IS OF BULK AT MOST 1048576: true; the input reads as it did. -/
def fnGapsOfUptoRow : OpenClaim := { program := "ytafkabhnldahdaa", sum := "d71b88aa0d566452104c3b0534e9c7b37316ca3815c55eb40377be6cd76c29d4", func := "loop.example/headtrees/laws.FnGapsOf", spec := "fnGapsOf", recurses := true, apart := false, narrowed := true }
def FnGapsOfUptoSaid : Prop := fnGapsOfUptoRow.holds Try.pinned (OpenSpec.upto fnGapsOfSpec)

/-- 'laws.FnMostGaps', WHERE WHAT IT READS IS OF BULK AT MOST 1048576: true; the input reads as it did. -/
def fnMostGapsUptoRow : OpenClaim := { program := "ytafkabhnldahdaa", sum := "d71b88aa0d566452104c3b0534e9c7b37316ca3815c55eb40377be6cd76c29d4", func := "loop.example/headtrees/laws.FnMostGaps", spec := "fnMostGaps", recurses := true, apart := false, narrowed := true }
def FnMostGapsUptoSaid : Prop := fnMostGapsUptoRow.holds Try.pinned (OpenSpec.upto fnMostGapsSpec)

/-- 'laws.FnMovesFor', WHERE WHAT IT READS IS OF BULK AT MOST 1048576: true; the input reads as it did. -/
def fnMovesForUptoRow : OpenClaim := { program := "ytafkabhnldahdaa", sum := "d71b88aa0d566452104c3b0534e9c7b37316ca3815c55eb40377be6cd76c29d4", func := "loop.example/headtrees/laws.FnMovesFor", spec := "fnMovesFor", recurses := true, apart := false, narrowed := true }
def FnMovesForUptoSaid : Prop := fnMovesForUptoRow.holds Try.pinned (OpenSpec.upto fnMovesForSpec)

/-- 'laws.FnNestedOk', WHERE WHAT IT READS IS OF BULK AT MOST 1048576: true; the input reads as it did. -/
def fnNestedOkUptoRow : OpenClaim := { program := "ytafkabhnldahdaa", sum := "d71b88aa0d566452104c3b0534e9c7b37316ca3815c55eb40377be6cd76c29d4", func := "loop.example/headtrees/laws.FnNestedOk", spec := "fnNestedOk", recurses := true, apart := false, narrowed := true }
def FnNestedOkUptoSaid : Prop := fnNestedOkUptoRow.holds Try.pinned (OpenSpec.upto fnNestedOkSpec)

/-- 'laws.FnEagerFor', WHERE WHAT IT READS IS OF BULK AT MOST 1048576: true; the input reads as it did. -/
def fnEagerForUptoRow : OpenClaim := { program := "ytafkabhnldahdaa", sum := "d71b88aa0d566452104c3b0534e9c7b37316ca3815c55eb40377be6cd76c29d4", func := "loop.example/headtrees/laws.FnEagerFor", spec := "fnEagerFor", unfollowed := true, recurses := true, apart := false, narrowed := true }
def FnEagerForUptoSaid : Prop := fnEagerForUptoRow.holds Try.pinned (OpenSpec.upto fnEagerForSpec)

/-- 'laws.FnPlaceOf', WHERE WHAT IT READS IS OF BULK AT MOST 1048576: true; the input reads as it did. -/
def fnPlaceOfUptoRow : OpenClaim := { program := "ytafkabhnldahdaa", sum := "d71b88aa0d566452104c3b0534e9c7b37316ca3815c55eb40377be6cd76c29d4", func := "loop.example/headtrees/laws.FnPlaceOf", spec := "fnPlaceOf", unfollowed := true, recurses := true, apart := false, narrowed := true }
def FnPlaceOfUptoSaid : Prop := fnPlaceOfUptoRow.holds Try.pinned (OpenSpec.upto fnPlaceOfSpec)

end Rows
end Go.Proofs.Ytafkabhnldahdaa
