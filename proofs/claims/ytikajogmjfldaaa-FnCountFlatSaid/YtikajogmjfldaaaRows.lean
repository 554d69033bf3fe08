/-
  No cell of these rows narrows 'for every input' (looked for: loops, veiled, ifaces, maps, wideKeys, modest, calm, conditions, laid).
  DERIVED. THE GIVEN ROWS OF THIS SEAT. 12 by the template 'for every input the law returns true; each argument reads behind the call as it read before'; 0 by the template 'total and deterministic' (their statements: YtikajogmjfldaaaTotals.lean).
  GIVEN WITH THE SEED: the statements are not yours to turn. If you find one false, say at which input.
  Laid BY PROGRAM, IN A SANDBOX (cutbox-rows.mjs): the forced cells as the released guide's own fill.sh prints them over the translation dab1a3c9ca75954b… (all of the seat's roots in one cut). By AI agents, Wed Nov 11 2026. No macro, syntax, notation, axiom, sorry.
-/
import Derived.Test.YtikajogmjfldaaaChecked
import GoSem.Claim
import GoSem.ClaimJoined
import GoSem.ClaimMapViews
import Derived.JoinedTies
import Derived.KernelRfl
namespace Go.Proofs.Ytikajogmjfldaaa
/- THE CELL 'sum', in the pinned program and in every row, IS THE sha256 OF THE DUMP (.gsa) THAT YtikajogmjfldaaaProg.lean LOADS. Nothing in Lean hashes anything: it is a label: what it is worth is what the hold of that sum in a sandbox is worth. -/
noncomputable def Try.pinned : Pinned := { name := "ytikajogmjfldaaa", sum := "dab1a3c9ca75954b6e43b02465d5ec08de148c278e8e3d1957737c0e8f45bd5a", checked := Try.checked }
namespace Rows
def none {H : Type} : Left H := { results := [], args := [] }

/-- 'laws.FnExactCoveredOk': WHATEVER THE INPUT: true; the input reads as it did. -/
def fnExactCoveredOkSpec : ChangeSpec := { name := "fnExactCoveredOk", fn := fun _ => fun
  | [d1, d2] => { results := [.lit (.bool true)], args := [d1, d2] }
  | _ => none }
def fnExactCoveredOkRow : OpenClaim := { program := "ytikajogmjfldaaa", sum := "dab1a3c9ca75954b6e43b02465d5ec08de148c278e8e3d1957737c0e8f45bd5a", func := "loop.example/headtrees/laws.FnExactCoveredOk", spec := "fnExactCoveredOk", apart := false }
def FnExactCoveredOkSaid : Prop := fnExactCoveredOkRow.holds Try.pinned (OpenSpec.ofChange fnExactCoveredOkSpec)

/-- ITS FALSE NEIGHBOUR: 'it returns false'. Refute it at one input. -/
def fnExactCoveredOkWrong : ChangeSpec := { name := "fnExactCoveredOk", fn := fun _ => fun
  | [d1, d2] => { results := [.lit (.bool false)], args := [d1, d2] }
  | _ => none }
def FnExactCoveredOkWrongFalsely : Prop := fnExactCoveredOkRow.holds Try.pinned (OpenSpec.ofChange fnExactCoveredOkWrong)

/-- 'laws.FnExactMeetOf': WHATEVER THE INPUT: true; the input reads as it did. -/
def fnExactMeetOfSpec : ChangeSpec := { name := "fnExactMeetOf", fn := fun _ => fun
  | [d1, d2, d3] => { results := [.lit (.bool true)], args := [d1, d2, d3] }
  | _ => none }
def fnExactMeetOfRow : OpenClaim := { program := "ytikajogmjfldaaa", sum := "dab1a3c9ca75954b6e43b02465d5ec08de148c278e8e3d1957737c0e8f45bd5a", func := "loop.example/headtrees/laws.FnExactMeetOf", spec := "fnExactMeetOf", recurses := true, apart := false }
def FnExactMeetOfSaid : Prop := fnExactMeetOfRow.holds Try.pinned (OpenSpec.ofChange fnExactMeetOfSpec)

/-- ITS FALSE NEIGHBOUR: 'it returns false'. Refute it at one input. -/
def fnExactMeetOfWrong : ChangeSpec := { name := "fnExactMeetOf", fn := fun _ => fun
  | [d1, d2, d3] => { results := [.lit (.bool false)], args := [d1, d2, d3] }
  | _ => none }
def FnExactMeetOfWrongFalsely : Prop := fnExactMeetOfRow.holds Try.pinned (OpenSpec.ofChange fnExactMeetOfWrong)

/-- 'laws.FnExactDependsOf': WHATEVER THE INPUT: true; the input reads as it did. -/
def fnExactDependsOfSpec : ChangeSpec := { name := "fnExactDependsOf", fn := fun _ => fun
  | [d1, d2] => { results := [.lit (.bool true)], args := [d1, d2] }
  | _ => none }
def fnExactDependsOfRow : OpenClaim := { program := "ytikajogmjfldaaa", sum := "dab1a3c9ca75954b6e43b02465d5ec08de148c278e8e3d1957737c0e8f45bd5a", func := "loop.example/headtrees/laws.FnExactDependsOf", spec := "fnExactDependsOf", apart := false }
def FnExactDependsOfSaid : Prop := fnExactDependsOfRow.holds Try.pinned (OpenSpec.ofChange fnExactDependsOfSpec)

/-- ITS FALSE NEIGHBOUR: 'it returns false'. Refute it at one input. -/
def fnExactDependsOfWrong : ChangeSpec := { name := "fnExactDependsOf", fn := fun _ => fun
  | [d1, d2] => { results := [.lit (.bool false)], args := [d1, d2] }
  | _ => none }
def FnExactDependsOfWrongFalsely : Prop := fnExactDependsOfRow.holds Try.pinned (OpenSpec.ofChange fnExactDependsOfWrong)

/-- 'laws.FnExactDepthOf': WHATEVER THE INPUT: true; the input reads as it did. -/
def fnExactDepthOfSpec : ChangeSpec := { name := "fnExactDepthOf", fn := fun _ => fun
  | [d] => { results := [.lit (.bool true)], args := [d] }
  | _ => none }
def fnExactDepthOfRow : OpenClaim := { program := "ytikajogmjfldaaa", sum := "dab1a3c9ca75954b6e43b02465d5ec08de148c278e8e3d1957737c0e8f45bd5a", func := "loop.example/headtrees/laws.FnExactDepthOf", spec := "fnExactDepthOf", apart := false }
def FnExactDepthOfSaid : Prop := fnExactDepthOfRow.holds Try.pinned (OpenSpec.ofChange fnExactDepthOfSpec)

/-- ITS FALSE NEIGHBOUR: 'it returns false'. Refute it at one input. -/
def fnExactDepthOfWrong : ChangeSpec := { name := "fnExactDepthOf", fn := fun _ => fun
  | [d] => { results := [.lit (.bool false)], args := [d] }
  | _ => none }
def FnExactDepthOfWrongFalsely : Prop := fnExactDepthOfRow.holds Try.pinned (OpenSpec.ofChange fnExactDepthOfWrong)

/-- 'laws.FnExactRunStack': WHATEVER THE INPUT: true; the input reads as it did. -/
def fnExactRunStackSpec : ChangeSpec := { name := "fnExactRunStack", fn := fun _ => fun
  | [d1, d2] => { results := [.lit (.bool true)], args := [d1, d2] }
  | _ => none }
def fnExactRunStackRow : OpenClaim := { program := "ytikajogmjfldaaa", sum := "dab1a3c9ca75954b6e43b02465d5ec08de148c278e8e3d1957737c0e8f45bd5a", func := "loop.example/headtrees/laws.FnExactRunStack", spec := "fnExactRunStack", apart := false }
def FnExactRunStackSaid : Prop := fnExactRunStackRow.holds Try.pinned (OpenSpec.ofChange fnExactRunStackSpec)

/-- ITS FALSE NEIGHBOUR: 'it returns false'. Refute it at one input. -/
def fnExactRunStackWrong : ChangeSpec := { name := "fnExactRunStack", fn := fun _ => fun
  | [d1, d2] => { results := [.lit (.bool false)], args := [d1, d2] }
  | _ => none }
def FnExactRunStackWrongFalsely : Prop := fnExactRunStackRow.holds Try.pinned (OpenSpec.ofChange fnExactRunStackWrong)

/-- 'laws.FnCountFlat': WHATEVER THE INPUT: true; the input reads as it did. -/
def fnCountFlatSpec : ChangeSpec := { name := "fnCountFlat", fn := fun _ => fun
  | [d] => { results := [.lit (.bool true)], args := [d] }
  | _ => none }
def fnCountFlatRow : OpenClaim := { program := "ytikajogmjfldaaa", sum := "dab1a3c9ca75954b6e43b02465d5ec08de148c278e8e3d1957737c0e8f45bd5a", func := "loop.example/headtrees/laws.FnCountFlat", spec := "fnCountFlat", recurses := true, apart := false }
def FnCountFlatSaid : Prop := fnCountFlatRow.holds Try.pinned (OpenSpec.ofChange fnCountFlatSpec)

/-- ITS FALSE NEIGHBOUR: 'it returns false'. Refute it at one input. -/
def fnCountFlatWrong : ChangeSpec := { name := "fnCountFlat", fn := fun _ => fun
  | [d] => { results := [.lit (.bool false)], args := [d] }
  | _ => none }
def FnCountFlatWrongFalsely : Prop := fnCountFlatRow.holds Try.pinned (OpenSpec.ofChange fnCountFlatWrong)

/-- 'laws.FnExactSidesOf': WHATEVER THE INPUT: true; the input reads as it did. -/
def fnExactSidesOfSpec : ChangeSpec := { name := "fnExactSidesOf", fn := fun _ => fun
  | [d1, d2] => { results := [.lit (.bool true)], args := [d1, d2] }
  | _ => none }
def fnExactSidesOfRow : OpenClaim := { program := "ytikajogmjfldaaa", sum := "dab1a3c9ca75954b6e43b02465d5ec08de148c278e8e3d1957737c0e8f45bd5a", func := "loop.example/headtrees/laws.FnExactSidesOf", spec := "fnExactSidesOf", apart := false }
def FnExactSidesOfSaid : Prop := fnExactSidesOfRow.holds Try.pinned (OpenSpec.ofChange fnExactSidesOfSpec)

/-- ITS FALSE NEIGHBOUR: 'it returns false'. Refute it at one input. -/
def fnExactSidesOfWrong : ChangeSpec := { name := "fnExactSidesOf", fn := fun _ => fun
  | [d1, d2] => { results := [.lit (.bool false)], args := [d1, d2] }
  | _ => none }
def FnExactSidesOfWrongFalsely : Prop := fnExactSidesOfRow.holds Try.pinned (OpenSpec.ofChange fnExactSidesOfWrong)

/-- 'laws.FnExactFlatOk': WHATEVER THE INPUT: true; the input reads as it did. -/
def fnExactFlatOkSpec : ChangeSpec := { name := "fnExactFlatOk", fn := fun _ => fun
  | [d] => { results := [.lit (.bool true)], args := [d] }
  | _ => none }
def fnExactFlatOkRow : OpenClaim := { program := "ytikajogmjfldaaa", sum := "dab1a3c9ca75954b6e43b02465d5ec08de148c278e8e3d1957737c0e8f45bd5a", func := "loop.example/headtrees/laws.FnExactFlatOk", spec := "fnExactFlatOk", recurses := true, apart := false }
def FnExactFlatOkSaid : Prop := fnExactFlatOkRow.holds Try.pinned (OpenSpec.ofChange fnExactFlatOkSpec)

/-- ITS FALSE NEIGHBOUR: 'it returns false'. Refute it at one input. -/
def fnExactFlatOkWrong : ChangeSpec := { name := "fnExactFlatOk", fn := fun _ => fun
  | [d] => { results := [.lit (.bool false)], args := [d] }
  | _ => none }
def FnExactFlatOkWrongFalsely : Prop := fnExactFlatOkRow.holds Try.pinned (OpenSpec.ofChange fnExactFlatOkWrong)

/-- 'laws.FnExactBackOf': WHATEVER THE INPUT: true; the input reads as it did. -/
def fnExactBackOfSpec : ChangeSpec := { name := "fnExactBackOf", fn := fun _ => fun
  | [d] => { results := [.lit (.bool true)], args := [d] }
  | _ => none }
def fnExactBackOfRow : OpenClaim := { program := "ytikajogmjfldaaa", sum := "dab1a3c9ca75954b6e43b02465d5ec08de148c278e8e3d1957737c0e8f45bd5a", func := "loop.example/headtrees/laws.FnExactBackOf", spec := "fnExactBackOf", apart := false }
def FnExactBackOfSaid : Prop := fnExactBackOfRow.holds Try.pinned (OpenSpec.ofChange fnExactBackOfSpec)

/-- ITS FALSE NEIGHBOUR: 'it returns false'. Refute it at one input. -/
def fnExactBackOfWrong : ChangeSpec := { name := "fnExactBackOf", fn := fun _ => fun
  | [d] => { results := [.lit (.bool false)], args := [d] }
  | _ => none }
def FnExactBackOfWrongFalsely : Prop := fnExactBackOfRow.holds Try.pinned (OpenSpec.ofChange fnExactBackOfWrong)

/-- 'laws.FnTreeOk': WHATEVER THE INPUT: true; the input reads as it did. -/
def fnTreeOkSpec : ChangeSpec := { name := "fnTreeOk", fn := fun _ => fun
  | [d] => { results := [.lit (.bool true)], args := [d] }
  | _ => none }
def fnTreeOkRow : OpenClaim := { program := "ytikajogmjfldaaa", sum := "dab1a3c9ca75954b6e43b02465d5ec08de148c278e8e3d1957737c0e8f45bd5a", func := "loop.example/headtrees/laws.FnTreeOk", spec := "fnTreeOk", apart := false }
def FnTreeOkSaid : Prop := fnTreeOkRow.holds Try.pinned (OpenSpec.ofChange fnTreeOkSpec)

/-- ITS FALSE NEIGHBOUR: 'it returns false'. Refute it at one input. -/
def fnTreeOkWrong : ChangeSpec := { name := "fnTreeOk", fn := fun _ => fun
  | [d] => { results := [.lit (.bool false)], args := [d] }
  | _ => none }
def FnTreeOkWrongFalsely : Prop := fnTreeOkRow.holds Try.pinned (OpenSpec.ofChange fnTreeOkWrong)

/-- 'laws.FnExactRunEager': WHATEVER THE INPUT: true; the input reads as it did. -/
def fnExactRunEagerSpec : ChangeSpec := { name := "fnExactRunEager", fn := fun _ => fun
  | [d1, d2] => { results := [.lit (.bool true)], args := [d1, d2] }
  | _ => none }
def fnExactRunEagerRow : OpenClaim := { program := "ytikajogmjfldaaa", sum := "dab1a3c9ca75954b6e43b02465d5ec08de148c278e8e3d1957737c0e8f45bd5a", func := "loop.example/headtrees/laws.FnExactRunEager", spec := "fnExactRunEager", apart := false }
def FnExactRunEagerSaid : Prop := fnExactRunEagerRow.holds Try.pinned (OpenSpec.ofChange fnExactRunEagerSpec)

/-- ITS FALSE NEIGHBOUR: 'it returns false'. Refute it at one input. -/
def fnExactRunEagerWrong : ChangeSpec := { name := "fnExactRunEager", fn := fun _ => fun
  | [d1, d2] => { results := [.lit (.bool false)], args := [d1, d2] }
  | _ => none }
def FnExactRunEagerWrongFalsely : Prop := fnExactRunEagerRow.holds Try.pinned (OpenSpec.ofChange fnExactRunEagerWrong)

/-- 'laws.FnExactCrossingsOf': WHATEVER THE INPUT: true; the input reads as it did. -/
def fnExactCrossingsOfSpec : ChangeSpec := { name := "fnExactCrossingsOf", fn := fun _ => fun
  | [d] => { results := [.lit (.bool true)], args := [d] }
  | _ => none }
def fnExactCrossingsOfRow : OpenClaim := { program := "ytikajogmjfldaaa", sum := "dab1a3c9ca75954b6e43b02465d5ec08de148c278e8e3d1957737c0e8f45bd5a", func := "loop.example/headtrees/laws.FnExactCrossingsOf", spec := "fnExactCrossingsOf", apart := false }
def FnExactCrossingsOfSaid : Prop := fnExactCrossingsOfRow.holds Try.pinned (OpenSpec.ofChange fnExactCrossingsOfSpec)

/-- ITS FALSE NEIGHBOUR: 'it returns false'. Refute it at one input. -/
def fnExactCrossingsOfWrong : ChangeSpec := { name := "fnExactCrossingsOf", fn := fun _ => fun
  | [d] => { results := [.lit (.bool false)], args := [d] }
  | _ => none }
def FnExactCrossingsOfWrongFalsely : Prop := fnExactCrossingsOfRow.holds Try.pinned (OpenSpec.ofChange fnExactCrossingsOfWrong)

/- THE SECOND FORM. 'bulk': how many values and letters a reading holds, each counted each time it is reached (what is shared counts as often as it is met; a slice's spare places count too). A statement '..UptoSaid' is the law's where the arguments, and the package variables that the reading takes, are together of bulk at most 1048576: NARROWER than '..Said'. Prove '..Said' where nothing that the law and all that it calls make is longer than what came in: it says more and counts as full. Else prove '..UptoSaid'. A law counts once. -/
mutual
def uptoBulk {H : Type} : DataW H → Nat
  | .lit (.string bytes) => bytes.length + 1
  | .lit _ => 1
  | .nil => 1
  | .ptr d => uptoBulk d + 1
  | .slice elems spare => uptoBulkAll elems + uptoBulkAll spare + 1
  | .agg parts => uptoBulkAll parts + 1
  | .iface _ d => uptoBulk d + 1
  | .map entries => uptoBulkEntries entries + 1
  | .held _ => 1
def uptoBulkAll {H : Type} : List (DataW H) → Nat
  | [] => 0
  | d :: r => uptoBulk d + uptoBulkAll r
def uptoBulkEntries {H : Type} : List (Lit × DataW H) → Nat
  | [] => 0
  | x :: r => uptoBulkEntry x + uptoBulkEntries r
def uptoBulkEntry {H : Type} : Lit × DataW H → Nat
  | (.string bytes, d) => bytes.length + uptoBulk d + 1
  | (_, d) => uptoBulk d + 1
 end
def uptoSmall : (H : Type) → List (DataW H) → Bool := fun _ ds => decide (uptoBulkAll ds ≤ 1048576)
def OpenSpec.upto (s : _root_.Go.ChangeSpec) : _root_.Go.OpenSpec := { _root_.Go.OpenSpec.ofChange s with cond := some uptoSmall }

/-- 'laws.FnExactCoveredOk', WHERE WHAT IT READS IS OF BULK AT MOST 1048576: true; the input reads as it did. -/
def fnExactCoveredOkUptoRow : OpenClaim := { program := "ytikajogmjfldaaa", sum := "dab1a3c9ca75954b6e43b02465d5ec08de148c278e8e3d1957737c0e8f45bd5a", func := "loop.example/headtrees/laws.FnExactCoveredOk", spec := "fnExactCoveredOk", apart := false, narrowed := true }
def FnExactCoveredOkUptoSaid : Prop := fnExactCoveredOkUptoRow.holds Try.pinned (OpenSpec.upto fnExactCoveredOkSpec)

/-- 'laws.FnExactMeetOf', WHERE WHAT IT READS IS OF BULK AT MOST 1048576: true; the input reads as it did. -/
def fnExactMeetOfUptoRow : OpenClaim := { program := "ytikajogmjfldaaa", sum := "dab1a3c9ca75954b6e43b02465d5ec08de148c278e8e3d1957737c0e8f45bd5a", func := "loop.example/headtrees/laws.FnExactMeetOf", spec := "fnExactMeetOf", recurses := true, apart := false, narrowed := true }
def FnExactMeetOfUptoSaid : Prop := fnExactMeetOfUptoRow.holds Try.pinned (OpenSpec.upto fnExactMeetOfSpec)

/-- 'laws.FnExactDependsOf', WHERE WHAT IT READS IS OF BULK AT MOST 1048576: true; the input reads as it did. -/
def fnExactDependsOfUptoRow : OpenClaim := { program := "ytikajogmjfldaaa", sum := "dab1a3c9ca75954b6e43b02465d5ec08de148c278e8e3d1957737c0e8f45bd5a", func := "loop.example/headtrees/laws.FnExactDependsOf", spec := "fnExactDependsOf", apart := false, narrowed := true }
def FnExactDependsOfUptoSaid : Prop := fnExactDependsOfUptoRow.holds Try.pinned (OpenSpec.upto fnExactDependsOfSpec)

/-- 'laws.FnExactDepthOf', WHERE WHAT IT READS IS OF BULK AT MOST 1048576: true; the input reads as it did. -/
def fnExactDepthOfUptoRow : OpenClaim := { program := "ytikajogmjfldaaa", sum := "dab1a3c9ca75954b6e43b02465d5ec08de148c278e8e3d1957737c0e8f45bd5a", func := "loop.example/headtrees/laws.FnExactDepthOf", spec := "fnExactDepthOf", apart := false, narrowed := true }
def FnExactDepthOfUptoSaid : Prop := fnExactDepthOfUptoRow.holds Try.pinned (OpenSpec.upto fnExactDepthOfSpec)

/-- 'laws.FnExactRunStack', WHERE WHAT IT READS IS OF BULK AT MOST 1048576: true; the input reads as it did. -/
def fnExactRunStackUptoRow : OpenClaim := { program := "ytikajogmjfldaaa", sum := "dab1a3c9ca75954b6e43b02465d5ec08de148c278e8e3d1957737c0e8f45bd5a", func := "loop.example/headtrees/laws.FnExactRunStack", spec := "fnExactRunStack", apart := false, narrowed := true }
def FnExactRunStackUptoSaid : Prop := fnExactRunStackUptoRow.holds Try.pinned (OpenSpec.upto fnExactRunStackSpec)

/-- 'laws.FnCountFlat', WHERE WHAT IT READS IS OF BULK AT MOST 1048576: true; the input reads as it did. -/
def fnCountFlatUptoRow : OpenClaim := { program := "ytikajogmjfldaaa", sum := "dab1a3c9ca75954b6e43b02465d5ec08de148c278e8e3d1957737c0e8f45bd5a", func := "loop.example/headtrees/laws.FnCountFlat", spec := "fnCountFlat", recurses := true, apart := false, narrowed := true }
def FnCountFlatUptoSaid : Prop := fnCountFlatUptoRow.holds Try.pinned (OpenSpec.upto fnCountFlatSpec)

/-- 'laws.FnExactSidesOf', WHERE WHAT IT READS IS OF BULK AT MOST 1048576: true; the input reads as it did. -/
def fnExactSidesOfUptoRow : OpenClaim := { program := "ytikajogmjfldaaa", sum := "dab1a3c9ca75954b6e43b02465d5ec08de148c278e8e3d1957737c0e8f45bd5a", func := "loop.example/headtrees/laws.FnExactSidesOf", spec := "fnExactSidesOf", apart := false, narrowed := true }
def FnExactSidesOfUptoSaid : Prop := fnExactSidesOfUptoRow.holds Try.pinned (OpenSpec.upto fnExactSidesOfSpec)

/-- 'laws.FnExactFlatOk', WHERE WHAT IT READS IS OF BULK AT MOST 1048576: true; the input reads as it did. -/
def fnExactFlatOkUptoRow : OpenClaim := { program := "ytikajogmjfldaaa", sum := "dab1a3c9ca75954b6e43b02465d5ec08de148c278e8e3d1957737c0e8f45bd5a", func := "loop.example/headtrees/laws.FnExactFlatOk", spec := "fnExactFlatOk", recurses := true, apart := false, narrowed := true }
def FnExactFlatOkUptoSaid : Prop := fnExactFlatOkUptoRow.holds Try.pinned (OpenSpec.upto fnExactFlatOkSpec)

/-- 'laws.FnExactBackOf', WHERE WHAT IT READS IS OF BULK AT MOST 1048576: true; the input reads as it did. -/
def fnExactBackOfUptoRow : OpenClaim := { program := "ytikajogmjfldaaa", sum := "dab1a3c9ca75954b6e43b02465d5ec08de148c278e8e3d1957737c0e8f45bd5a", func := "loop.example/headtrees/laws.FnExactBackOf", spec := "fnExactBackOf", apart := false, narrowed := true }
def FnExactBackOfUptoSaid : Prop := fnExactBackOfUptoRow.holds Try.pinned (OpenSpec.upto fnExactBackOfSpec)

/-- 'laws.FnTreeOk', WHERE WHAT IT READS IS OF BULK AT MOST 1048576: true; the input reads as it did. -/
def fnTreeOkUptoRow : OpenClaim := { program := "ytikajogmjfldaaa", sum := "dab1a3c9ca75954b6e43b02465d5ec08de148c278e8e3d1957737c0e8f45bd5a", func := "loop.example/headtrees/laws.FnTreeOk", spec := "fnTreeOk", apart := false, narrowed := true }
def FnTreeOkUptoSaid : Prop := fnTreeOkUptoRow.holds Try.pinned (OpenSpec.upto fnTreeOkSpec)

/-- 'laws.FnExactRunEager', WHERE WHAT IT READS IS OF BULK AT MOST 1048576: true; the input reads as it did. -/
def fnExactRunEagerUptoRow : OpenClaim := { program := "ytikajogmjfldaaa", sum := "dab1a3c9ca75954b6e43b02465d5ec08de148c278e8e3d1957737c0e8f45bd5a", func := "loop.example/headtrees/laws.FnExactRunEager", spec := "fnExactRunEager", apart := false, narrowed := true }
def FnExactRunEagerUptoSaid : Prop := fnExactRunEagerUptoRow.holds Try.pinned (OpenSpec.upto fnExactRunEagerSpec)

/-- 'laws.FnExactCrossingsOf', WHERE WHAT IT READS IS OF BULK AT MOST 1048576: true; the input reads as it did. -/
def fnExactCrossingsOfUptoRow : OpenClaim := { program := "ytikajogmjfldaaa", sum := "dab1a3c9ca75954b6e43b02465d5ec08de148c278e8e3d1957737c0e8f45bd5a", func := "loop.example/headtrees/laws.FnExactCrossingsOf", spec := "fnExactCrossingsOf", apart := false, narrowed := true }
def FnExactCrossingsOfUptoSaid : Prop := fnExactCrossingsOfUptoRow.holds Try.pinned (OpenSpec.upto fnExactCrossingsOfSpec)

end Rows
end Go.Proofs.Ytikajogmjfldaaa
