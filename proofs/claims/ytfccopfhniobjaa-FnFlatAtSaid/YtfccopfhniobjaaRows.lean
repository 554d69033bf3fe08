/-
  No cell of these rows narrows 'for every input' (looked for: loops, veiled, ifaces, maps, wideKeys, modest, calm, conditions, laid).
  DERIVED. THE GIVEN ROWS OF THIS SEAT. 7 by the template 'for every input the law returns true; each argument reads behind the call as it read before'; 0 by the template 'total and deterministic' (their statements: YtfccopfhniobjaaTotals.lean).
  GIVEN WITH THE SEED: the statements are not yours to turn. If you find one false, say at which input.
  Laid BY PROGRAM, IN A SANDBOX (cutbox-rows.mjs): the forced cells as the released guide's own fill.sh prints them over the translation 1a7a675b3c943fde… (all of the seat's roots in one cut). By AI agents, Wed Nov 11 2026. No macro, syntax, notation, axiom, sorry.
-/
import Derived.Test.YtfccopfhniobjaaChecked
import GoSem.Claim
import GoSem.ClaimJoined
import GoSem.ClaimMapViews
import Derived.JoinedTies
import Derived.KernelRfl
namespace Go.Proofs.Ytfccopfhniobjaa
/- THE CELL 'sum', in the pinned program and in every row, IS THE sha256 OF THE DUMP (.gsa) THAT YtfccopfhniobjaaProg.lean LOADS. Nothing in Lean hashes anything: it is a label: what it is worth is what the hold of that sum in a sandbox is worth. -/
noncomputable def Try.pinned : Pinned := { name := "ytfccopfhniobjaa", sum := "1a7a675b3c943fde2e9d77e8c64b22dac43bf857107049480f58c401348cf817", checked := Try.checked }
namespace Rows
def none {H : Type} : Left H := { results := [], args := [] }

/-- 'laws.FnOrderOk': WHATEVER THE INPUT: true; the input reads as it did. -/
def fnOrderOkSpec : ChangeSpec := { name := "fnOrderOk", fn := fun _ => fun
  | [d] => { results := [.lit (.bool true)], args := [d] }
  | _ => none }
def fnOrderOkRow : OpenClaim := { program := "ytfccopfhniobjaa", sum := "1a7a675b3c943fde2e9d77e8c64b22dac43bf857107049480f58c401348cf817", func := "loop.example/headtrees/laws.FnOrderOk", spec := "fnOrderOk", unfollowed := true, recurses := true, apart := false }
def FnOrderOkSaid : Prop := fnOrderOkRow.holds Try.pinned (OpenSpec.ofChange fnOrderOkSpec)

/-- ITS FALSE NEIGHBOUR: 'it returns false'. Refute it at one input. -/
def fnOrderOkWrong : ChangeSpec := { name := "fnOrderOk", fn := fun _ => fun
  | [d] => { results := [.lit (.bool false)], args := [d] }
  | _ => none }
def FnOrderOkWrongFalsely : Prop := fnOrderOkRow.holds Try.pinned (OpenSpec.ofChange fnOrderOkWrong)

/-- 'laws.FnExactOrderOk': WHATEVER THE INPUT: true; the input reads as it did. -/
def fnExactOrderOkSpec : ChangeSpec := { name := "fnExactOrderOk", fn := fun _ => fun
  | [d1, d2] => { results := [.lit (.bool true)], args := [d1, d2] }
  | _ => none }
def fnExactOrderOkRow : OpenClaim := { program := "ytfccopfhniobjaa", sum := "1a7a675b3c943fde2e9d77e8c64b22dac43bf857107049480f58c401348cf817", func := "loop.example/headtrees/laws.FnExactOrderOk", spec := "fnExactOrderOk", unfollowed := true, recurses := true, apart := false }
def FnExactOrderOkSaid : Prop := fnExactOrderOkRow.holds Try.pinned (OpenSpec.ofChange fnExactOrderOkSpec)

/-- ITS FALSE NEIGHBOUR: 'it returns false'. Refute it at one input. -/
def fnExactOrderOkWrong : ChangeSpec := { name := "fnExactOrderOk", fn := fun _ => fun
  | [d1, d2] => { results := [.lit (.bool false)], args := [d1, d2] }
  | _ => none }
def FnExactOrderOkWrongFalsely : Prop := fnExactOrderOkRow.holds Try.pinned (OpenSpec.ofChange fnExactOrderOkWrong)

/-- 'laws.FnPutInOrder': WHATEVER THE INPUT: true; the input reads as it did. -/
def fnPutInOrderSpec : ChangeSpec := { name := "fnPutInOrder", fn := fun _ => fun
  | [d] => { results := [.lit (.bool true)], args := [d] }
  | _ => none }
def fnPutInOrderRow : OpenClaim := { program := "ytfccopfhniobjaa", sum := "1a7a675b3c943fde2e9d77e8c64b22dac43bf857107049480f58c401348cf817", func := "loop.example/headtrees/laws.FnPutInOrder", spec := "fnPutInOrder", unfollowed := true, recurses := true, apart := false }
def FnPutInOrderSaid : Prop := fnPutInOrderRow.holds Try.pinned (OpenSpec.ofChange fnPutInOrderSpec)

/-- ITS FALSE NEIGHBOUR: 'it returns false'. Refute it at one input. -/
def fnPutInOrderWrong : ChangeSpec := { name := "fnPutInOrder", fn := fun _ => fun
  | [d] => { results := [.lit (.bool false)], args := [d] }
  | _ => none }
def FnPutInOrderWrongFalsely : Prop := fnPutInOrderRow.holds Try.pinned (OpenSpec.ofChange fnPutInOrderWrong)

/-- 'laws.FnExactPutInOrder': WHATEVER THE INPUT: true; the input reads as it did. -/
def fnExactPutInOrderSpec : ChangeSpec := { name := "fnExactPutInOrder", fn := fun _ => fun
  | [d1, d2] => { results := [.lit (.bool true)], args := [d1, d2] }
  | _ => none }
def fnExactPutInOrderRow : OpenClaim := { program := "ytfccopfhniobjaa", sum := "1a7a675b3c943fde2e9d77e8c64b22dac43bf857107049480f58c401348cf817", func := "loop.example/headtrees/laws.FnExactPutInOrder", spec := "fnExactPutInOrder", unfollowed := true, recurses := true, apart := false }
def FnExactPutInOrderSaid : Prop := fnExactPutInOrderRow.holds Try.pinned (OpenSpec.ofChange fnExactPutInOrderSpec)

/-- ITS FALSE NEIGHBOUR: 'it returns false'. Refute it at one input. -/
def fnExactPutInOrderWrong : ChangeSpec := { name := "fnExactPutInOrder", fn := fun _ => fun
  | [d1, d2] => { results := [.lit (.bool false)], args := [d1, d2] }
  | _ => none }
def FnExactPutInOrderWrongFalsely : Prop := fnExactPutInOrderRow.holds Try.pinned (OpenSpec.ofChange fnExactPutInOrderWrong)

/-- 'laws.FnFlatAt': WHATEVER THE INPUT: true; the input reads as it did. -/
def fnFlatAtSpec : ChangeSpec := { name := "fnFlatAt", fn := fun _ => fun
  | [d] => { results := [.lit (.bool true)], args := [d] }
  | _ => none }
def fnFlatAtRow : OpenClaim := { program := "ytfccopfhniobjaa", sum := "1a7a675b3c943fde2e9d77e8c64b22dac43bf857107049480f58c401348cf817", func := "loop.example/headtrees/laws.FnFlatAt", spec := "fnFlatAt", unfollowed := true, recurses := true, apart := false }
def FnFlatAtSaid : Prop := fnFlatAtRow.holds Try.pinned (OpenSpec.ofChange fnFlatAtSpec)

/-- ITS FALSE NEIGHBOUR: 'it returns false'. Refute it at one input. -/
def fnFlatAtWrong : ChangeSpec := { name := "fnFlatAt", fn := fun _ => fun
  | [d] => { results := [.lit (.bool false)], args := [d] }
  | _ => none }
def FnFlatAtWrongFalsely : Prop := fnFlatAtRow.holds Try.pinned (OpenSpec.ofChange fnFlatAtWrong)

/-- 'laws.FnExactPlaceOf': WHATEVER THE INPUT: true; the input reads as it did. -/
def fnExactPlaceOfSpec : ChangeSpec := { name := "fnExactPlaceOf", fn := fun _ => fun
  | [d] => { results := [.lit (.bool true)], args := [d] }
  | _ => none }
def fnExactPlaceOfRow : OpenClaim := { program := "ytfccopfhniobjaa", sum := "1a7a675b3c943fde2e9d77e8c64b22dac43bf857107049480f58c401348cf817", func := "loop.example/headtrees/laws.FnExactPlaceOf", spec := "fnExactPlaceOf", unfollowed := true, recurses := true, apart := false }
def FnExactPlaceOfSaid : Prop := fnExactPlaceOfRow.holds Try.pinned (OpenSpec.ofChange fnExactPlaceOfSpec)

/-- ITS FALSE NEIGHBOUR: 'it returns false'. Refute it at one input. -/
def fnExactPlaceOfWrong : ChangeSpec := { name := "fnExactPlaceOf", fn := fun _ => fun
  | [d] => { results := [.lit (.bool false)], args := [d] }
  | _ => none }
def FnExactPlaceOfWrongFalsely : Prop := fnExactPlaceOfRow.holds Try.pinned (OpenSpec.ofChange fnExactPlaceOfWrong)

/-- 'laws.FnPlaceOf': WHATEVER THE INPUT: true; the input reads as it did. -/
def fnPlaceOfSpec : ChangeSpec := { name := "fnPlaceOf", fn := fun _ => fun
  | [d] => { results := [.lit (.bool true)], args := [d] }
  | _ => none }
def fnPlaceOfRow : OpenClaim := { program := "ytfccopfhniobjaa", sum := "1a7a675b3c943fde2e9d77e8c64b22dac43bf857107049480f58c401348cf817", func := "loop.example/headtrees/laws.FnPlaceOf", spec := "fnPlaceOf", unfollowed := true, recurses := true, apart := false }
def FnPlaceOfSaid : Prop := fnPlaceOfRow.holds Try.pinned (OpenSpec.ofChange fnPlaceOfSpec)

/-- ITS FALSE NEIGHBOUR: 'it returns false'. Refute it at one input. -/
def fnPlaceOfWrong : ChangeSpec := { name := "fnPlaceOf", fn := fun _ => fun
  | [d] => { results := [.lit (.bool false)], args := [d] }
  | _ => none }
def FnPlaceOfWrongFalsely : Prop := fnPlaceOfRow.holds Try.pinned (OpenSpec.ofChange fnPlaceOfWrong)

/- THE SECOND FORM. 'bulk': how many values and letters a reading holds, each counted each time it is reached (what is shared counts as often as it is met; a slice's spare places count too). A statement '..UptoSaid' is the law's where the arguments, and the package variables that the reading takes, are together of bulk at most 1048576: NARROWER than '..Said'. Prove '..Said' where nothing that the law and all that it calls make is longer than what came in: it says more and counts as full. Else prove '..UptoSaid'. A law counts once. -/
mutual
def uptoBulk {H : Type} : DataW H → Nat
  | .lit (.string bytes) => bytes.length + 1
  | .lit _ => 1
  | .nil => 1
  | .ptr d => uptoBulk d + 1
  | .slice elems spare => uptoBulkAll elems + uptoBulkAll spare + 1
  | .agg parts => uptoBulkAll parts + 1
  | .iface _ d => uptoBulk d + 1
  | .map entries => uptoBulkEntries entries + 1
  | .held _ => 1
def uptoBulkAll {H : Type} : List (DataW H) → Nat
  | [] => 0
  | d :: r => uptoBulk d + uptoBulkAll r
def uptoBulkEntries {H : Type} : List (Lit × DataW H) → Nat
  | [] => 0
  | x :: r => uptoBulkEntry x + uptoBulkEntries r
def uptoBulkEntry {H : Type} : Lit × DataW H → Nat
  | (.string bytes, d) => bytes.length + uptoBulk d + 1
  | (_, d) => uptoBulk d + 1
 end
def uptoSmall : (H : Type) → List (DataW H) → Bool := fun _ ds => decide (uptoBulkAll ds ≤ 1048576)
def OpenSpec.upto (s : _root_.Go.ChangeSpec) : _root_.Go.OpenSpec := { _root_.Go.OpenSpec.ofChange s with cond := some uptoSmall }

/-- 'laws.FnOrderOk', WHERE WHAT IT READS IS OF BULK AT MOST 1048576: true; the input reads as it did. -/
def fnOrderOkUptoRow : OpenClaim := { program := "ytfccopfhniobjaa", sum := "1a7a675b3c943fde2e9d77e8c64b22dac43bf857107049480f58c401348cf817", func := "loop.example/headtrees/laws.FnOrderOk", spec := "fnOrderOk", unfollowed := true, recurses := true, apart := false, narrowed := true }
def FnOrderOkUptoSaid : Prop := fnOrderOkUptoRow.holds Try.pinned (OpenSpec.upto fnOrderOkSpec)

/-- 'laws.FnExactOrderOk', WHERE WHAT IT READS IS OF BULK AT MOST 1048576: true; the input reads as it did. -/
def fnExactOrderOkUptoRow : OpenClaim := { program := "ytfccopfhniobjaa", sum := "1a7a675b3c943fde2e9d77e8c64b22dac43bf857107049480f58c401348cf817", func := "loop.example/headtrees/laws.FnExactOrderOk", spec := "fnExactOrderOk", unfollowed := true, recurses := true, apart := false, narrowed := true }
def FnExactOrderOkUptoSaid : Prop := fnExactOrderOkUptoRow.holds Try.pinned (OpenSpec.upto fnExactOrderOkSpec)

/-- 'laws.FnPutInOrder', WHERE WHAT IT READS IS OF BULK AT MOST 1048576: true; the input reads as it did. -/
def fnPutInOrderUptoRow : OpenClaim := { program := "ytfccopfhniobjaa", sum := "1a7a675b3c943fde2e9d77e8c64b22dac43bf857107049480f58c401348cf817", func := "loop.example/headtrees/laws.FnPutInOrder", spec := "fnPutInOrder", unfollowed := true, recurses := true, apart := false, narrowed := true }
def FnPutInOrderUptoSaid : Prop := fnPutInOrderUptoRow.holds Try.pinned (OpenSpec.upto fnPutInOrderSpec)

/-- 'laws.FnExactPutInOrder', WHERE WHAT IT READS IS OF BULK AT MOST 1048576: true; the input reads as it did. -/
def fnExactPutInOrderUptoRow : OpenClaim := { program := "ytfccopfhniobjaa", sum := "1a7a675b3c943fde2e9d77e8c64b22dac43bf857107049480f58c401348cf817", func := "loop.example/headtrees/laws.FnExactPutInOrder", spec := "fnExactPutInOrder", unfollowed := true, recurses := true, apart := false, narrowed := true }
def FnExactPutInOrderUptoSaid : Prop := fnExactPutInOrderUptoRow.holds Try.pinned (OpenSpec.upto fnExactPutInOrderSpec)

/-- 'laws.FnFlatAt', WHERE WHAT IT READS IS OF BULK AT MOST 1048576: true; the input reads as it did. -/
def fnFlatAtUptoRow : OpenClaim := { program := "ytfccopfhniobjaa", sum := "1a7a675b3c943fde2e9d77e8c64b22dac43bf857107049480f58c401348cf817", func := "loop.example/headtrees/laws.FnFlatAt", spec := "fnFlatAt", unfollowed := true, recurses := true, apart := false, narrowed := true }
def FnFlatAtUptoSaid : Prop := fnFlatAtUptoRow.holds Try.pinned (OpenSpec.upto fnFlatAtSpec)

/-- 'laws.FnExactPlaceOf', WHERE WHAT IT READS IS OF BULK AT MOST 1048576: true; the input reads as it did. -/
def fnExactPlaceOfUptoRow : OpenClaim := { program := "ytfccopfhniobjaa", sum := "1a7a675b3c943fde2e9d77e8c64b22dac43bf857107049480f58c401348cf817", func := "loop.example/headtrees/laws.FnExactPlaceOf", spec := "fnExactPlaceOf", unfollowed := true, recurses := true, apart := false, narrowed := true }
def FnExactPlaceOfUptoSaid : Prop := fnExactPlaceOfUptoRow.holds Try.pinned (OpenSpec.upto fnExactPlaceOfSpec)

/-- 'laws.FnPlaceOf', WHERE WHAT IT READS IS OF BULK AT MOST 1048576: true; the input reads as it did. -/
def fnPlaceOfUptoRow : OpenClaim := { program := "ytfccopfhniobjaa", sum := "1a7a675b3c943fde2e9d77e8c64b22dac43bf857107049480f58c401348cf817", func := "loop.example/headtrees/laws.FnPlaceOf", spec := "fnPlaceOf", unfollowed := true, recurses := true, apart := false, narrowed := true }
def FnPlaceOfUptoSaid : Prop := fnPlaceOfUptoRow.holds Try.pinned (OpenSpec.upto fnPlaceOfSpec)

end Rows
end Go.Proofs.Ytfccopfhniobjaa
