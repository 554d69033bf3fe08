/- The statement FnEagerFor: a text of this session, written by a program of its own after the kit's print of these functions. -/
import Derived.Test.YtdckgafgidfplaaProg
import Derived.Below
import Derived.Deep.Draws
import Derived.Deep.AppendLies
import Derived.Maps.AppendAt
import Derived.OwnWalk
import Derived.Laws.BytesArg
import Derived.Laws.MakeOwn
import Derived.Laws.OwnMore
import Derived.Deep.OwnRows
import Derived.Tactics
import Derived.Lib.ConvBytes
import Derived.Laws.Slices
import Derived.WalkKit
import Derived.KernelRfl
import Derived.RowKit3
import Derived.Deep.LoopGhost
import Derived.Deep.QuietTactic
import Derived.BigQuiet
import Derived.WideLaws
import Derived.Deep.DeepCutAuto
import Derived.Deep.CutBlock
import Derived.Deep.RegionHeld3
import Derived.Laws.Rows
import Derived.Lib.AppendStr
import Derived.ArgAppend
import Derived.Laws.IdiomCopy
import Derived.OrdersHeld
import Derived.Laws.BitsLemmas
import Derived.RowKit
import Derived.Test.YtdckgafgidfplaaWWords
import Derived.Test.YtdckgafgidfplaaWLast
import Derived.Test.YtdckgafgidfplaaWTab
import Derived.Test.YtdckgafgidfplaaWQPut
import Derived.Test.YtdckgafgidfplaaWApart
import Derived.Test.YtdckgafgidfplaaWArr
import Derived.Test.YtdckgafgidfplaaWZeros
import Derived.Test.YtdckgafgidfplaaWFoot
import Derived.Test.YtdckgafgidfplaaWKept
import Derived.Test.YtdckgafgidfplaaWShare
import Derived.Test.YtdckgafgidfplaaWN
import Derived.Test.YtdckgafgidfplaaWRepsOne
import Derived.Test.YtdckgafgidfplaaWGuard
import Derived.Test.YtdckgafgidfplaaWNEv
import Derived.Test.YtdckgafgidfplaaWMore
namespace Go.Proofs.Ytdckgafgidfplaa.QFnEagerFor
open Go.RowKit Go.Proofs.YtdckgafgidfplaaW.PrintWords Go.Proofs.YtdckgafgidfplaaW.PrintLast Go.Proofs.YtdckgafgidfplaaW.PrintMore
attribute [local go_sem] max2_int min2_int max_two min_two max_three min_three max_four min_four   -- for this text's walks alone
set_option linter.unusedVariables false
set_option linter.unusedSimpArgs false



def errW : Option Int → Value
 | none => .nilIface
 | some c => .iface 0 (.int .i64 c)
theorem errW_none : errW none = .nilIface := rfl
theorem errW_some (c : Int) : errW (some c) = .iface 0 (.int .i64 c) := rfl

theorem info3 : (Try.prog.info? 3).map (fun i => (i.zero, i.size, i.bytes)) = some (some (.int .i64 0), 1, 8) := by kernel_rfl
theorem info5 : (Try.prog.info? 5).map (fun i => (i.zero, i.size, i.bytes)) = some (some (.int .u8 0), 1, 1) := by kernel_rfl
-- the values' own types

end Go.Proofs.Ytdckgafgidfplaa.QFnEagerFor
