-- Written by a program of this session (wip/pp), after the manner of the kit's print. Not trusted: Lean checks it.
import Derived.Test.YtgnfeeddapiihaaProg
import Derived.Below
import Derived.Deep.Draws
import Derived.Deep.AppendLies
import Derived.Maps.AppendAt
import Derived.OwnWalk
import Derived.Laws.BytesArg
import Derived.Laws.MakeOwn
import Derived.Laws.OwnMore
import Derived.Deep.OwnRows
import Derived.Tactics
import Derived.Lib.ConvBytes
import Derived.Laws.Slices
import Derived.WalkKit
import Derived.KernelRfl
import Derived.RowKit3
import Derived.Deep.LoopGhost
import Derived.Deep.QuietTactic
import Derived.BigQuiet
import Derived.WideLaws
import Derived.Deep.DeepCutAuto
import Derived.Deep.CutBlock
import Derived.Deep.RegionHeld3
import Derived.Laws.Rows
import Derived.Lib.AppendStr
import Derived.ArgAppend
import Derived.Laws.IdiomCopy
import Derived.OrdersHeld
import Derived.Laws.BitsLemmas
import Derived.RowKit
import Derived.Test.YtgnfeeddapiihaaWWords
import Derived.Test.YtgnfeeddapiihaaWLast
import Derived.Test.YtgnfeeddapiihaaWTab
import Derived.Test.YtgnfeeddapiihaaWFour
import Derived.Test.YtgnfeeddapiihaaWQPut
import Derived.Test.YtgnfeeddapiihaaWApart
import Derived.Test.YtgnfeeddapiihaaWArr
import Derived.Test.YtgnfeeddapiihaaWZeros
import Derived.Test.YtgnfeeddapiihaaWFoot
import Derived.Test.YtgnfeeddapiihaaWKept
import Derived.Test.YtgnfeeddapiihaaWShare
import Derived.Test.YtgnfeeddapiihaaWN
import Derived.Test.YtgnfeeddapiihaaWFootNe
import Derived.Test.YtgnfeeddapiihaaWAt
import Derived.Test.YtgnfeeddapiihaaWEqStruct
import Derived.Test.YtgnfeeddapiihaaWRepsOne
import Derived.Test.YtgnfeeddapiihaaWInv
import Derived.Test.YtgnfeeddapiihaaWInvWords
import Derived.Test.YtgnfeeddapiihaaWGuard
import Derived.Test.YtgnfeeddapiihaaWNEv
import Derived.Test.YtgnfeeddapiihaaWMore
import Derived.Test.YtgnfeeddapiihaaWPal
namespace Go.Proofs.Ytgnfeeddapiihaa.PBeBack
open Go.RowKit Go.Proofs.YtgnfeeddapiihaaW.PrintWords Go.Proofs.YtgnfeeddapiihaaW.PrintLast Go.Proofs.YtgnfeeddapiihaaW.PrintMore
attribute [local go_sem] max2_int min2_int max_two min_two max_three min_three max_four min_four   -- for this text's walks alone
set_option linter.unusedVariables false
set_option linter.unusedSimpArgs false



def errW : Option Int → Value
  | none => .nilIface
  | some c => .iface 0 (.int .i64 c)
theorem errW_none : errW none = .nilIface := rfl
theorem errW_some (c : Int) : errW (some c) = .iface 0 (.int .i64 c) := rfl

theorem info5 : (Try.prog.info? 5).map (fun i => (i.zero, i.size, i.bytes)) = some (some (.int .u8 0), 1, 1) := by kernel_rfl
-- the values' own types

end Go.Proofs.Ytgnfeeddapiihaa.PBeBack
