-- Written by a program of this session (wip/pp), after the manner of the kit's print. Not trusted: Lean checks it.
import Derived.Test.YtobbffadnallcaaProg
import Derived.Below
import Derived.Deep.Draws
import Derived.Deep.AppendLies
import Derived.Maps.AppendAt
import Derived.OwnWalk
import Derived.Laws.BytesArg
import Derived.Laws.MakeOwn
import Derived.Laws.OwnMore
import Derived.Deep.OwnRows
import Derived.Tactics
import Derived.Lib.ConvBytes
import Derived.Laws.Slices
import Derived.WalkKit
import Derived.KernelRfl
import Derived.RowKit3
import Derived.Deep.LoopGhost
import Derived.Deep.QuietTactic
import Derived.BigQuiet
import Derived.WideLaws
import Derived.Deep.DeepCutAuto
import Derived.Deep.CutBlock
import Derived.Deep.RegionHeld3
import Derived.Laws.Rows
import Derived.Lib.AppendStr
import Derived.ArgAppend
import Derived.Laws.IdiomCopy
import Derived.OrdersHeld
import Derived.Laws.BitsLemmas
import Derived.RowKit
import Derived.Test.YtobbffadnallcaaWWords
import Derived.Test.YtobbffadnallcaaWLast
import Derived.Test.YtobbffadnallcaaWTab
import Derived.Test.YtobbffadnallcaaWFour
import Derived.Test.YtobbffadnallcaaWQPut
import Derived.Test.YtobbffadnallcaaWApart
import Derived.Test.YtobbffadnallcaaWArr
import Derived.Test.YtobbffadnallcaaWZeros
import Derived.Test.YtobbffadnallcaaWFoot
import Derived.Test.YtobbffadnallcaaWKept
import Derived.Test.YtobbffadnallcaaWShare
import Derived.Test.YtobbffadnallcaaWN
import Derived.Test.YtobbffadnallcaaWFootNe
import Derived.Test.YtobbffadnallcaaWAt
import Derived.Test.YtobbffadnallcaaWEqStruct
import Derived.Test.YtobbffadnallcaaWRepsOne
import Derived.Test.YtobbffadnallcaaWInv
import Derived.Test.YtobbffadnallcaaWInvWords
import Derived.Test.YtobbffadnallcaaWGuard
import Derived.Test.YtobbffadnallcaaWNEv
import Derived.Test.YtobbffadnallcaaWMore
import Derived.Test.YtobbffadnallcaaWPal
namespace Go.Proofs.Ytobbffadnallcaa.PCrcJoins
open Go.RowKit Go.Proofs.YtobbffadnallcaaW.PrintWords Go.Proofs.YtobbffadnallcaaW.PrintLast Go.Proofs.YtobbffadnallcaaW.PrintMore
attribute [local go_sem] max2_int min2_int max_two min_two max_three min_three max_four min_four   -- for this text's walks alone
set_option linter.unusedVariables false
set_option linter.unusedSimpArgs false



def errW : Option Int → Value
  | none => .nilIface
  | some c => .iface 0 (.int .i64 c)
theorem errW_none : errW none = .nilIface := rfl
theorem errW_some (c : Int) : errW (some c) = .iface 0 (.int .i64 c) := rfl

theorem info5 : (Try.prog.info? 5).map (fun i => (i.zero, i.size, i.bytes)) = some (some (.int .u8 0), 1, 1) := by kernel_rfl
-- the values' own types

end Go.Proofs.Ytobbffadnallcaa.PCrcJoins
