-- Printed by wip/mk.py (this session's driver over the kit's print) and from wip/manual.
import Derived.Test.YtoaikbfngeopgaaProg
import Derived.Below
import Derived.Deep.Draws
import Derived.Deep.AppendLies
import Derived.Maps.AppendAt
import Derived.OwnWalk
import Derived.Laws.BytesArg
import Derived.Laws.MakeOwn
import Derived.Laws.OwnMore
import Derived.Deep.OwnRows
import Derived.Tactics
import Derived.Lib.ConvBytes
import Derived.Laws.Slices
import Derived.WalkKit
import Derived.KernelRfl
import Derived.RowKit3
import Derived.Deep.LoopGhost
import Derived.Deep.QuietTactic
import Derived.BigQuiet
import Derived.WideLaws
import Derived.Deep.DeepCutAuto
import Derived.Deep.CutBlock
import Derived.Deep.RegionHeld3
import Derived.Laws.Rows
import Derived.Lib.AppendStr
import Derived.ArgAppend
import Derived.Laws.IdiomCopy
import Derived.OrdersHeld
import Derived.Laws.BitsLemmas
import Derived.RowKit
import Derived.Test.YtoaikbfngeopgaaM0
import Derived.Test.YtoaikbfngeopgaaWWords
import Derived.Test.YtoaikbfngeopgaaWLast
import Derived.Test.YtoaikbfngeopgaaWTab
import Derived.Test.YtoaikbfngeopgaaWFour
import Derived.Test.YtoaikbfngeopgaaWQPut
import Derived.Test.YtoaikbfngeopgaaWApart
import Derived.Test.YtoaikbfngeopgaaWArr
import Derived.Test.YtoaikbfngeopgaaWZeros
import Derived.Test.YtoaikbfngeopgaaWFoot
import Derived.Test.YtoaikbfngeopgaaWKept
import Derived.Test.YtoaikbfngeopgaaWShare
import Derived.Test.YtoaikbfngeopgaaWN
import Derived.Test.YtoaikbfngeopgaaWFootNe
import Derived.Test.YtoaikbfngeopgaaWAt
import Derived.Test.YtoaikbfngeopgaaWEqStruct
import Derived.Test.YtoaikbfngeopgaaWRepsOne
import Derived.Test.YtoaikbfngeopgaaWInv
import Derived.Test.YtoaikbfngeopgaaWInvWords
import Derived.Test.YtoaikbfngeopgaaWGuard
import Derived.Test.YtoaikbfngeopgaaWNEv
import Derived.Test.YtoaikbfngeopgaaWMore
namespace Go.Proofs.Ytoaikbfngeopgaa.P
open Go.RowKit Go.Proofs.YtoaikbfngeopgaaW.PrintWords Go.Proofs.YtoaikbfngeopgaaW.PrintLast Go.Proofs.YtoaikbfngeopgaaW.PrintMore
attribute [local go_sem] max2_int min2_int max_two min_two max_three min_three max_four min_four   -- for this text's walks alone
set_option linter.unusedVariables false
set_option linter.unusedSimpArgs false



def errW : Option Int → Value
  | none => .nilIface
  | some c => .iface 0 (.int .i64 c)
theorem errW_none : errW none = .nilIface := rfl
theorem errW_some (c : Int) : errW (some c) = .iface 0 (.int .i64 c) := rfl

theorem info5 : (Try.prog.info? 5).map (fun i => (i.zero, i.size, i.bytes)) = some (some (.int .u8 0), 1, 1) := by kernel_rfl
theorem info21 : (Try.prog.info? 21).map (fun i => (i.zero, i.size, i.bytes)) = some (some (.int .i32 0), 1, 4) := by kernel_rfl
-- the values' own types

end Go.Proofs.Ytoaikbfngeopgaa.P
