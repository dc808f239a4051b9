-- Printed by wip/mk.py (this session's driver over the kit's print) and from wip/manual.
import Derived.Test.YtmicdcgjooopeaaProg
import Derived.Below
import Derived.Deep.Draws
import Derived.Deep.AppendLies
import Derived.Maps.AppendAt
import Derived.OwnWalk
import Derived.Laws.BytesArg
import Derived.Laws.MakeOwn
import Derived.Laws.OwnMore
import Derived.Deep.OwnRows
import Derived.Tactics
import Derived.Lib.ConvBytes
import Derived.Laws.Slices
import Derived.WalkKit
import Derived.KernelRfl
import Derived.RowKit3
import Derived.Deep.LoopGhost
import Derived.Deep.QuietTactic
import Derived.BigQuiet
import Derived.WideLaws
import Derived.Deep.DeepCutAuto
import Derived.Deep.CutBlock
import Derived.Deep.RegionHeld3
import Derived.Laws.Rows
import Derived.Lib.AppendStr
import Derived.ArgAppend
import Derived.Laws.IdiomCopy
import Derived.OrdersHeld
import Derived.Laws.BitsLemmas
import Derived.RowKit
import Derived.Test.YtmicdcgjooopeaaM0
import Derived.Test.YtmicdcgjooopeaaWWords
import Derived.Test.YtmicdcgjooopeaaWLast
import Derived.Test.YtmicdcgjooopeaaWTab
import Derived.Test.YtmicdcgjooopeaaWFour
import Derived.Test.YtmicdcgjooopeaaWQPut
import Derived.Test.YtmicdcgjooopeaaWApart
import Derived.Test.YtmicdcgjooopeaaWArr
import Derived.Test.YtmicdcgjooopeaaWZeros
import Derived.Test.YtmicdcgjooopeaaWFoot
import Derived.Test.YtmicdcgjooopeaaWKept
import Derived.Test.YtmicdcgjooopeaaWShare
import Derived.Test.YtmicdcgjooopeaaWN
import Derived.Test.YtmicdcgjooopeaaWFootNe
import Derived.Test.YtmicdcgjooopeaaWAt
import Derived.Test.YtmicdcgjooopeaaWEqStruct
import Derived.Test.YtmicdcgjooopeaaWRepsOne
import Derived.Test.YtmicdcgjooopeaaWInv
import Derived.Test.YtmicdcgjooopeaaWInvWords
import Derived.Test.YtmicdcgjooopeaaWGuard
import Derived.Test.YtmicdcgjooopeaaWNEv
import Derived.Test.YtmicdcgjooopeaaWMore
namespace Go.Proofs.Ytmicdcgjooopeaa.P
open Go.RowKit Go.Proofs.YtmicdcgjooopeaaW.PrintWords Go.Proofs.YtmicdcgjooopeaaW.PrintLast Go.Proofs.YtmicdcgjooopeaaW.PrintMore
attribute [local go_sem] max2_int min2_int max_two min_two max_three min_three max_four min_four   -- for this text's walks alone
set_option linter.unusedVariables false
set_option linter.unusedSimpArgs false



def errW : Option Int → Value
  | none => .nilIface
  | some c => .iface 0 (.int .i64 c)
theorem errW_none : errW none = .nilIface := rfl
theorem errW_some (c : Int) : errW (some c) = .iface 0 (.int .i64 c) := rfl

theorem info21 : (Try.prog.info? 21).map (fun i => (i.zero, i.size, i.bytes)) = some (some (.int .i32 0), 1, 4) := by kernel_rfl
-- the values' own types

end Go.Proofs.Ytmicdcgjooopeaa.P
