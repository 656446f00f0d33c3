-- Written by mkprint.py, a program of this session (the printer with additions of its own)
import Derived.Test.YtchgdgehgkggpaaProg
import Derived.Below
import Derived.Deep.Draws
import Derived.Deep.AppendLies
import Derived.Maps.AppendAt
import Derived.OwnWalk
import Derived.Laws.BytesArg
import Derived.Laws.MakeOwn
import Derived.Laws.OwnMore
import Derived.Deep.OwnRows
import Derived.Tactics
import Derived.Lib.ConvBytes
import Derived.Laws.Slices
import Derived.WalkKit
import Derived.KernelRfl
import Derived.RowKit3
import Derived.Deep.LoopGhost
import Derived.Deep.QuietTactic
import Derived.BigQuiet
import Derived.WideLaws
import Derived.Deep.DeepCutAuto
import Derived.Deep.CutBlock
import Derived.Deep.RegionHeld3
import Derived.Laws.Rows
import Derived.Lib.AppendStr
import Derived.ArgAppend
import Derived.Laws.IdiomCopy
import Derived.OrdersHeld
import Derived.Laws.BitsLemmas
import Derived.RowKit
import Derived.Test.YtchgdgehgkggpaaWWords
import Derived.Test.YtchgdgehgkggpaaWLast
import Derived.Test.YtchgdgehgkggpaaWTab
import Derived.Test.YtchgdgehgkggpaaWFour
import Derived.Test.YtchgdgehgkggpaaWQPut
import Derived.Test.YtchgdgehgkggpaaWApart
import Derived.Test.YtchgdgehgkggpaaWArr
import Derived.Test.YtchgdgehgkggpaaWZeros
import Derived.Test.YtchgdgehgkggpaaWFoot
import Derived.Test.YtchgdgehgkggpaaWKept
import Derived.Test.YtchgdgehgkggpaaWShare
import Derived.Test.YtchgdgehgkggpaaWN
import Derived.Test.YtchgdgehgkggpaaWFootNe
import Derived.Test.YtchgdgehgkggpaaWAt
import Derived.Test.YtchgdgehgkggpaaWEqStruct
import Derived.Test.YtchgdgehgkggpaaWRepsOne
import Derived.Test.YtchgdgehgkggpaaWInv
import Derived.Test.YtchgdgehgkggpaaWInvWords
import Derived.Test.YtchgdgehgkggpaaWGuard
import Derived.Test.YtchgdgehgkggpaaWNEv
import Derived.Test.YtchgdgehgkggpaaWMore
namespace Go.Proofs.Ytchgdgehgkggpaa.PFnExactBefore
open Go.RowKit Go.Proofs.YtchgdgehgkggpaaW.PrintWords Go.Proofs.YtchgdgehgkggpaaW.PrintLast Go.Proofs.YtchgdgehgkggpaaW.PrintMore
attribute [local go_sem] max2_int min2_int max_two min_two max_three min_three max_four min_four   -- for this text's walks alone
set_option linter.unusedVariables false
set_option linter.unusedSimpArgs false



def errW : Option Int → Value
  | none => .nilIface
  | some c => .iface 0 (.int .i64 c)
theorem errW_none : errW none = .nilIface := rfl
theorem errW_some (c : Int) : errW (some c) = .iface 0 (.int .i64 c) := rfl

theorem info5 : (Try.prog.info? 5).map (fun i => (i.zero, i.size, i.bytes)) = some (some (.int .u8 0), 1, 1) := by kernel_rfl
-- the values' own types

end Go.Proofs.Ytchgdgehgkggpaa.PFnExactBefore
