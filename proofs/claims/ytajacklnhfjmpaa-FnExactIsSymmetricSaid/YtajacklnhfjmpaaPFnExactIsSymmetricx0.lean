-- Written by this session's program oprint.py over the print of the kit: what the print does not take are texts of this session.
import Derived.Test.YtajacklnhfjmpaaProg
import Derived.Below
import Derived.Deep.Draws
import Derived.Deep.AppendLies
import Derived.Maps.AppendAt
import Derived.OwnWalk
import Derived.Laws.BytesArg
import Derived.Laws.MakeOwn
import Derived.Laws.OwnMore
import Derived.Deep.OwnRows
import Derived.Tactics
import Derived.Lib.ConvBytes
import Derived.Laws.Slices
import Derived.WalkKit
import Derived.KernelRfl
import Derived.RowKit3
import Derived.Deep.LoopGhost
import Derived.Deep.QuietTactic
import Derived.BigQuiet
import Derived.WideLaws
import Derived.Deep.DeepCutAuto
import Derived.Deep.CutBlock
import Derived.Deep.RegionHeld3
import Derived.Laws.Rows
import Derived.Lib.AppendStr
import Derived.ArgAppend
import Derived.Laws.IdiomCopy
import Derived.OrdersHeld
import Derived.Laws.BitsLemmas
import Derived.RowKit
import Derived.Test.YtajacklnhfjmpaaBase
import Derived.Test.YtajacklnhfjmpaaWalkB
import Derived.Test.YtajacklnhfjmpaaBytes
import Derived.Shelf.Abstract
import Derived.Test.YtajacklnhfjmpaaWWords
import Derived.Test.YtajacklnhfjmpaaWLast
import Derived.Test.YtajacklnhfjmpaaWTab
import Derived.Test.YtajacklnhfjmpaaWFour
import Derived.Test.YtajacklnhfjmpaaWQPut
import Derived.Test.YtajacklnhfjmpaaWApart
import Derived.Test.YtajacklnhfjmpaaWArr
import Derived.Test.YtajacklnhfjmpaaWZeros
import Derived.Test.YtajacklnhfjmpaaWFoot
import Derived.Test.YtajacklnhfjmpaaWKept
import Derived.Test.YtajacklnhfjmpaaWShare
import Derived.Test.YtajacklnhfjmpaaWN
import Derived.Test.YtajacklnhfjmpaaWFootNe
import Derived.Test.YtajacklnhfjmpaaWAt
import Derived.Test.YtajacklnhfjmpaaWEqStruct
import Derived.Test.YtajacklnhfjmpaaWRepsOne
import Derived.Test.YtajacklnhfjmpaaWInv
import Derived.Test.YtajacklnhfjmpaaWInvWords
import Derived.Test.YtajacklnhfjmpaaWGuard
import Derived.Test.YtajacklnhfjmpaaWNEv
import Derived.Test.YtajacklnhfjmpaaWMore
namespace Go.Proofs.Ytajacklnhfjmpaa.PFnExactIsSymmetric
open Go.RowKit Go.Proofs.YtajacklnhfjmpaaW.PrintWords Go.Proofs.YtajacklnhfjmpaaW.PrintLast Go.Proofs.YtajacklnhfjmpaaW.PrintMore
attribute [local go_sem] max2_int min2_int max_two min_two max_three min_three max_four min_four   -- for this text's walks alone
set_option linter.unusedVariables false
set_option linter.unusedSimpArgs false



def errW : Option Int → Value
  | none => .nilIface
  | some c => .iface 0 (.int .i64 c)
theorem errW_none : errW none = .nilIface := rfl
theorem errW_some (c : Int) : errW (some c) = .iface 0 (.int .i64 c) := rfl

theorem info3 : (Try.prog.info? 3).map (fun i => (i.zero, i.size, i.bytes)) = some (some (.int .i64 0), 1, 8) := by kernel_rfl
-- the values' own types

end Go.Proofs.Ytajacklnhfjmpaa.PFnExactIsSymmetric
