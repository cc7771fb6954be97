-- Written by this session's program oprint.py over the print of the kit: what the print does not take are texts of this session.
import Derived.Test.YtajacklnhfjmpabProg
import Derived.Below
import Derived.Deep.Draws
import Derived.Deep.AppendLies
import Derived.Maps.AppendAt
import Derived.OwnWalk
import Derived.Laws.BytesArg
import Derived.Laws.MakeOwn
import Derived.Laws.OwnMore
import Derived.Deep.OwnRows
import Derived.Tactics
import Derived.Lib.ConvBytes
import Derived.Laws.Slices
import Derived.WalkKit
import Derived.KernelRfl
import Derived.RowKit3
import Derived.Deep.LoopGhost
import Derived.Deep.QuietTactic
import Derived.BigQuiet
import Derived.WideLaws
import Derived.Deep.DeepCutAuto
import Derived.Deep.CutBlock
import Derived.Deep.RegionHeld3
import Derived.Laws.Rows
import Derived.Lib.AppendStr
import Derived.ArgAppend
import Derived.Laws.IdiomCopy
import Derived.OrdersHeld
import Derived.Laws.BitsLemmas
import Derived.RowKit
import Derived.Test.YtajacklnhfjmpabBase
import Derived.Test.YtajacklnhfjmpabWalkB
import Derived.Test.YtajacklnhfjmpabBytes
import Derived.Shelf.Abstract
import Derived.Test.YtajacklnhfjmpabWWords
import Derived.Test.YtajacklnhfjmpabWLast
import Derived.Test.YtajacklnhfjmpabWTab
import Derived.Test.YtajacklnhfjmpabWFour
import Derived.Test.YtajacklnhfjmpabWQPut
import Derived.Test.YtajacklnhfjmpabWApart
import Derived.Test.YtajacklnhfjmpabWArr
import Derived.Test.YtajacklnhfjmpabWZeros
import Derived.Test.YtajacklnhfjmpabWFoot
import Derived.Test.YtajacklnhfjmpabWKept
import Derived.Test.YtajacklnhfjmpabWShare
import Derived.Test.YtajacklnhfjmpabWN
import Derived.Test.YtajacklnhfjmpabWFootNe
import Derived.Test.YtajacklnhfjmpabWAt
import Derived.Test.YtajacklnhfjmpabWEqStruct
import Derived.Test.YtajacklnhfjmpabWRepsOne
import Derived.Test.YtajacklnhfjmpabWInv
import Derived.Test.YtajacklnhfjmpabWInvWords
import Derived.Test.YtajacklnhfjmpabWGuard
import Derived.Test.YtajacklnhfjmpabWNEv
import Derived.Test.YtajacklnhfjmpabWMore
namespace Go.Proofs.Ytajacklnhfjmpab.PFnExactComplementOf
open Go.RowKit Go.Proofs.YtajacklnhfjmpabW.PrintWords Go.Proofs.YtajacklnhfjmpabW.PrintLast Go.Proofs.YtajacklnhfjmpabW.PrintMore
attribute [local go_sem] max2_int min2_int max_two min_two max_three min_three max_four min_four   -- for this text's walks alone
set_option linter.unusedVariables false
set_option linter.unusedSimpArgs false



def errW : Option Int → Value
  | none => .nilIface
  | some c => .iface 0 (.int .i64 c)
theorem errW_none : errW none = .nilIface := rfl
theorem errW_some (c : Int) : errW (some c) = .iface 0 (.int .i64 c) := rfl

theorem info3 : (Try.prog.info? 3).map (fun i => (i.zero, i.size, i.bytes)) = some (some (.int .i64 0), 1, 8) := by kernel_rfl
theorem info4 : (Try.prog.info? 4).map (fun i => (i.zero, i.size, i.bytes)) = some (some (.bool false), 1, 1) := by kernel_rfl
-- the values' own types

end Go.Proofs.Ytajacklnhfjmpab.PFnExactComplementOf
