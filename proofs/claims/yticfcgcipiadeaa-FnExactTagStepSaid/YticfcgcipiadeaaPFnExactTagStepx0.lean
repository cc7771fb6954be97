-- Written by this session's program oprint.py over the print of the kit: what the print does not take are texts of this session.
import Derived.Test.YticfcgcipiadeaaProg
import Derived.Below
import Derived.Deep.Draws
import Derived.Deep.AppendLies
import Derived.Maps.AppendAt
import Derived.OwnWalk
import Derived.Laws.BytesArg
import Derived.Laws.MakeOwn
import Derived.Laws.OwnMore
import Derived.Deep.OwnRows
import Derived.Tactics
import Derived.Lib.ConvBytes
import Derived.Laws.Slices
import Derived.WalkKit
import Derived.KernelRfl
import Derived.RowKit3
import Derived.Deep.LoopGhost
import Derived.Deep.QuietTactic
import Derived.BigQuiet
import Derived.WideLaws
import Derived.Deep.DeepCutAuto
import Derived.Deep.CutBlock
import Derived.Deep.RegionHeld3
import Derived.Laws.Rows
import Derived.Lib.AppendStr
import Derived.ArgAppend
import Derived.Laws.IdiomCopy
import Derived.OrdersHeld
import Derived.Laws.BitsLemmas
import Derived.RowKit
import Derived.Test.YticfcgcipiadeaaBase
import Derived.Test.YticfcgcipiadeaaWalkB
import Derived.Test.YticfcgcipiadeaaBytes
import Derived.Shelf.Abstract
import Derived.Test.YticfcgcipiadeaaWWords
import Derived.Test.YticfcgcipiadeaaWLast
import Derived.Test.YticfcgcipiadeaaWTab
import Derived.Test.YticfcgcipiadeaaWFour
import Derived.Test.YticfcgcipiadeaaWQPut
import Derived.Test.YticfcgcipiadeaaWApart
import Derived.Test.YticfcgcipiadeaaWArr
import Derived.Test.YticfcgcipiadeaaWZeros
import Derived.Test.YticfcgcipiadeaaWFoot
import Derived.Test.YticfcgcipiadeaaWKept
import Derived.Test.YticfcgcipiadeaaWShare
import Derived.Test.YticfcgcipiadeaaWN
import Derived.Test.YticfcgcipiadeaaWFootNe
import Derived.Test.YticfcgcipiadeaaWAt
import Derived.Test.YticfcgcipiadeaaWEqStruct
import Derived.Test.YticfcgcipiadeaaWRepsOne
import Derived.Test.YticfcgcipiadeaaWInv
import Derived.Test.YticfcgcipiadeaaWInvWords
import Derived.Test.YticfcgcipiadeaaWGuard
import Derived.Test.YticfcgcipiadeaaWNEv
import Derived.Test.YticfcgcipiadeaaWMore
namespace Go.Proofs.Yticfcgcipiadeaa.PFnExactTagStep
open Go.RowKit Go.Proofs.YticfcgcipiadeaaW.PrintWords Go.Proofs.YticfcgcipiadeaaW.PrintLast Go.Proofs.YticfcgcipiadeaaW.PrintMore
attribute [local go_sem] max2_int min2_int max_two min_two max_three min_three max_four min_four   -- for this text's walks alone
set_option linter.unusedVariables false
set_option linter.unusedSimpArgs false



def errW : Option Int → Value
  | none => .nilIface
  | some c => .iface 0 (.int .i64 c)
theorem errW_none : errW none = .nilIface := rfl
theorem errW_some (c : Int) : errW (some c) = .iface 0 (.int .i64 c) := rfl

theorem info9 : (Try.prog.info? 9).map (fun i => (i.zero, i.size, i.bytes)) = some (some (.string ⟨#[]⟩), 1, 16) := by kernel_rfl
-- the values' own types

end Go.Proofs.Yticfcgcipiadeaa.PFnExactTagStep
