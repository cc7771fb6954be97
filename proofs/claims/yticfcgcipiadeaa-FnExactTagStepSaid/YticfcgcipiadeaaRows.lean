/-
  No cell of these rows narrows 'for every input' (looked for: loops, veiled, ifaces, maps, wideKeys, modest, calm, conditions, laid).
  DERIVED. THE GIVEN ROWS OF THIS SEAT. 12 by the template 'for every input the law returns true; each argument reads behind the call as it read before'; 0 by the template 'total and deterministic' (their statements: YticfcgcipiadeaaTotals.lean).
  GIVEN WITH THE SEED: the statements are not yours to turn. If you find one false, say at which input.
  Laid BY PROGRAM, IN A SANDBOX (cutbox-rows.mjs): the forced cells as the released guide's own fill.sh prints them over the translation f4c31ded87ab3fb5… (all of the seat's roots in one cut). By AI agents, Wed Nov 11 2026. No macro, syntax, notation, axiom, sorry.
-/
import Derived.Test.YticfcgcipiadeaaChecked
import GoSem.Claim
import GoSem.ClaimJoined
import GoSem.ClaimMapViews
import Derived.JoinedTies
import Derived.KernelRfl
namespace Go.Proofs.Yticfcgcipiadeaa
/- THE CELL 'sum', in the pinned program and in every row, IS THE sha256 OF THE DUMP (.gsa) THAT YticfcgcipiadeaaProg.lean LOADS. Nothing in Lean hashes anything: it is a label: what it is worth is what the hold of that sum in a sandbox is worth. -/
noncomputable def Try.pinned : Pinned := { name := "yticfcgcipiadeaa", sum := "f4c31ded87ab3fb59066ac54a03ed6c9863e867f58dc565d449dfa43cd9a77a8", checked := Try.checked }
namespace Rows
def none {H : Type} : Left H := { results := [], args := [] }

/-- 'laws.FnExactCountFree': WHATEVER THE INPUT: true; the input reads as it did. -/
def fnExactCountFreeSpec : ChangeSpec := { name := "fnExactCountFree", fn := fun _ => fun
  | [d1, d2] => { results := [.lit (.bool true)], args := [d1, d2] }
  | _ => none }
def fnExactCountFreeRow : OpenClaim := { program := "yticfcgcipiadeaa", sum := "f4c31ded87ab3fb59066ac54a03ed6c9863e867f58dc565d449dfa43cd9a77a8", func := "loop.example/g03201/laws.FnExactCountFree", spec := "fnExactCountFree", apart := false }
def FnExactCountFreeSaid : Prop := fnExactCountFreeRow.holds Try.pinned (OpenSpec.ofChange fnExactCountFreeSpec)

/-- ITS FALSE NEIGHBOUR: 'it returns false'. Refute it at one input. -/
def fnExactCountFreeWrong : ChangeSpec := { name := "fnExactCountFree", fn := fun _ => fun
  | [d1, d2] => { results := [.lit (.bool false)], args := [d1, d2] }
  | _ => none }
def FnExactCountFreeWrongFalsely : Prop := fnExactCountFreeRow.holds Try.pinned (OpenSpec.ofChange fnExactCountFreeWrong)

/-- 'laws.FnExactIsFreeForm': WHATEVER THE INPUT: true; the input reads as it did. -/
def fnExactIsFreeFormSpec : ChangeSpec := { name := "fnExactIsFreeForm", fn := fun _ => fun
  | [d1, d2] => { results := [.lit (.bool true)], args := [d1, d2] }
  | _ => none }
def fnExactIsFreeFormRow : OpenClaim := { program := "yticfcgcipiadeaa", sum := "f4c31ded87ab3fb59066ac54a03ed6c9863e867f58dc565d449dfa43cd9a77a8", func := "loop.example/g03201/laws.FnExactIsFreeForm", spec := "fnExactIsFreeForm", apart := false }
def FnExactIsFreeFormSaid : Prop := fnExactIsFreeFormRow.holds Try.pinned (OpenSpec.ofChange fnExactIsFreeFormSpec)

/-- ITS FALSE NEIGHBOUR: 'it returns false'. Refute it at one input. -/
def fnExactIsFreeFormWrong : ChangeSpec := { name := "fnExactIsFreeForm", fn := fun _ => fun
  | [d1, d2] => { results := [.lit (.bool false)], args := [d1, d2] }
  | _ => none }
def FnExactIsFreeFormWrongFalsely : Prop := fnExactIsFreeFormRow.holds Try.pinned (OpenSpec.ofChange fnExactIsFreeFormWrong)

/-- 'laws.FnExactFreeInverse': WHATEVER THE INPUT: true; the input reads as it did. -/
def fnExactFreeInverseSpec : ChangeSpec := { name := "fnExactFreeInverse", fn := fun _ => fun
  | [d1, d2] => { results := [.lit (.bool true)], args := [d1, d2] }
  | _ => none }
def fnExactFreeInverseRow : OpenClaim := { program := "yticfcgcipiadeaa", sum := "f4c31ded87ab3fb59066ac54a03ed6c9863e867f58dc565d449dfa43cd9a77a8", func := "loop.example/g03201/laws.FnExactFreeInverse", spec := "fnExactFreeInverse", apart := false }
def FnExactFreeInverseSaid : Prop := fnExactFreeInverseRow.holds Try.pinned (OpenSpec.ofChange fnExactFreeInverseSpec)

/-- ITS FALSE NEIGHBOUR: 'it returns false'. Refute it at one input. -/
def fnExactFreeInverseWrong : ChangeSpec := { name := "fnExactFreeInverse", fn := fun _ => fun
  | [d1, d2] => { results := [.lit (.bool false)], args := [d1, d2] }
  | _ => none }
def FnExactFreeInverseWrongFalsely : Prop := fnExactFreeInverseRow.holds Try.pinned (OpenSpec.ofChange fnExactFreeInverseWrong)

/-- 'laws.FnExactFreeForm': WHATEVER THE INPUT: true; the input reads as it did. -/
def fnExactFreeFormSpec : ChangeSpec := { name := "fnExactFreeForm", fn := fun _ => fun
  | [d1, d2] => { results := [.lit (.bool true)], args := [d1, d2] }
  | _ => none }
def fnExactFreeFormRow : OpenClaim := { program := "yticfcgcipiadeaa", sum := "f4c31ded87ab3fb59066ac54a03ed6c9863e867f58dc565d449dfa43cd9a77a8", func := "loop.example/g03201/laws.FnExactFreeForm", spec := "fnExactFreeForm", apart := false }
def FnExactFreeFormSaid : Prop := fnExactFreeFormRow.holds Try.pinned (OpenSpec.ofChange fnExactFreeFormSpec)

/-- ITS FALSE NEIGHBOUR: 'it returns false'. Refute it at one input. -/
def fnExactFreeFormWrong : ChangeSpec := { name := "fnExactFreeForm", fn := fun _ => fun
  | [d1, d2] => { results := [.lit (.bool false)], args := [d1, d2] }
  | _ => none }
def FnExactFreeFormWrongFalsely : Prop := fnExactFreeFormRow.holds Try.pinned (OpenSpec.ofChange fnExactFreeFormWrong)

/-- 'laws.FnExactFreeTimes': WHATEVER THE INPUT: true; the input reads as it did. -/
def fnExactFreeTimesSpec : ChangeSpec := { name := "fnExactFreeTimes", fn := fun _ => fun
  | [d1, d2, d3] => { results := [.lit (.bool true)], args := [d1, d2, d3] }
  | _ => none }
def fnExactFreeTimesRow : OpenClaim := { program := "yticfcgcipiadeaa", sum := "f4c31ded87ab3fb59066ac54a03ed6c9863e867f58dc565d449dfa43cd9a77a8", func := "loop.example/g03201/laws.FnExactFreeTimes", spec := "fnExactFreeTimes", apart := false }
def FnExactFreeTimesSaid : Prop := fnExactFreeTimesRow.holds Try.pinned (OpenSpec.ofChange fnExactFreeTimesSpec)

/-- ITS FALSE NEIGHBOUR: 'it returns false'. Refute it at one input. -/
def fnExactFreeTimesWrong : ChangeSpec := { name := "fnExactFreeTimes", fn := fun _ => fun
  | [d1, d2, d3] => { results := [.lit (.bool false)], args := [d1, d2, d3] }
  | _ => none }
def FnExactFreeTimesWrongFalsely : Prop := fnExactFreeTimesRow.holds Try.pinned (OpenSpec.ofChange fnExactFreeTimesWrong)

/-- 'laws.FnExactCoreOf': WHATEVER THE INPUT: true; the input reads as it did. -/
def fnExactCoreOfSpec : ChangeSpec := { name := "fnExactCoreOf", fn := fun _ => fun
  | [d1, d2] => { results := [.lit (.bool true)], args := [d1, d2] }
  | _ => none }
def fnExactCoreOfRow : OpenClaim := { program := "yticfcgcipiadeaa", sum := "f4c31ded87ab3fb59066ac54a03ed6c9863e867f58dc565d449dfa43cd9a77a8", func := "loop.example/g03201/laws.FnExactCoreOf", spec := "fnExactCoreOf", apart := false }
def FnExactCoreOfSaid : Prop := fnExactCoreOfRow.holds Try.pinned (OpenSpec.ofChange fnExactCoreOfSpec)

/-- ITS FALSE NEIGHBOUR: 'it returns false'. Refute it at one input. -/
def fnExactCoreOfWrong : ChangeSpec := { name := "fnExactCoreOf", fn := fun _ => fun
  | [d1, d2] => { results := [.lit (.bool false)], args := [d1, d2] }
  | _ => none }
def FnExactCoreOfWrongFalsely : Prop := fnExactCoreOfRow.holds Try.pinned (OpenSpec.ofChange fnExactCoreOfWrong)

/-- 'laws.FnExactAutomatonOk': WHATEVER THE INPUT: true; the input reads as it did. -/
def fnExactAutomatonOkSpec : ChangeSpec := { name := "fnExactAutomatonOk", fn := fun _ => fun
  | [d] => { results := [.lit (.bool true)], args := [d] }
  | _ => none }
def fnExactAutomatonOkRow : OpenClaim := { program := "yticfcgcipiadeaa", sum := "f4c31ded87ab3fb59066ac54a03ed6c9863e867f58dc565d449dfa43cd9a77a8", func := "loop.example/g03201/laws.FnExactAutomatonOk", spec := "fnExactAutomatonOk", unfollowed := true, recurses := true, apart := false }
def FnExactAutomatonOkSaid : Prop := fnExactAutomatonOkRow.holds Try.pinned (OpenSpec.ofChange fnExactAutomatonOkSpec)

/-- ITS FALSE NEIGHBOUR: 'it returns false'. Refute it at one input. -/
def fnExactAutomatonOkWrong : ChangeSpec := { name := "fnExactAutomatonOk", fn := fun _ => fun
  | [d] => { results := [.lit (.bool false)], args := [d] }
  | _ => none }
def FnExactAutomatonOkWrongFalsely : Prop := fnExactAutomatonOkRow.holds Try.pinned (OpenSpec.ofChange fnExactAutomatonOkWrong)

/-- 'laws.FnExactFreeSystem': WHATEVER THE INPUT: true; the input reads as it did. -/
def fnExactFreeSystemSpec : ChangeSpec := { name := "fnExactFreeSystem", fn := fun _ => fun
  | [d] => { results := [.lit (.bool true)], args := [d] }
  | _ => none }
def fnExactFreeSystemRow : OpenClaim := { program := "yticfcgcipiadeaa", sum := "f4c31ded87ab3fb59066ac54a03ed6c9863e867f58dc565d449dfa43cd9a77a8", func := "loop.example/g03201/laws.FnExactFreeSystem", spec := "fnExactFreeSystem", apart := false }
def FnExactFreeSystemSaid : Prop := fnExactFreeSystemRow.holds Try.pinned (OpenSpec.ofChange fnExactFreeSystemSpec)

/-- ITS FALSE NEIGHBOUR: 'it returns false'. Refute it at one input. -/
def fnExactFreeSystemWrong : ChangeSpec := { name := "fnExactFreeSystem", fn := fun _ => fun
  | [d] => { results := [.lit (.bool false)], args := [d] }
  | _ => none }
def FnExactFreeSystemWrongFalsely : Prop := fnExactFreeSystemRow.holds Try.pinned (OpenSpec.ofChange fnExactFreeSystemWrong)

/-- 'laws.FnExactProductOf': WHATEVER THE INPUT: true; the input reads as it did. -/
def fnExactProductOfSpec : ChangeSpec := { name := "fnExactProductOf", fn := fun _ => fun
  | [d1, d2, d3] => { results := [.lit (.bool true)], args := [d1, d2, d3] }
  | _ => none }
def fnExactProductOfRow : OpenClaim := { program := "yticfcgcipiadeaa", sum := "f4c31ded87ab3fb59066ac54a03ed6c9863e867f58dc565d449dfa43cd9a77a8", func := "loop.example/g03201/laws.FnExactProductOf", spec := "fnExactProductOf", unfollowed := true, recurses := true, apart := false }
def FnExactProductOfSaid : Prop := fnExactProductOfRow.holds Try.pinned (OpenSpec.ofChange fnExactProductOfSpec)

/-- ITS FALSE NEIGHBOUR: 'it returns false'. Refute it at one input. -/
def fnExactProductOfWrong : ChangeSpec := { name := "fnExactProductOf", fn := fun _ => fun
  | [d1, d2, d3] => { results := [.lit (.bool false)], args := [d1, d2, d3] }
  | _ => none }
def FnExactProductOfWrongFalsely : Prop := fnExactProductOfRow.holds Try.pinned (OpenSpec.ofChange fnExactProductOfWrong)

/-- 'laws.FnExactPowerOf': WHATEVER THE INPUT: true; the input reads as it did. -/
def fnExactPowerOfSpec : ChangeSpec := { name := "fnExactPowerOf", fn := fun _ => fun
  | [d1, d2, d3] => { results := [.lit (.bool true)], args := [d1, d2, d3] }
  | _ => none }
def fnExactPowerOfRow : OpenClaim := { program := "yticfcgcipiadeaa", sum := "f4c31ded87ab3fb59066ac54a03ed6c9863e867f58dc565d449dfa43cd9a77a8", func := "loop.example/g03201/laws.FnExactPowerOf", spec := "fnExactPowerOf", unfollowed := true, recurses := true, apart := false }
def FnExactPowerOfSaid : Prop := fnExactPowerOfRow.holds Try.pinned (OpenSpec.ofChange fnExactPowerOfSpec)

/-- ITS FALSE NEIGHBOUR: 'it returns false'. Refute it at one input. -/
def fnExactPowerOfWrong : ChangeSpec := { name := "fnExactPowerOf", fn := fun _ => fun
  | [d1, d2, d3] => { results := [.lit (.bool false)], args := [d1, d2, d3] }
  | _ => none }
def FnExactPowerOfWrongFalsely : Prop := fnExactPowerOfRow.holds Try.pinned (OpenSpec.ofChange fnExactPowerOfWrong)

/-- 'laws.FnExactTagStep': WHATEVER THE INPUT: true; the input reads as it did. -/
def fnExactTagStepSpec : ChangeSpec := { name := "fnExactTagStep", fn := fun _ => fun
  | [d1, d2] => { results := [.lit (.bool true)], args := [d1, d2] }
  | _ => none }
def fnExactTagStepRow : OpenClaim := { program := "yticfcgcipiadeaa", sum := "f4c31ded87ab3fb59066ac54a03ed6c9863e867f58dc565d449dfa43cd9a77a8", func := "loop.example/g03201/laws.FnExactTagStep", spec := "fnExactTagStep", unfollowed := true, recurses := true, apart := false }
def FnExactTagStepSaid : Prop := fnExactTagStepRow.holds Try.pinned (OpenSpec.ofChange fnExactTagStepSpec)

/-- ITS FALSE NEIGHBOUR: 'it returns false'. Refute it at one input. -/
def fnExactTagStepWrong : ChangeSpec := { name := "fnExactTagStep", fn := fun _ => fun
  | [d1, d2] => { results := [.lit (.bool false)], args := [d1, d2] }
  | _ => none }
def FnExactTagStepWrongFalsely : Prop := fnExactTagStepRow.holds Try.pinned (OpenSpec.ofChange fnExactTagStepWrong)

/-- 'laws.FnExactIndexPeriod': WHATEVER THE INPUT: true; the input reads as it did. -/
def fnExactIndexPeriodSpec : ChangeSpec := { name := "fnExactIndexPeriod", fn := fun _ => fun
  | [d1, d2] => { results := [.lit (.bool true)], args := [d1, d2] }
  | _ => none }
def fnExactIndexPeriodRow : OpenClaim := { program := "yticfcgcipiadeaa", sum := "f4c31ded87ab3fb59066ac54a03ed6c9863e867f58dc565d449dfa43cd9a77a8", func := "loop.example/g03201/laws.FnExactIndexPeriod", spec := "fnExactIndexPeriod", unfollowed := true, recurses := true, apart := false }
def FnExactIndexPeriodSaid : Prop := fnExactIndexPeriodRow.holds Try.pinned (OpenSpec.ofChange fnExactIndexPeriodSpec)

/-- ITS FALSE NEIGHBOUR: 'it returns false'. Refute it at one input. -/
def fnExactIndexPeriodWrong : ChangeSpec := { name := "fnExactIndexPeriod", fn := fun _ => fun
  | [d1, d2] => { results := [.lit (.bool false)], args := [d1, d2] }
  | _ => none }
def FnExactIndexPeriodWrongFalsely : Prop := fnExactIndexPeriodRow.holds Try.pinned (OpenSpec.ofChange fnExactIndexPeriodWrong)

/- THE SECOND FORM. 'bulk': how many values and letters a reading holds, each counted each time it is reached (what is shared counts as often as it is met; a slice's spare places count too). A statement '..UptoSaid' is the law's where the arguments, and the package variables that the reading takes, are together of bulk at most 1048576: NARROWER than '..Said'. Prove '..Said' where nothing that the law and all that it calls make is longer than what came in: it says more and counts as full. Else prove '..UptoSaid'. A law counts once. -/
mutual
def uptoBulk {H : Type} : DataW H → Nat
  | .lit (.string bytes) => bytes.length + 1
  | .lit _ => 1
  | .nil => 1
  | .ptr d => uptoBulk d + 1
  | .slice elems spare => uptoBulkAll elems + uptoBulkAll spare + 1
  | .agg parts => uptoBulkAll parts + 1
  | .iface _ d => uptoBulk d + 1
  | .map entries => uptoBulkEntries entries + 1
  | .held _ => 1
def uptoBulkAll {H : Type} : List (DataW H) → Nat
  | [] => 0
  | d :: r => uptoBulk d + uptoBulkAll r
def uptoBulkEntries {H : Type} : List (Lit × DataW H) → Nat
  | [] => 0
  | x :: r => uptoBulkEntry x + uptoBulkEntries r
def uptoBulkEntry {H : Type} : Lit × DataW H → Nat
  | (.string bytes, d) => bytes.length + uptoBulk d + 1
  | (_, d) => uptoBulk d + 1
 end
def uptoSmall : (H : Type) → List (DataW H) → Bool := fun _ ds => decide (uptoBulkAll ds ≤ 1048576)
def OpenSpec.upto (s : _root_.Go.ChangeSpec) : _root_.Go.OpenSpec := { _root_.Go.OpenSpec.ofChange s with cond := some uptoSmall }

/-- 'laws.FnExactCountFree', WHERE WHAT IT READS IS OF BULK AT MOST 1048576: true; the input reads as it did. -/
def fnExactCountFreeUptoRow : OpenClaim := { program := "yticfcgcipiadeaa", sum := "f4c31ded87ab3fb59066ac54a03ed6c9863e867f58dc565d449dfa43cd9a77a8", func := "loop.example/g03201/laws.FnExactCountFree", spec := "fnExactCountFree", apart := false, narrowed := true }
def FnExactCountFreeUptoSaid : Prop := fnExactCountFreeUptoRow.holds Try.pinned (OpenSpec.upto fnExactCountFreeSpec)

/-- 'laws.FnExactIsFreeForm', WHERE WHAT IT READS IS OF BULK AT MOST 1048576: true; the input reads as it did. -/
def fnExactIsFreeFormUptoRow : OpenClaim := { program := "yticfcgcipiadeaa", sum := "f4c31ded87ab3fb59066ac54a03ed6c9863e867f58dc565d449dfa43cd9a77a8", func := "loop.example/g03201/laws.FnExactIsFreeForm", spec := "fnExactIsFreeForm", apart := false, narrowed := true }
def FnExactIsFreeFormUptoSaid : Prop := fnExactIsFreeFormUptoRow.holds Try.pinned (OpenSpec.upto fnExactIsFreeFormSpec)

/-- 'laws.FnExactFreeInverse', WHERE WHAT IT READS IS OF BULK AT MOST 1048576: true; the input reads as it did. -/
def fnExactFreeInverseUptoRow : OpenClaim := { program := "yticfcgcipiadeaa", sum := "f4c31ded87ab3fb59066ac54a03ed6c9863e867f58dc565d449dfa43cd9a77a8", func := "loop.example/g03201/laws.FnExactFreeInverse", spec := "fnExactFreeInverse", apart := false, narrowed := true }
def FnExactFreeInverseUptoSaid : Prop := fnExactFreeInverseUptoRow.holds Try.pinned (OpenSpec.upto fnExactFreeInverseSpec)

/-- 'laws.FnExactFreeForm', WHERE WHAT IT READS IS OF BULK AT MOST 1048576: true; the input reads as it did. -/
def fnExactFreeFormUptoRow : OpenClaim := { program := "yticfcgcipiadeaa", sum := "f4c31ded87ab3fb59066ac54a03ed6c9863e867f58dc565d449dfa43cd9a77a8", func := "loop.example/g03201/laws.FnExactFreeForm", spec := "fnExactFreeForm", apart := false, narrowed := true }
def FnExactFreeFormUptoSaid : Prop := fnExactFreeFormUptoRow.holds Try.pinned (OpenSpec.upto fnExactFreeFormSpec)

/-- 'laws.FnExactFreeTimes', WHERE WHAT IT READS IS OF BULK AT MOST 1048576: true; the input reads as it did. -/
def fnExactFreeTimesUptoRow : OpenClaim := { program := "yticfcgcipiadeaa", sum := "f4c31ded87ab3fb59066ac54a03ed6c9863e867f58dc565d449dfa43cd9a77a8", func := "loop.example/g03201/laws.FnExactFreeTimes", spec := "fnExactFreeTimes", apart := false, narrowed := true }
def FnExactFreeTimesUptoSaid : Prop := fnExactFreeTimesUptoRow.holds Try.pinned (OpenSpec.upto fnExactFreeTimesSpec)

/-- 'laws.FnExactCoreOf', WHERE WHAT IT READS IS OF BULK AT MOST 1048576: true; the input reads as it did. -/
def fnExactCoreOfUptoRow : OpenClaim := { program := "yticfcgcipiadeaa", sum := "f4c31ded87ab3fb59066ac54a03ed6c9863e867f58dc565d449dfa43cd9a77a8", func := "loop.example/g03201/laws.FnExactCoreOf", spec := "fnExactCoreOf", apart := false, narrowed := true }
def FnExactCoreOfUptoSaid : Prop := fnExactCoreOfUptoRow.holds Try.pinned (OpenSpec.upto fnExactCoreOfSpec)

/-- 'laws.FnExactAutomatonOk', WHERE WHAT IT READS IS OF BULK AT MOST 1048576: true; the input reads as it did. -/
def fnExactAutomatonOkUptoRow : OpenClaim := { program := "yticfcgcipiadeaa", sum := "f4c31ded87ab3fb59066ac54a03ed6c9863e867f58dc565d449dfa43cd9a77a8", func := "loop.example/g03201/laws.FnExactAutomatonOk", spec := "fnExactAutomatonOk", unfollowed := true, recurses := true, apart := false, narrowed := true }
def FnExactAutomatonOkUptoSaid : Prop := fnExactAutomatonOkUptoRow.holds Try.pinned (OpenSpec.upto fnExactAutomatonOkSpec)

/-- 'laws.FnExactFreeSystem', WHERE WHAT IT READS IS OF BULK AT MOST 1048576: true; the input reads as it did. -/
def fnExactFreeSystemUptoRow : OpenClaim := { program := "yticfcgcipiadeaa", sum := "f4c31ded87ab3fb59066ac54a03ed6c9863e867f58dc565d449dfa43cd9a77a8", func := "loop.example/g03201/laws.FnExactFreeSystem", spec := "fnExactFreeSystem", apart := false, narrowed := true }
def FnExactFreeSystemUptoSaid : Prop := fnExactFreeSystemUptoRow.holds Try.pinned (OpenSpec.upto fnExactFreeSystemSpec)

/-- 'laws.FnExactProductOf', WHERE WHAT IT READS IS OF BULK AT MOST 1048576: true; the input reads as it did. -/
def fnExactProductOfUptoRow : OpenClaim := { program := "yticfcgcipiadeaa", sum := "f4c31ded87ab3fb59066ac54a03ed6c9863e867f58dc565d449dfa43cd9a77a8", func := "loop.example/g03201/laws.FnExactProductOf", spec := "fnExactProductOf", unfollowed := true, recurses := true, apart := false, narrowed := true }
def FnExactProductOfUptoSaid : Prop := fnExactProductOfUptoRow.holds Try.pinned (OpenSpec.upto fnExactProductOfSpec)

/-- 'laws.FnExactPowerOf', WHERE WHAT IT READS IS OF BULK AT MOST 1048576: true; the input reads as it did. -/
def fnExactPowerOfUptoRow : OpenClaim := { program := "yticfcgcipiadeaa", sum := "f4c31ded87ab3fb59066ac54a03ed6c9863e867f58dc565d449dfa43cd9a77a8", func := "loop.example/g03201/laws.FnExactPowerOf", spec := "fnExactPowerOf", unfollowed := true, recurses := true, apart := false, narrowed := true }
def FnExactPowerOfUptoSaid : Prop := fnExactPowerOfUptoRow.holds Try.pinned (OpenSpec.upto fnExactPowerOfSpec)

/-- 'laws.FnExactTagStep', WHERE WHAT IT READS IS OF BULK AT MOST 1048576: true; the input reads as it did. -/
def fnExactTagStepUptoRow : OpenClaim := { program := "yticfcgcipiadeaa", sum := "f4c31ded87ab3fb59066ac54a03ed6c9863e867f58dc565d449dfa43cd9a77a8", func := "loop.example/g03201/laws.FnExactTagStep", spec := "fnExactTagStep", unfollowed := true, recurses := true, apart := false, narrowed := true }
def FnExactTagStepUptoSaid : Prop := fnExactTagStepUptoRow.holds Try.pinned (OpenSpec.upto fnExactTagStepSpec)

/-- 'laws.FnExactIndexPeriod', WHERE WHAT IT READS IS OF BULK AT MOST 1048576: true; the input reads as it did. -/
def fnExactIndexPeriodUptoRow : OpenClaim := { program := "yticfcgcipiadeaa", sum := "f4c31ded87ab3fb59066ac54a03ed6c9863e867f58dc565d449dfa43cd9a77a8", func := "loop.example/g03201/laws.FnExactIndexPeriod", spec := "fnExactIndexPeriod", unfollowed := true, recurses := true, apart := false, narrowed := true }
def FnExactIndexPeriodUptoSaid : Prop := fnExactIndexPeriodUptoRow.holds Try.pinned (OpenSpec.upto fnExactIndexPeriodSpec)

end Rows
end Go.Proofs.Yticfcgcipiadeaa
