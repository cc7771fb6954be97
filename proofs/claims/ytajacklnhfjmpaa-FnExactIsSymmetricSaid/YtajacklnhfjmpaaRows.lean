/-
  No cell of these rows narrows 'for every input' (looked for: loops, veiled, ifaces, maps, wideKeys, modest, calm, conditions, laid).
  DERIVED. THE GIVEN ROWS OF THIS SEAT. 11 by the template 'for every input the law returns true; each argument reads behind the call as it read before'; 0 by the template 'total and deterministic' (their statements: YtajacklnhfjmpaaTotals.lean).
  GIVEN WITH THE SEED: the statements are not yours to turn. If you find one false, say at which input.
  Laid BY PROGRAM, IN A SANDBOX (cutbox-rows.mjs): the forced cells as the released guide's own fill.sh prints them over the translation dc3f7c4d00676e64… (all of the seat's roots in one cut). By AI agents, Wed Nov 11 2026. No macro, syntax, notation, axiom, sorry.
-/
import Derived.Test.YtajacklnhfjmpaaChecked
import GoSem.Claim
import GoSem.ClaimJoined
import GoSem.ClaimMapViews
import Derived.JoinedTies
import Derived.KernelRfl
namespace Go.Proofs.Ytajacklnhfjmpaa
/- THE CELL 'sum', in the pinned program and in every row, IS THE sha256 OF THE DUMP (.gsa) THAT YtajacklnhfjmpaaProg.lean LOADS. Nothing in Lean hashes anything: it is a label: what it is worth is what the hold of that sum in a sandbox is worth. -/
noncomputable def Try.pinned : Pinned := { name := "ytajacklnhfjmpaa", sum := "dc3f7c4d00676e643603d1a062f9190cf2467f4a0c81f028290082786adb4b9b", checked := Try.checked }
namespace Rows
def none {H : Type} : Left H := { results := [], args := [] }

/-- 'laws.FnExactIsSymmetric': WHATEVER THE INPUT: true; the input reads as it did. -/
def fnExactIsSymmetricSpec : ChangeSpec := { name := "fnExactIsSymmetric", fn := fun _ => fun
  | [d1, d2] => { results := [.lit (.bool true)], args := [d1, d2] }
  | _ => none }
def fnExactIsSymmetricRow : OpenClaim := { program := "ytajacklnhfjmpaa", sum := "dc3f7c4d00676e643603d1a062f9190cf2467f4a0c81f028290082786adb4b9b", func := "loop.example/g03201/laws.FnExactIsSymmetric", spec := "fnExactIsSymmetric", unfollowed := true, recurses := true, apart := false }
def FnExactIsSymmetricSaid : Prop := fnExactIsSymmetricRow.holds Try.pinned (OpenSpec.ofChange fnExactIsSymmetricSpec)

/-- ITS FALSE NEIGHBOUR: 'it returns false'. Refute it at one input. -/
def fnExactIsSymmetricWrong : ChangeSpec := { name := "fnExactIsSymmetric", fn := fun _ => fun
  | [d1, d2] => { results := [.lit (.bool false)], args := [d1, d2] }
  | _ => none }
def FnExactIsSymmetricWrongFalsely : Prop := fnExactIsSymmetricRow.holds Try.pinned (OpenSpec.ofChange fnExactIsSymmetricWrong)

/-- 'laws.FnNormal': WHATEVER THE INPUT: true; the input reads as it did. -/
def fnNormalSpec : ChangeSpec := { name := "fnNormal", fn := fun _ => fun
  | [d] => { results := [.lit (.bool true)], args := [d] }
  | _ => none }
def fnNormalRow : OpenClaim := { program := "ytajacklnhfjmpaa", sum := "dc3f7c4d00676e643603d1a062f9190cf2467f4a0c81f028290082786adb4b9b", func := "loop.example/g03201/laws.FnNormal", spec := "fnNormal", unfollowed := true, recurses := true, apart := false }
def FnNormalSaid : Prop := fnNormalRow.holds Try.pinned (OpenSpec.ofChange fnNormalSpec)

/-- ITS FALSE NEIGHBOUR: 'it returns false'. Refute it at one input. -/
def fnNormalWrong : ChangeSpec := { name := "fnNormal", fn := fun _ => fun
  | [d] => { results := [.lit (.bool false)], args := [d] }
  | _ => none }
def FnNormalWrongFalsely : Prop := fnNormalRow.holds Try.pinned (OpenSpec.ofChange fnNormalWrong)

/-- 'laws.FnExactAccepts': WHATEVER THE INPUT: true; the input reads as it did. -/
def fnExactAcceptsSpec : ChangeSpec := { name := "fnExactAccepts", fn := fun _ => fun
  | [d1, d2] => { results := [.lit (.bool true)], args := [d1, d2] }
  | _ => none }
def fnExactAcceptsRow : OpenClaim := { program := "ytajacklnhfjmpaa", sum := "dc3f7c4d00676e643603d1a062f9190cf2467f4a0c81f028290082786adb4b9b", func := "loop.example/g03201/laws.FnExactAccepts", spec := "fnExactAccepts", unfollowed := true, recurses := true, apart := false }
def FnExactAcceptsSaid : Prop := fnExactAcceptsRow.holds Try.pinned (OpenSpec.ofChange fnExactAcceptsSpec)

/-- ITS FALSE NEIGHBOUR: 'it returns false'. Refute it at one input. -/
def fnExactAcceptsWrong : ChangeSpec := { name := "fnExactAccepts", fn := fun _ => fun
  | [d1, d2] => { results := [.lit (.bool false)], args := [d1, d2] }
  | _ => none }
def FnExactAcceptsWrongFalsely : Prop := fnExactAcceptsRow.holds Try.pinned (OpenSpec.ofChange fnExactAcceptsWrong)

/-- 'laws.FnExactFoldedOk': WHATEVER THE INPUT: true; the input reads as it did. -/
def fnExactFoldedOkSpec : ChangeSpec := { name := "fnExactFoldedOk", fn := fun _ => fun
  | [d] => { results := [.lit (.bool true)], args := [d] }
  | _ => none }
def fnExactFoldedOkRow : OpenClaim := { program := "ytajacklnhfjmpaa", sum := "dc3f7c4d00676e643603d1a062f9190cf2467f4a0c81f028290082786adb4b9b", func := "loop.example/g03201/laws.FnExactFoldedOk", spec := "fnExactFoldedOk", apart := false }
def FnExactFoldedOkSaid : Prop := fnExactFoldedOkRow.holds Try.pinned (OpenSpec.ofChange fnExactFoldedOkSpec)

/-- ITS FALSE NEIGHBOUR: 'it returns false'. Refute it at one input. -/
def fnExactFoldedOkWrong : ChangeSpec := { name := "fnExactFoldedOk", fn := fun _ => fun
  | [d] => { results := [.lit (.bool false)], args := [d] }
  | _ => none }
def FnExactFoldedOkWrongFalsely : Prop := fnExactFoldedOkRow.holds Try.pinned (OpenSpec.ofChange fnExactFoldedOkWrong)

/-- 'laws.FnExactCountAccepted': WHATEVER THE INPUT: true; the input reads as it did. -/
def fnExactCountAcceptedSpec : ChangeSpec := { name := "fnExactCountAccepted", fn := fun _ => fun
  | [d1, d2] => { results := [.lit (.bool true)], args := [d1, d2] }
  | _ => none }
def fnExactCountAcceptedRow : OpenClaim := { program := "ytajacklnhfjmpaa", sum := "dc3f7c4d00676e643603d1a062f9190cf2467f4a0c81f028290082786adb4b9b", func := "loop.example/g03201/laws.FnExactCountAccepted", spec := "fnExactCountAccepted", unfollowed := true, recurses := true, apart := false }
def FnExactCountAcceptedSaid : Prop := fnExactCountAcceptedRow.holds Try.pinned (OpenSpec.ofChange fnExactCountAcceptedSpec)

/-- ITS FALSE NEIGHBOUR: 'it returns false'. Refute it at one input. -/
def fnExactCountAcceptedWrong : ChangeSpec := { name := "fnExactCountAccepted", fn := fun _ => fun
  | [d1, d2] => { results := [.lit (.bool false)], args := [d1, d2] }
  | _ => none }
def FnExactCountAcceptedWrongFalsely : Prop := fnExactCountAcceptedRow.holds Try.pinned (OpenSpec.ofChange fnExactCountAcceptedWrong)

/-- 'laws.FnExactIndexOf': WHATEVER THE INPUT: true; the input reads as it did. -/
def fnExactIndexOfSpec : ChangeSpec := { name := "fnExactIndexOf", fn := fun _ => fun
  | [d] => { results := [.lit (.bool true)], args := [d] }
  | _ => none }
def fnExactIndexOfRow : OpenClaim := { program := "ytajacklnhfjmpaa", sum := "dc3f7c4d00676e643603d1a062f9190cf2467f4a0c81f028290082786adb4b9b", func := "loop.example/g03201/laws.FnExactIndexOf", spec := "fnExactIndexOf", apart := false }
def FnExactIndexOfSaid : Prop := fnExactIndexOfRow.holds Try.pinned (OpenSpec.ofChange fnExactIndexOfSpec)

/-- ITS FALSE NEIGHBOUR: 'it returns false'. Refute it at one input. -/
def fnExactIndexOfWrong : ChangeSpec := { name := "fnExactIndexOf", fn := fun _ => fun
  | [d] => { results := [.lit (.bool false)], args := [d] }
  | _ => none }
def FnExactIndexOfWrongFalsely : Prop := fnExactIndexOfRow.holds Try.pinned (OpenSpec.ofChange fnExactIndexOfWrong)

/-- 'laws.FnExactRankOf': WHATEVER THE INPUT: true; the input reads as it did. -/
def fnExactRankOfSpec : ChangeSpec := { name := "fnExactRankOf", fn := fun _ => fun
  | [d] => { results := [.lit (.bool true)], args := [d] }
  | _ => none }
def fnExactRankOfRow : OpenClaim := { program := "ytajacklnhfjmpaa", sum := "dc3f7c4d00676e643603d1a062f9190cf2467f4a0c81f028290082786adb4b9b", func := "loop.example/g03201/laws.FnExactRankOf", spec := "fnExactRankOf", apart := false }
def FnExactRankOfSaid : Prop := fnExactRankOfRow.holds Try.pinned (OpenSpec.ofChange fnExactRankOfSpec)

/-- ITS FALSE NEIGHBOUR: 'it returns false'. Refute it at one input. -/
def fnExactRankOfWrong : ChangeSpec := { name := "fnExactRankOf", fn := fun _ => fun
  | [d] => { results := [.lit (.bool false)], args := [d] }
  | _ => none }
def FnExactRankOfWrongFalsely : Prop := fnExactRankOfRow.holds Try.pinned (OpenSpec.ofChange fnExactRankOfWrong)

/-- 'laws.FnExactCountValues': WHATEVER THE INPUT: true; the input reads as it did. -/
def fnExactCountValuesSpec : ChangeSpec := { name := "fnExactCountValues", fn := fun _ => fun
  | [d1, d2, d3] => { results := [.lit (.bool true)], args := [d1, d2, d3] }
  | _ => none }
def fnExactCountValuesRow : OpenClaim := { program := "ytajacklnhfjmpaa", sum := "dc3f7c4d00676e643603d1a062f9190cf2467f4a0c81f028290082786adb4b9b", func := "loop.example/g03201/laws.FnExactCountValues", spec := "fnExactCountValues", unfollowed := true, recurses := true, apart := false }
def FnExactCountValuesSaid : Prop := fnExactCountValuesRow.holds Try.pinned (OpenSpec.ofChange fnExactCountValuesSpec)

/-- ITS FALSE NEIGHBOUR: 'it returns false'. Refute it at one input. -/
def fnExactCountValuesWrong : ChangeSpec := { name := "fnExactCountValues", fn := fun _ => fun
  | [d1, d2, d3] => { results := [.lit (.bool false)], args := [d1, d2, d3] }
  | _ => none }
def FnExactCountValuesWrongFalsely : Prop := fnExactCountValuesRow.holds Try.pinned (OpenSpec.ofChange fnExactCountValuesWrong)

/-- 'laws.FnFolds': WHATEVER THE INPUT: true; the input reads as it did. -/
def fnFoldsSpec : ChangeSpec := { name := "fnFolds", fn := fun _ => fun
  | [d] => { results := [.lit (.bool true)], args := [d] }
  | _ => none }
def fnFoldsRow : OpenClaim := { program := "ytajacklnhfjmpaa", sum := "dc3f7c4d00676e643603d1a062f9190cf2467f4a0c81f028290082786adb4b9b", func := "loop.example/g03201/laws.FnFolds", spec := "fnFolds", unfollowed := true, recurses := true, apart := false }
def FnFoldsSaid : Prop := fnFoldsRow.holds Try.pinned (OpenSpec.ofChange fnFoldsSpec)

/-- ITS FALSE NEIGHBOUR: 'it returns false'. Refute it at one input. -/
def fnFoldsWrong : ChangeSpec := { name := "fnFolds", fn := fun _ => fun
  | [d] => { results := [.lit (.bool false)], args := [d] }
  | _ => none }
def FnFoldsWrongFalsely : Prop := fnFoldsRow.holds Try.pinned (OpenSpec.ofChange fnFoldsWrong)

/-- 'laws.FnExactTagRun': WHATEVER THE INPUT: true; the input reads as it did. -/
def fnExactTagRunSpec : ChangeSpec := { name := "fnExactTagRun", fn := fun _ => fun
  | [d1, d2, d3] => { results := [.lit (.bool true)], args := [d1, d2, d3] }
  | _ => none }
def fnExactTagRunRow : OpenClaim := { program := "ytajacklnhfjmpaa", sum := "dc3f7c4d00676e643603d1a062f9190cf2467f4a0c81f028290082786adb4b9b", func := "loop.example/g03201/laws.FnExactTagRun", spec := "fnExactTagRun", unfollowed := true, recurses := true, apart := false }
def FnExactTagRunSaid : Prop := fnExactTagRunRow.holds Try.pinned (OpenSpec.ofChange fnExactTagRunSpec)

/-- ITS FALSE NEIGHBOUR: 'it returns false'. Refute it at one input. -/
def fnExactTagRunWrong : ChangeSpec := { name := "fnExactTagRun", fn := fun _ => fun
  | [d1, d2, d3] => { results := [.lit (.bool false)], args := [d1, d2, d3] }
  | _ => none }
def FnExactTagRunWrongFalsely : Prop := fnExactTagRunRow.holds Try.pinned (OpenSpec.ofChange fnExactTagRunWrong)

/-- 'laws.FnExactTagLoop': WHATEVER THE INPUT: true; the input reads as it did. -/
def fnExactTagLoopSpec : ChangeSpec := { name := "fnExactTagLoop", fn := fun _ => fun
  | [d1, d2] => { results := [.lit (.bool true)], args := [d1, d2] }
  | _ => none }
def fnExactTagLoopRow : OpenClaim := { program := "ytajacklnhfjmpaa", sum := "dc3f7c4d00676e643603d1a062f9190cf2467f4a0c81f028290082786adb4b9b", func := "loop.example/g03201/laws.FnExactTagLoop", spec := "fnExactTagLoop", unfollowed := true, recurses := true, apart := false }
def FnExactTagLoopSaid : Prop := fnExactTagLoopRow.holds Try.pinned (OpenSpec.ofChange fnExactTagLoopSpec)

/-- ITS FALSE NEIGHBOUR: 'it returns false'. Refute it at one input. -/
def fnExactTagLoopWrong : ChangeSpec := { name := "fnExactTagLoop", fn := fun _ => fun
  | [d1, d2] => { results := [.lit (.bool false)], args := [d1, d2] }
  | _ => none }
def FnExactTagLoopWrongFalsely : Prop := fnExactTagLoopRow.holds Try.pinned (OpenSpec.ofChange fnExactTagLoopWrong)

/- THE SECOND FORM. 'bulk': how many values and letters a reading holds, each counted each time it is reached (what is shared counts as often as it is met; a slice's spare places count too). A statement '..UptoSaid' is the law's where the arguments, and the package variables that the reading takes, are together of bulk at most 1048576: NARROWER than '..Said'. Prove '..Said' where nothing that the law and all that it calls make is longer than what came in: it says more and counts as full. Else prove '..UptoSaid'. A law counts once. -/
mutual
def uptoBulk {H : Type} : DataW H → Nat
  | .lit (.string bytes) => bytes.length + 1
  | .lit _ => 1
  | .nil => 1
  | .ptr d => uptoBulk d + 1
  | .slice elems spare => uptoBulkAll elems + uptoBulkAll spare + 1
  | .agg parts => uptoBulkAll parts + 1
  | .iface _ d => uptoBulk d + 1
  | .map entries => uptoBulkEntries entries + 1
  | .held _ => 1
def uptoBulkAll {H : Type} : List (DataW H) → Nat
  | [] => 0
  | d :: r => uptoBulk d + uptoBulkAll r
def uptoBulkEntries {H : Type} : List (Lit × DataW H) → Nat
  | [] => 0
  | x :: r => uptoBulkEntry x + uptoBulkEntries r
def uptoBulkEntry {H : Type} : Lit × DataW H → Nat
  | (.string bytes, d) => bytes.length + uptoBulk d + 1
  | (_, d) => uptoBulk d + 1
 end
def uptoSmall : (H : Type) → List (DataW H) → Bool := fun _ ds => decide (uptoBulkAll ds ≤ 1048576)
def OpenSpec.upto (s : _root_.Go.ChangeSpec) : _root_.Go.OpenSpec := { _root_.Go.OpenSpec.ofChange s with cond := some uptoSmall }

/-- 'laws.FnExactIsSymmetric', WHERE WHAT IT READS IS OF BULK AT MOST 1048576: true; the input reads as it did. -/
def fnExactIsSymmetricUptoRow : OpenClaim := { program := "ytajacklnhfjmpaa", sum := "dc3f7c4d00676e643603d1a062f9190cf2467f4a0c81f028290082786adb4b9b", func := "loop.example/g03201/laws.FnExactIsSymmetric", spec := "fnExactIsSymmetric", unfollowed := true, recurses := true, apart := false, narrowed := true }
def FnExactIsSymmetricUptoSaid : Prop := fnExactIsSymmetricUptoRow.holds Try.pinned (OpenSpec.upto fnExactIsSymmetricSpec)

/-- 'laws.FnNormal', WHERE WHAT IT READS IS OF BULK AT MOST 1048576: true; the input reads as it did. -/
def fnNormalUptoRow : OpenClaim := { program := "ytajacklnhfjmpaa", sum := "dc3f7c4d00676e643603d1a062f9190cf2467f4a0c81f028290082786adb4b9b", func := "loop.example/g03201/laws.FnNormal", spec := "fnNormal", unfollowed := true, recurses := true, apart := false, narrowed := true }
def FnNormalUptoSaid : Prop := fnNormalUptoRow.holds Try.pinned (OpenSpec.upto fnNormalSpec)

/-- 'laws.FnExactAccepts', WHERE WHAT IT READS IS OF BULK AT MOST 1048576: true; the input reads as it did. -/
def fnExactAcceptsUptoRow : OpenClaim := { program := "ytajacklnhfjmpaa", sum := "dc3f7c4d00676e643603d1a062f9190cf2467f4a0c81f028290082786adb4b9b", func := "loop.example/g03201/laws.FnExactAccepts", spec := "fnExactAccepts", unfollowed := true, recurses := true, apart := false, narrowed := true }
def FnExactAcceptsUptoSaid : Prop := fnExactAcceptsUptoRow.holds Try.pinned (OpenSpec.upto fnExactAcceptsSpec)

/-- 'laws.FnExactFoldedOk', WHERE WHAT IT READS IS OF BULK AT MOST 1048576: true; the input reads as it did. -/
def fnExactFoldedOkUptoRow : OpenClaim := { program := "ytajacklnhfjmpaa", sum := "dc3f7c4d00676e643603d1a062f9190cf2467f4a0c81f028290082786adb4b9b", func := "loop.example/g03201/laws.FnExactFoldedOk", spec := "fnExactFoldedOk", apart := false, narrowed := true }
def FnExactFoldedOkUptoSaid : Prop := fnExactFoldedOkUptoRow.holds Try.pinned (OpenSpec.upto fnExactFoldedOkSpec)

/-- 'laws.FnExactCountAccepted', WHERE WHAT IT READS IS OF BULK AT MOST 1048576: true; the input reads as it did. -/
def fnExactCountAcceptedUptoRow : OpenClaim := { program := "ytajacklnhfjmpaa", sum := "dc3f7c4d00676e643603d1a062f9190cf2467f4a0c81f028290082786adb4b9b", func := "loop.example/g03201/laws.FnExactCountAccepted", spec := "fnExactCountAccepted", unfollowed := true, recurses := true, apart := false, narrowed := true }
def FnExactCountAcceptedUptoSaid : Prop := fnExactCountAcceptedUptoRow.holds Try.pinned (OpenSpec.upto fnExactCountAcceptedSpec)

/-- 'laws.FnExactIndexOf', WHERE WHAT IT READS IS OF BULK AT MOST 1048576: true; the input reads as it did. -/
def fnExactIndexOfUptoRow : OpenClaim := { program := "ytajacklnhfjmpaa", sum := "dc3f7c4d00676e643603d1a062f9190cf2467f4a0c81f028290082786adb4b9b", func := "loop.example/g03201/laws.FnExactIndexOf", spec := "fnExactIndexOf", apart := false, narrowed := true }
def FnExactIndexOfUptoSaid : Prop := fnExactIndexOfUptoRow.holds Try.pinned (OpenSpec.upto fnExactIndexOfSpec)

/-- 'laws.FnExactRankOf', WHERE WHAT IT READS IS OF BULK AT MOST 1048576: true; the input reads as it did. -/
def fnExactRankOfUptoRow : OpenClaim := { program := "ytajacklnhfjmpaa", sum := "dc3f7c4d00676e643603d1a062f9190cf2467f4a0c81f028290082786adb4b9b", func := "loop.example/g03201/laws.FnExactRankOf", spec := "fnExactRankOf", apart := false, narrowed := true }
def FnExactRankOfUptoSaid : Prop := fnExactRankOfUptoRow.holds Try.pinned (OpenSpec.upto fnExactRankOfSpec)

/-- 'laws.FnExactCountValues', WHERE WHAT IT READS IS OF BULK AT MOST 1048576: true; the input reads as it did. -/
def fnExactCountValuesUptoRow : OpenClaim := { program := "ytajacklnhfjmpaa", sum := "dc3f7c4d00676e643603d1a062f9190cf2467f4a0c81f028290082786adb4b9b", func := "loop.example/g03201/laws.FnExactCountValues", spec := "fnExactCountValues", unfollowed := true, recurses := true, apart := false, narrowed := true }
def FnExactCountValuesUptoSaid : Prop := fnExactCountValuesUptoRow.holds Try.pinned (OpenSpec.upto fnExactCountValuesSpec)

/-- 'laws.FnFolds', WHERE WHAT IT READS IS OF BULK AT MOST 1048576: true; the input reads as it did. -/
def fnFoldsUptoRow : OpenClaim := { program := "ytajacklnhfjmpaa", sum := "dc3f7c4d00676e643603d1a062f9190cf2467f4a0c81f028290082786adb4b9b", func := "loop.example/g03201/laws.FnFolds", spec := "fnFolds", unfollowed := true, recurses := true, apart := false, narrowed := true }
def FnFoldsUptoSaid : Prop := fnFoldsUptoRow.holds Try.pinned (OpenSpec.upto fnFoldsSpec)

/-- 'laws.FnExactTagRun', WHERE WHAT IT READS IS OF BULK AT MOST 1048576: true; the input reads as it did. -/
def fnExactTagRunUptoRow : OpenClaim := { program := "ytajacklnhfjmpaa", sum := "dc3f7c4d00676e643603d1a062f9190cf2467f4a0c81f028290082786adb4b9b", func := "loop.example/g03201/laws.FnExactTagRun", spec := "fnExactTagRun", unfollowed := true, recurses := true, apart := false, narrowed := true }
def FnExactTagRunUptoSaid : Prop := fnExactTagRunUptoRow.holds Try.pinned (OpenSpec.upto fnExactTagRunSpec)

/-- 'laws.FnExactTagLoop', WHERE WHAT IT READS IS OF BULK AT MOST 1048576: true; the input reads as it did. -/
def fnExactTagLoopUptoRow : OpenClaim := { program := "ytajacklnhfjmpaa", sum := "dc3f7c4d00676e643603d1a062f9190cf2467f4a0c81f028290082786adb4b9b", func := "loop.example/g03201/laws.FnExactTagLoop", spec := "fnExactTagLoop", unfollowed := true, recurses := true, apart := false, narrowed := true }
def FnExactTagLoopUptoSaid : Prop := fnExactTagLoopUptoRow.holds Try.pinned (OpenSpec.upto fnExactTagLoopSpec)

end Rows
end Go.Proofs.Ytajacklnhfjmpaa
