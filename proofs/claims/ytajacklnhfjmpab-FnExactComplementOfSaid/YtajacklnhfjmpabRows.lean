/-
  No cell of these rows narrows 'for every input' (looked for: loops, veiled, ifaces, maps, wideKeys, modest, calm, conditions, laid).
  DERIVED. THE GIVEN ROWS OF THIS SEAT. 12 by the template 'for every input the law returns true; each argument reads behind the call as it read before'; 0 by the template 'total and deterministic' (their statements: YtajacklnhfjmpabTotals.lean).
  GIVEN WITH THE SEED: the statements are not yours to turn. If you find one false, say at which input.
  Laid BY PROGRAM, IN A SANDBOX (cutbox-rows.mjs): the forced cells as the released guide's own fill.sh prints them over the translation 1c4ca8b29aecc7ae… (all of the seat's roots in one cut). By AI agents, Wed Nov 11 2026. No macro, syntax, notation, axiom, sorry.
-/
import Derived.Test.YtajacklnhfjmpabChecked
import GoSem.Claim
import GoSem.ClaimJoined
import GoSem.ClaimMapViews
import Derived.JoinedTies
import Derived.KernelRfl
namespace Go.Proofs.Ytajacklnhfjmpab
/- THE CELL 'sum', in the pinned program and in every row, IS THE sha256 OF THE DUMP (.gsa) THAT YtajacklnhfjmpabProg.lean LOADS. Nothing in Lean hashes anything: it is a label: what it is worth is what the hold of that sum in a sandbox is worth. -/
noncomputable def Try.pinned : Pinned := { name := "ytajacklnhfjmpab", sum := "1c4ca8b29aecc7ae50e4c0cdddfb807b4aaedc87daa8a13a33d3af2398f822f3", checked := Try.checked }
namespace Rows
def none {H : Type} : Left H := { results := [], args := [] }

/-- 'laws.FnExactComplementOf': WHATEVER THE INPUT: true; the input reads as it did. -/
def fnExactComplementOfSpec : ChangeSpec := { name := "fnExactComplementOf", fn := fun _ => fun
  | [d] => { results := [.lit (.bool true)], args := [d] }
  | _ => none }
def fnExactComplementOfRow : OpenClaim := { program := "ytajacklnhfjmpab", sum := "1c4ca8b29aecc7ae50e4c0cdddfb807b4aaedc87daa8a13a33d3af2398f822f3", func := "loop.example/g03201/laws.FnExactComplementOf", spec := "fnExactComplementOf", unfollowed := true, recurses := true, apart := false }
def FnExactComplementOfSaid : Prop := fnExactComplementOfRow.holds Try.pinned (OpenSpec.ofChange fnExactComplementOfSpec)

/-- ITS FALSE NEIGHBOUR: 'it returns false'. Refute it at one input. -/
def fnExactComplementOfWrong : ChangeSpec := { name := "fnExactComplementOf", fn := fun _ => fun
  | [d] => { results := [.lit (.bool false)], args := [d] }
  | _ => none }
def FnExactComplementOfWrongFalsely : Prop := fnExactComplementOfRow.holds Try.pinned (OpenSpec.ofChange fnExactComplementOfWrong)

/-- 'laws.FnExactTagWords': WHATEVER THE INPUT: true; the input reads as it did. -/
def fnExactTagWordsSpec : ChangeSpec := { name := "fnExactTagWords", fn := fun _ => fun
  | [d1, d2, d3] => { results := [.lit (.bool true)], args := [d1, d2, d3] }
  | _ => none }
def fnExactTagWordsRow : OpenClaim := { program := "ytajacklnhfjmpab", sum := "1c4ca8b29aecc7ae50e4c0cdddfb807b4aaedc87daa8a13a33d3af2398f822f3", func := "loop.example/g03201/laws.FnExactTagWords", spec := "fnExactTagWords", unfollowed := true, recurses := true, apart := false }
def FnExactTagWordsSaid : Prop := fnExactTagWordsRow.holds Try.pinned (OpenSpec.ofChange fnExactTagWordsSpec)

/-- ITS FALSE NEIGHBOUR: 'it returns false'. Refute it at one input. -/
def fnExactTagWordsWrong : ChangeSpec := { name := "fnExactTagWords", fn := fun _ => fun
  | [d1, d2, d3] => { results := [.lit (.bool false)], args := [d1, d2, d3] }
  | _ => none }
def FnExactTagWordsWrongFalsely : Prop := fnExactTagWordsRow.holds Try.pinned (OpenSpec.ofChange fnExactTagWordsWrong)

/-- 'laws.FnExactAreFreeConjugate': WHATEVER THE INPUT: true; the input reads as it did. -/
def fnExactAreFreeConjugateSpec : ChangeSpec := { name := "fnExactAreFreeConjugate", fn := fun _ => fun
  | [d1, d2, d3] => { results := [.lit (.bool true)], args := [d1, d2, d3] }
  | _ => none }
def fnExactAreFreeConjugateRow : OpenClaim := { program := "ytajacklnhfjmpab", sum := "1c4ca8b29aecc7ae50e4c0cdddfb807b4aaedc87daa8a13a33d3af2398f822f3", func := "loop.example/g03201/laws.FnExactAreFreeConjugate", spec := "fnExactAreFreeConjugate", inPlace := ["internal/bytealg.IndexByteString", "internal/bytealg.IndexString"], named := ["internal/bytealg.MaxLen"], apart := false }
def FnExactAreFreeConjugateSaid : Prop := fnExactAreFreeConjugateRow.holds Try.pinned (OpenSpec.ofChange fnExactAreFreeConjugateSpec)

/-- ITS FALSE NEIGHBOUR: 'it returns false'. Refute it at one input. -/
def fnExactAreFreeConjugateWrong : ChangeSpec := { name := "fnExactAreFreeConjugate", fn := fun _ => fun
  | [d1, d2, d3] => { results := [.lit (.bool false)], args := [d1, d2, d3] }
  | _ => none }
def FnExactAreFreeConjugateWrongFalsely : Prop := fnExactAreFreeConjugateRow.holds Try.pinned (OpenSpec.ofChange fnExactAreFreeConjugateWrong)

/-- 'laws.FnExactShortestWord': WHATEVER THE INPUT: true; the input reads as it did. -/
def fnExactShortestWordSpec : ChangeSpec := { name := "fnExactShortestWord", fn := fun _ => fun
  | [d1, d2, d3] => { results := [.lit (.bool true)], args := [d1, d2, d3] }
  | _ => none }
def fnExactShortestWordRow : OpenClaim := { program := "ytajacklnhfjmpab", sum := "1c4ca8b29aecc7ae50e4c0cdddfb807b4aaedc87daa8a13a33d3af2398f822f3", func := "loop.example/g03201/laws.FnExactShortestWord", spec := "fnExactShortestWord", unfollowed := true, recurses := true, apart := false }
def FnExactShortestWordSaid : Prop := fnExactShortestWordRow.holds Try.pinned (OpenSpec.ofChange fnExactShortestWordSpec)

/-- ITS FALSE NEIGHBOUR: 'it returns false'. Refute it at one input. -/
def fnExactShortestWordWrong : ChangeSpec := { name := "fnExactShortestWord", fn := fun _ => fun
  | [d1, d2, d3] => { results := [.lit (.bool false)], args := [d1, d2, d3] }
  | _ => none }
def FnExactShortestWordWrongFalsely : Prop := fnExactShortestWordRow.holds Try.pinned (OpenSpec.ofChange fnExactShortestWordWrong)

/-- 'laws.FnExactWalkWord': WHATEVER THE INPUT: true; the input reads as it did. -/
def fnExactWalkWordSpec : ChangeSpec := { name := "fnExactWalkWord", fn := fun _ => fun
  | [d1, d2, d3] => { results := [.lit (.bool true)], args := [d1, d2, d3] }
  | _ => none }
def fnExactWalkWordRow : OpenClaim := { program := "ytajacklnhfjmpab", sum := "1c4ca8b29aecc7ae50e4c0cdddfb807b4aaedc87daa8a13a33d3af2398f822f3", func := "loop.example/g03201/laws.FnExactWalkWord", spec := "fnExactWalkWord", unfollowed := true, recurses := true, apart := false }
def FnExactWalkWordSaid : Prop := fnExactWalkWordRow.holds Try.pinned (OpenSpec.ofChange fnExactWalkWordSpec)

/-- ITS FALSE NEIGHBOUR: 'it returns false'. Refute it at one input. -/
def fnExactWalkWordWrong : ChangeSpec := { name := "fnExactWalkWord", fn := fun _ => fun
  | [d1, d2, d3] => { results := [.lit (.bool false)], args := [d1, d2, d3] }
  | _ => none }
def FnExactWalkWordWrongFalsely : Prop := fnExactWalkWordRow.holds Try.pinned (OpenSpec.ofChange fnExactWalkWordWrong)

/-- 'laws.FnExactMeetOf': WHATEVER THE INPUT: true; the input reads as it did. -/
def fnExactMeetOfSpec : ChangeSpec := { name := "fnExactMeetOf", fn := fun _ => fun
  | [d1, d2] => { results := [.lit (.bool true)], args := [d1, d2] }
  | _ => none }
def fnExactMeetOfRow : OpenClaim := { program := "ytajacklnhfjmpab", sum := "1c4ca8b29aecc7ae50e4c0cdddfb807b4aaedc87daa8a13a33d3af2398f822f3", func := "loop.example/g03201/laws.FnExactMeetOf", spec := "fnExactMeetOf", unfollowed := true, recurses := true, apart := false }
def FnExactMeetOfSaid : Prop := fnExactMeetOfRow.holds Try.pinned (OpenSpec.ofChange fnExactMeetOfSpec)

/-- ITS FALSE NEIGHBOUR: 'it returns false'. Refute it at one input. -/
def fnExactMeetOfWrong : ChangeSpec := { name := "fnExactMeetOf", fn := fun _ => fun
  | [d1, d2] => { results := [.lit (.bool false)], args := [d1, d2] }
  | _ => none }
def FnExactMeetOfWrongFalsely : Prop := fnExactMeetOfRow.holds Try.pinned (OpenSpec.ofChange fnExactMeetOfWrong)

/-- 'laws.FnExactDiameterOf': WHATEVER THE INPUT: true; the input reads as it did. -/
def fnExactDiameterOfSpec : ChangeSpec := { name := "fnExactDiameterOf", fn := fun _ => fun
  | [d1, d2] => { results := [.lit (.bool true)], args := [d1, d2] }
  | _ => none }
def fnExactDiameterOfRow : OpenClaim := { program := "ytajacklnhfjmpab", sum := "1c4ca8b29aecc7ae50e4c0cdddfb807b4aaedc87daa8a13a33d3af2398f822f3", func := "loop.example/g03201/laws.FnExactDiameterOf", spec := "fnExactDiameterOf", unfollowed := true, recurses := true, apart := false }
def FnExactDiameterOfSaid : Prop := fnExactDiameterOfRow.holds Try.pinned (OpenSpec.ofChange fnExactDiameterOfSpec)

/-- ITS FALSE NEIGHBOUR: 'it returns false'. Refute it at one input. -/
def fnExactDiameterOfWrong : ChangeSpec := { name := "fnExactDiameterOf", fn := fun _ => fun
  | [d1, d2] => { results := [.lit (.bool false)], args := [d1, d2] }
  | _ => none }
def FnExactDiameterOfWrongFalsely : Prop := fnExactDiameterOfRow.holds Try.pinned (OpenSpec.ofChange fnExactDiameterOfWrong)

/-- 'laws.FnExactDistancesIn': WHATEVER THE INPUT: true; the input reads as it did. -/
def fnExactDistancesInSpec : ChangeSpec := { name := "fnExactDistancesIn", fn := fun _ => fun
  | [d1, d2] => { results := [.lit (.bool true)], args := [d1, d2] }
  | _ => none }
def fnExactDistancesInRow : OpenClaim := { program := "ytajacklnhfjmpab", sum := "1c4ca8b29aecc7ae50e4c0cdddfb807b4aaedc87daa8a13a33d3af2398f822f3", func := "loop.example/g03201/laws.FnExactDistancesIn", spec := "fnExactDistancesIn", unfollowed := true, recurses := true, apart := false }
def FnExactDistancesInSaid : Prop := fnExactDistancesInRow.holds Try.pinned (OpenSpec.ofChange fnExactDistancesInSpec)

/-- ITS FALSE NEIGHBOUR: 'it returns false'. Refute it at one input. -/
def fnExactDistancesInWrong : ChangeSpec := { name := "fnExactDistancesIn", fn := fun _ => fun
  | [d1, d2] => { results := [.lit (.bool false)], args := [d1, d2] }
  | _ => none }
def FnExactDistancesInWrongFalsely : Prop := fnExactDistancesInRow.holds Try.pinned (OpenSpec.ofChange fnExactDistancesInWrong)

/-- 'laws.FnPeriods': WHATEVER THE INPUT: true; the input reads as it did. -/
def fnPeriodsSpec : ChangeSpec := { name := "fnPeriods", fn := fun _ => fun
  | [d] => { results := [.lit (.bool true)], args := [d] }
  | _ => none }
def fnPeriodsRow : OpenClaim := { program := "ytajacklnhfjmpab", sum := "1c4ca8b29aecc7ae50e4c0cdddfb807b4aaedc87daa8a13a33d3af2398f822f3", func := "loop.example/g03201/laws.FnPeriods", spec := "fnPeriods", recurses := true, apart := false }
def FnPeriodsSaid : Prop := fnPeriodsRow.holds Try.pinned (OpenSpec.ofChange fnPeriodsSpec)

/-- ITS FALSE NEIGHBOUR: 'it returns false'. Refute it at one input. -/
def fnPeriodsWrong : ChangeSpec := { name := "fnPeriods", fn := fun _ => fun
  | [d] => { results := [.lit (.bool false)], args := [d] }
  | _ => none }
def FnPeriodsWrongFalsely : Prop := fnPeriodsRow.holds Try.pinned (OpenSpec.ofChange fnPeriodsWrong)

/-- 'laws.FnExactCountShortest': WHATEVER THE INPUT: true; the input reads as it did. -/
def fnExactCountShortestSpec : ChangeSpec := { name := "fnExactCountShortest", fn := fun _ => fun
  | [d1, d2, d3] => { results := [.lit (.bool true)], args := [d1, d2, d3] }
  | _ => none }
def fnExactCountShortestRow : OpenClaim := { program := "ytajacklnhfjmpab", sum := "1c4ca8b29aecc7ae50e4c0cdddfb807b4aaedc87daa8a13a33d3af2398f822f3", func := "loop.example/g03201/laws.FnExactCountShortest", spec := "fnExactCountShortest", unfollowed := true, recurses := true, apart := false }
def FnExactCountShortestSaid : Prop := fnExactCountShortestRow.holds Try.pinned (OpenSpec.ofChange fnExactCountShortestSpec)

/-- ITS FALSE NEIGHBOUR: 'it returns false'. Refute it at one input. -/
def fnExactCountShortestWrong : ChangeSpec := { name := "fnExactCountShortest", fn := fun _ => fun
  | [d1, d2, d3] => { results := [.lit (.bool false)], args := [d1, d2, d3] }
  | _ => none }
def FnExactCountShortestWrongFalsely : Prop := fnExactCountShortestRow.holds Try.pinned (OpenSpec.ofChange fnExactCountShortestWrong)

/-- 'laws.FnExactLoopWord': WHATEVER THE INPUT: true; the input reads as it did. -/
def fnExactLoopWordSpec : ChangeSpec := { name := "fnExactLoopWord", fn := fun _ => fun
  | [d1, d2] => { results := [.lit (.bool true)], args := [d1, d2] }
  | _ => none }
def fnExactLoopWordRow : OpenClaim := { program := "ytajacklnhfjmpab", sum := "1c4ca8b29aecc7ae50e4c0cdddfb807b4aaedc87daa8a13a33d3af2398f822f3", func := "loop.example/g03201/laws.FnExactLoopWord", spec := "fnExactLoopWord", unfollowed := true, recurses := true, apart := false }
def FnExactLoopWordSaid : Prop := fnExactLoopWordRow.holds Try.pinned (OpenSpec.ofChange fnExactLoopWordSpec)

/-- ITS FALSE NEIGHBOUR: 'it returns false'. Refute it at one input. -/
def fnExactLoopWordWrong : ChangeSpec := { name := "fnExactLoopWord", fn := fun _ => fun
  | [d1, d2] => { results := [.lit (.bool false)], args := [d1, d2] }
  | _ => none }
def FnExactLoopWordWrongFalsely : Prop := fnExactLoopWordRow.holds Try.pinned (OpenSpec.ofChange fnExactLoopWordWrong)

/-- 'laws.FnExactSpheresOf': WHATEVER THE INPUT: true; the input reads as it did. -/
def fnExactSpheresOfSpec : ChangeSpec := { name := "fnExactSpheresOf", fn := fun _ => fun
  | [d1, d2] => { results := [.lit (.bool true)], args := [d1, d2] }
  | _ => none }
def fnExactSpheresOfRow : OpenClaim := { program := "ytajacklnhfjmpab", sum := "1c4ca8b29aecc7ae50e4c0cdddfb807b4aaedc87daa8a13a33d3af2398f822f3", func := "loop.example/g03201/laws.FnExactSpheresOf", spec := "fnExactSpheresOf", unfollowed := true, recurses := true, apart := false }
def FnExactSpheresOfSaid : Prop := fnExactSpheresOfRow.holds Try.pinned (OpenSpec.ofChange fnExactSpheresOfSpec)

/-- ITS FALSE NEIGHBOUR: 'it returns false'. Refute it at one input. -/
def fnExactSpheresOfWrong : ChangeSpec := { name := "fnExactSpheresOf", fn := fun _ => fun
  | [d1, d2] => { results := [.lit (.bool false)], args := [d1, d2] }
  | _ => none }
def FnExactSpheresOfWrongFalsely : Prop := fnExactSpheresOfRow.holds Try.pinned (OpenSpec.ofChange fnExactSpheresOfWrong)

/- THE SECOND FORM. 'bulk': how many values and letters a reading holds, each counted each time it is reached (what is shared counts as often as it is met; a slice's spare places count too). A statement '..UptoSaid' is the law's where the arguments, and the package variables that the reading takes, are together of bulk at most 1048576: NARROWER than '..Said'. Prove '..Said' where nothing that the law and all that it calls make is longer than what came in: it says more and counts as full. Else prove '..UptoSaid'. A law counts once. -/
mutual
def uptoBulk {H : Type} : DataW H → Nat
  | .lit (.string bytes) => bytes.length + 1
  | .lit _ => 1
  | .nil => 1
  | .ptr d => uptoBulk d + 1
  | .slice elems spare => uptoBulkAll elems + uptoBulkAll spare + 1
  | .agg parts => uptoBulkAll parts + 1
  | .iface _ d => uptoBulk d + 1
  | .map entries => uptoBulkEntries entries + 1
  | .held _ => 1
def uptoBulkAll {H : Type} : List (DataW H) → Nat
  | [] => 0
  | d :: r => uptoBulk d + uptoBulkAll r
def uptoBulkEntries {H : Type} : List (Lit × DataW H) → Nat
  | [] => 0
  | x :: r => uptoBulkEntry x + uptoBulkEntries r
def uptoBulkEntry {H : Type} : Lit × DataW H → Nat
  | (.string bytes, d) => bytes.length + uptoBulk d + 1
  | (_, d) => uptoBulk d + 1
 end
def uptoSmall : (H : Type) → List (DataW H) → Bool := fun _ ds => decide (uptoBulkAll ds ≤ 1048576)
def OpenSpec.upto (s : _root_.Go.ChangeSpec) : _root_.Go.OpenSpec := { _root_.Go.OpenSpec.ofChange s with cond := some uptoSmall }

/-- 'laws.FnExactComplementOf', WHERE WHAT IT READS IS OF BULK AT MOST 1048576: true; the input reads as it did. -/
def fnExactComplementOfUptoRow : OpenClaim := { program := "ytajacklnhfjmpab", sum := "1c4ca8b29aecc7ae50e4c0cdddfb807b4aaedc87daa8a13a33d3af2398f822f3", func := "loop.example/g03201/laws.FnExactComplementOf", spec := "fnExactComplementOf", unfollowed := true, recurses := true, apart := false, narrowed := true }
def FnExactComplementOfUptoSaid : Prop := fnExactComplementOfUptoRow.holds Try.pinned (OpenSpec.upto fnExactComplementOfSpec)

/-- 'laws.FnExactTagWords', WHERE WHAT IT READS IS OF BULK AT MOST 1048576: true; the input reads as it did. -/
def fnExactTagWordsUptoRow : OpenClaim := { program := "ytajacklnhfjmpab", sum := "1c4ca8b29aecc7ae50e4c0cdddfb807b4aaedc87daa8a13a33d3af2398f822f3", func := "loop.example/g03201/laws.FnExactTagWords", spec := "fnExactTagWords", unfollowed := true, recurses := true, apart := false, narrowed := true }
def FnExactTagWordsUptoSaid : Prop := fnExactTagWordsUptoRow.holds Try.pinned (OpenSpec.upto fnExactTagWordsSpec)

/-- 'laws.FnExactAreFreeConjugate', WHERE WHAT IT READS IS OF BULK AT MOST 1048576: true; the input reads as it did. -/
def fnExactAreFreeConjugateUptoRow : OpenClaim := { program := "ytajacklnhfjmpab", sum := "1c4ca8b29aecc7ae50e4c0cdddfb807b4aaedc87daa8a13a33d3af2398f822f3", func := "loop.example/g03201/laws.FnExactAreFreeConjugate", spec := "fnExactAreFreeConjugate", inPlace := ["internal/bytealg.IndexByteString", "internal/bytealg.IndexString"], named := ["internal/bytealg.MaxLen"], apart := false, narrowed := true }
def FnExactAreFreeConjugateUptoSaid : Prop := fnExactAreFreeConjugateUptoRow.holds Try.pinned (OpenSpec.upto fnExactAreFreeConjugateSpec)

/-- 'laws.FnExactShortestWord', WHERE WHAT IT READS IS OF BULK AT MOST 1048576: true; the input reads as it did. -/
def fnExactShortestWordUptoRow : OpenClaim := { program := "ytajacklnhfjmpab", sum := "1c4ca8b29aecc7ae50e4c0cdddfb807b4aaedc87daa8a13a33d3af2398f822f3", func := "loop.example/g03201/laws.FnExactShortestWord", spec := "fnExactShortestWord", unfollowed := true, recurses := true, apart := false, narrowed := true }
def FnExactShortestWordUptoSaid : Prop := fnExactShortestWordUptoRow.holds Try.pinned (OpenSpec.upto fnExactShortestWordSpec)

/-- 'laws.FnExactWalkWord', WHERE WHAT IT READS IS OF BULK AT MOST 1048576: true; the input reads as it did. -/
def fnExactWalkWordUptoRow : OpenClaim := { program := "ytajacklnhfjmpab", sum := "1c4ca8b29aecc7ae50e4c0cdddfb807b4aaedc87daa8a13a33d3af2398f822f3", func := "loop.example/g03201/laws.FnExactWalkWord", spec := "fnExactWalkWord", unfollowed := true, recurses := true, apart := false, narrowed := true }
def FnExactWalkWordUptoSaid : Prop := fnExactWalkWordUptoRow.holds Try.pinned (OpenSpec.upto fnExactWalkWordSpec)

/-- 'laws.FnExactMeetOf', WHERE WHAT IT READS IS OF BULK AT MOST 1048576: true; the input reads as it did. -/
def fnExactMeetOfUptoRow : OpenClaim := { program := "ytajacklnhfjmpab", sum := "1c4ca8b29aecc7ae50e4c0cdddfb807b4aaedc87daa8a13a33d3af2398f822f3", func := "loop.example/g03201/laws.FnExactMeetOf", spec := "fnExactMeetOf", unfollowed := true, recurses := true, apart := false, narrowed := true }
def FnExactMeetOfUptoSaid : Prop := fnExactMeetOfUptoRow.holds Try.pinned (OpenSpec.upto fnExactMeetOfSpec)

/-- 'laws.FnExactDiameterOf', WHERE WHAT IT READS IS OF BULK AT MOST 1048576: true; the input reads as it did. -/
def fnExactDiameterOfUptoRow : OpenClaim := { program := "ytajacklnhfjmpab", sum := "1c4ca8b29aecc7ae50e4c0cdddfb807b4aaedc87daa8a13a33d3af2398f822f3", func := "loop.example/g03201/laws.FnExactDiameterOf", spec := "fnExactDiameterOf", unfollowed := true, recurses := true, apart := false, narrowed := true }
def FnExactDiameterOfUptoSaid : Prop := fnExactDiameterOfUptoRow.holds Try.pinned (OpenSpec.upto fnExactDiameterOfSpec)

/-- 'laws.FnExactDistancesIn', WHERE WHAT IT READS IS OF BULK AT MOST 1048576: true; the input reads as it did. -/
def fnExactDistancesInUptoRow : OpenClaim := { program := "ytajacklnhfjmpab", sum := "1c4ca8b29aecc7ae50e4c0cdddfb807b4aaedc87daa8a13a33d3af2398f822f3", func := "loop.example/g03201/laws.FnExactDistancesIn", spec := "fnExactDistancesIn", unfollowed := true, recurses := true, apart := false, narrowed := true }
def FnExactDistancesInUptoSaid : Prop := fnExactDistancesInUptoRow.holds Try.pinned (OpenSpec.upto fnExactDistancesInSpec)

/-- 'laws.FnPeriods', WHERE WHAT IT READS IS OF BULK AT MOST 1048576: true; the input reads as it did. -/
def fnPeriodsUptoRow : OpenClaim := { program := "ytajacklnhfjmpab", sum := "1c4ca8b29aecc7ae50e4c0cdddfb807b4aaedc87daa8a13a33d3af2398f822f3", func := "loop.example/g03201/laws.FnPeriods", spec := "fnPeriods", recurses := true, apart := false, narrowed := true }
def FnPeriodsUptoSaid : Prop := fnPeriodsUptoRow.holds Try.pinned (OpenSpec.upto fnPeriodsSpec)

/-- 'laws.FnExactCountShortest', WHERE WHAT IT READS IS OF BULK AT MOST 1048576: true; the input reads as it did. -/
def fnExactCountShortestUptoRow : OpenClaim := { program := "ytajacklnhfjmpab", sum := "1c4ca8b29aecc7ae50e4c0cdddfb807b4aaedc87daa8a13a33d3af2398f822f3", func := "loop.example/g03201/laws.FnExactCountShortest", spec := "fnExactCountShortest", unfollowed := true, recurses := true, apart := false, narrowed := true }
def FnExactCountShortestUptoSaid : Prop := fnExactCountShortestUptoRow.holds Try.pinned (OpenSpec.upto fnExactCountShortestSpec)

/-- 'laws.FnExactLoopWord', WHERE WHAT IT READS IS OF BULK AT MOST 1048576: true; the input reads as it did. -/
def fnExactLoopWordUptoRow : OpenClaim := { program := "ytajacklnhfjmpab", sum := "1c4ca8b29aecc7ae50e4c0cdddfb807b4aaedc87daa8a13a33d3af2398f822f3", func := "loop.example/g03201/laws.FnExactLoopWord", spec := "fnExactLoopWord", unfollowed := true, recurses := true, apart := false, narrowed := true }
def FnExactLoopWordUptoSaid : Prop := fnExactLoopWordUptoRow.holds Try.pinned (OpenSpec.upto fnExactLoopWordSpec)

/-- 'laws.FnExactSpheresOf', WHERE WHAT IT READS IS OF BULK AT MOST 1048576: true; the input reads as it did. -/
def fnExactSpheresOfUptoRow : OpenClaim := { program := "ytajacklnhfjmpab", sum := "1c4ca8b29aecc7ae50e4c0cdddfb807b4aaedc87daa8a13a33d3af2398f822f3", func := "loop.example/g03201/laws.FnExactSpheresOf", spec := "fnExactSpheresOf", unfollowed := true, recurses := true, apart := false, narrowed := true }
def FnExactSpheresOfUptoSaid : Prop := fnExactSpheresOfUptoRow.holds Try.pinned (OpenSpec.upto fnExactSpheresOfSpec)

end Rows
end Go.Proofs.Ytajacklnhfjmpab
