/-
  No cell of these rows narrows 'for every input' (looked for: loops, veiled, ifaces, maps, wideKeys, modest, calm, conditions, laid).
  DERIVED. THE GIVEN ROWS OF THIS SEAT. 12 by the template 'for every input the law returns true; each argument reads behind the call as it read before'; 0 by the template 'total and deterministic' (their statements: YtfbekpofebkfhaaTotals.lean).
  GIVEN WITH THE SEED: the statements are not yours to turn. If you find one false, say at which input.
  Laid BY PROGRAM, IN A SANDBOX (cutbox-rows.mjs): the forced cells as the released guide's own fill.sh prints them over the translation ecf8633672ea8195… (all of the seat's roots in one cut). By AI agents, Wed Nov 11 2026. No macro, syntax, notation, axiom, sorry.
-/
import Derived.Test.YtfbekpofebkfhaaChecked
import GoSem.Claim
import GoSem.ClaimJoined
import GoSem.ClaimMapViews
import Derived.JoinedTies
import Derived.KernelRfl
namespace Go.Proofs.Ytfbekpofebkfhaa
/- THE CELL 'sum', in the pinned program and in every row, IS THE sha256 OF THE DUMP (.gsa) THAT YtfbekpofebkfhaaProg.lean LOADS. Nothing in Lean hashes anything: it is a label: what it is worth is what the hold of that sum in a sandbox is worth. -/
noncomputable def Try.pinned : Pinned := { name := "ytfbekpofebkfhaa", sum := "ecf8633672ea81952023cf2c0f844282e7ca13adb52c8088a059507ab161de6c", checked := Try.checked }
namespace Rows
def none {H : Type} : Left H := { results := [], args := [] }

/-- 'laws.FnExactTagRun': WHATEVER THE INPUT: true; the input reads as it did. -/
def fnExactTagRunSpec : ChangeSpec := { name := "fnExactTagRun", fn := fun _ => fun
  | [d1, d2, d3] => { results := [.lit (.bool true)], args := [d1, d2, d3] }
  | _ => none }
def fnExactTagRunRow : OpenClaim := { program := "ytfbekpofebkfhaa", sum := "ecf8633672ea81952023cf2c0f844282e7ca13adb52c8088a059507ab161de6c", func := "loop.example/g03201/laws.FnExactTagRun", spec := "fnExactTagRun", unfollowed := true, recurses := true, apart := false }
def FnExactTagRunSaid : Prop := fnExactTagRunRow.holds Try.pinned (OpenSpec.ofChange fnExactTagRunSpec)

/-- ITS FALSE NEIGHBOUR: 'it returns false'. Refute it at one input. -/
def fnExactTagRunWrong : ChangeSpec := { name := "fnExactTagRun", fn := fun _ => fun
  | [d1, d2, d3] => { results := [.lit (.bool false)], args := [d1, d2, d3] }
  | _ => none }
def FnExactTagRunWrongFalsely : Prop := fnExactTagRunRow.holds Try.pinned (OpenSpec.ofChange fnExactTagRunWrong)

/-- 'laws.FnExactTagWords': WHATEVER THE INPUT: true; the input reads as it did. -/
def fnExactTagWordsSpec : ChangeSpec := { name := "fnExactTagWords", fn := fun _ => fun
  | [d1, d2, d3] => { results := [.lit (.bool true)], args := [d1, d2, d3] }
  | _ => none }
def fnExactTagWordsRow : OpenClaim := { program := "ytfbekpofebkfhaa", sum := "ecf8633672ea81952023cf2c0f844282e7ca13adb52c8088a059507ab161de6c", func := "loop.example/g03201/laws.FnExactTagWords", spec := "fnExactTagWords", unfollowed := true, recurses := true, apart := false }
def FnExactTagWordsSaid : Prop := fnExactTagWordsRow.holds Try.pinned (OpenSpec.ofChange fnExactTagWordsSpec)

/-- ITS FALSE NEIGHBOUR: 'it returns false'. Refute it at one input. -/
def fnExactTagWordsWrong : ChangeSpec := { name := "fnExactTagWords", fn := fun _ => fun
  | [d1, d2, d3] => { results := [.lit (.bool false)], args := [d1, d2, d3] }
  | _ => none }
def FnExactTagWordsWrongFalsely : Prop := fnExactTagWordsRow.holds Try.pinned (OpenSpec.ofChange fnExactTagWordsWrong)

/-- 'laws.FnExactTagLoop': WHATEVER THE INPUT: true; the input reads as it did. -/
def fnExactTagLoopSpec : ChangeSpec := { name := "fnExactTagLoop", fn := fun _ => fun
  | [d1, d2] => { results := [.lit (.bool true)], args := [d1, d2] }
  | _ => none }
def fnExactTagLoopRow : OpenClaim := { program := "ytfbekpofebkfhaa", sum := "ecf8633672ea81952023cf2c0f844282e7ca13adb52c8088a059507ab161de6c", func := "loop.example/g03201/laws.FnExactTagLoop", spec := "fnExactTagLoop", unfollowed := true, recurses := true, apart := false }
def FnExactTagLoopSaid : Prop := fnExactTagLoopRow.holds Try.pinned (OpenSpec.ofChange fnExactTagLoopSpec)

/-- ITS FALSE NEIGHBOUR: 'it returns false'. Refute it at one input. -/
def fnExactTagLoopWrong : ChangeSpec := { name := "fnExactTagLoop", fn := fun _ => fun
  | [d1, d2] => { results := [.lit (.bool false)], args := [d1, d2] }
  | _ => none }
def FnExactTagLoopWrongFalsely : Prop := fnExactTagLoopRow.holds Try.pinned (OpenSpec.ofChange fnExactTagLoopWrong)

/-- 'laws.FnExactLoopWord': WHATEVER THE INPUT: true; the input reads as it did. -/
def fnExactLoopWordSpec : ChangeSpec := { name := "fnExactLoopWord", fn := fun _ => fun
  | [d1, d2] => { results := [.lit (.bool true)], args := [d1, d2] }
  | _ => none }
def fnExactLoopWordRow : OpenClaim := { program := "ytfbekpofebkfhaa", sum := "ecf8633672ea81952023cf2c0f844282e7ca13adb52c8088a059507ab161de6c", func := "loop.example/g03201/laws.FnExactLoopWord", spec := "fnExactLoopWord", unfollowed := true, recurses := true, apart := false }
def FnExactLoopWordSaid : Prop := fnExactLoopWordRow.holds Try.pinned (OpenSpec.ofChange fnExactLoopWordSpec)

/-- ITS FALSE NEIGHBOUR: 'it returns false'. Refute it at one input. -/
def fnExactLoopWordWrong : ChangeSpec := { name := "fnExactLoopWord", fn := fun _ => fun
  | [d1, d2] => { results := [.lit (.bool false)], args := [d1, d2] }
  | _ => none }
def FnExactLoopWordWrongFalsely : Prop := fnExactLoopWordRow.holds Try.pinned (OpenSpec.ofChange fnExactLoopWordWrong)

/-- 'laws.FnExactShortestWord': WHATEVER THE INPUT: true; the input reads as it did. -/
def fnExactShortestWordSpec : ChangeSpec := { name := "fnExactShortestWord", fn := fun _ => fun
  | [d1, d2, d3] => { results := [.lit (.bool true)], args := [d1, d2, d3] }
  | _ => none }
def fnExactShortestWordRow : OpenClaim := { program := "ytfbekpofebkfhaa", sum := "ecf8633672ea81952023cf2c0f844282e7ca13adb52c8088a059507ab161de6c", func := "loop.example/g03201/laws.FnExactShortestWord", spec := "fnExactShortestWord", unfollowed := true, recurses := true, apart := false }
def FnExactShortestWordSaid : Prop := fnExactShortestWordRow.holds Try.pinned (OpenSpec.ofChange fnExactShortestWordSpec)

/-- ITS FALSE NEIGHBOUR: 'it returns false'. Refute it at one input. -/
def fnExactShortestWordWrong : ChangeSpec := { name := "fnExactShortestWord", fn := fun _ => fun
  | [d1, d2, d3] => { results := [.lit (.bool false)], args := [d1, d2, d3] }
  | _ => none }
def FnExactShortestWordWrongFalsely : Prop := fnExactShortestWordRow.holds Try.pinned (OpenSpec.ofChange fnExactShortestWordWrong)

/-- 'laws.FnExactDistancesIn': WHATEVER THE INPUT: true; the input reads as it did. -/
def fnExactDistancesInSpec : ChangeSpec := { name := "fnExactDistancesIn", fn := fun _ => fun
  | [d1, d2] => { results := [.lit (.bool true)], args := [d1, d2] }
  | _ => none }
def fnExactDistancesInRow : OpenClaim := { program := "ytfbekpofebkfhaa", sum := "ecf8633672ea81952023cf2c0f844282e7ca13adb52c8088a059507ab161de6c", func := "loop.example/g03201/laws.FnExactDistancesIn", spec := "fnExactDistancesIn", unfollowed := true, recurses := true, apart := false }
def FnExactDistancesInSaid : Prop := fnExactDistancesInRow.holds Try.pinned (OpenSpec.ofChange fnExactDistancesInSpec)

/-- ITS FALSE NEIGHBOUR: 'it returns false'. Refute it at one input. -/
def fnExactDistancesInWrong : ChangeSpec := { name := "fnExactDistancesIn", fn := fun _ => fun
  | [d1, d2] => { results := [.lit (.bool false)], args := [d1, d2] }
  | _ => none }
def FnExactDistancesInWrongFalsely : Prop := fnExactDistancesInRow.holds Try.pinned (OpenSpec.ofChange fnExactDistancesInWrong)

/-- 'laws.FnExactDiameterOf': WHATEVER THE INPUT: true; the input reads as it did. -/
def fnExactDiameterOfSpec : ChangeSpec := { name := "fnExactDiameterOf", fn := fun _ => fun
  | [d1, d2] => { results := [.lit (.bool true)], args := [d1, d2] }
  | _ => none }
def fnExactDiameterOfRow : OpenClaim := { program := "ytfbekpofebkfhaa", sum := "ecf8633672ea81952023cf2c0f844282e7ca13adb52c8088a059507ab161de6c", func := "loop.example/g03201/laws.FnExactDiameterOf", spec := "fnExactDiameterOf", unfollowed := true, recurses := true, apart := false }
def FnExactDiameterOfSaid : Prop := fnExactDiameterOfRow.holds Try.pinned (OpenSpec.ofChange fnExactDiameterOfSpec)

/-- ITS FALSE NEIGHBOUR: 'it returns false'. Refute it at one input. -/
def fnExactDiameterOfWrong : ChangeSpec := { name := "fnExactDiameterOf", fn := fun _ => fun
  | [d1, d2] => { results := [.lit (.bool false)], args := [d1, d2] }
  | _ => none }
def FnExactDiameterOfWrongFalsely : Prop := fnExactDiameterOfRow.holds Try.pinned (OpenSpec.ofChange fnExactDiameterOfWrong)

/-- 'laws.FnExactSpheresOf': WHATEVER THE INPUT: true; the input reads as it did. -/
def fnExactSpheresOfSpec : ChangeSpec := { name := "fnExactSpheresOf", fn := fun _ => fun
  | [d1, d2] => { results := [.lit (.bool true)], args := [d1, d2] }
  | _ => none }
def fnExactSpheresOfRow : OpenClaim := { program := "ytfbekpofebkfhaa", sum := "ecf8633672ea81952023cf2c0f844282e7ca13adb52c8088a059507ab161de6c", func := "loop.example/g03201/laws.FnExactSpheresOf", spec := "fnExactSpheresOf", unfollowed := true, recurses := true, apart := false }
def FnExactSpheresOfSaid : Prop := fnExactSpheresOfRow.holds Try.pinned (OpenSpec.ofChange fnExactSpheresOfSpec)

/-- ITS FALSE NEIGHBOUR: 'it returns false'. Refute it at one input. -/
def fnExactSpheresOfWrong : ChangeSpec := { name := "fnExactSpheresOf", fn := fun _ => fun
  | [d1, d2] => { results := [.lit (.bool false)], args := [d1, d2] }
  | _ => none }
def FnExactSpheresOfWrongFalsely : Prop := fnExactSpheresOfRow.holds Try.pinned (OpenSpec.ofChange fnExactSpheresOfWrong)

/-- 'laws.FnExactCountShortest': WHATEVER THE INPUT: true; the input reads as it did. -/
def fnExactCountShortestSpec : ChangeSpec := { name := "fnExactCountShortest", fn := fun _ => fun
  | [d1, d2, d3] => { results := [.lit (.bool true)], args := [d1, d2, d3] }
  | _ => none }
def fnExactCountShortestRow : OpenClaim := { program := "ytfbekpofebkfhaa", sum := "ecf8633672ea81952023cf2c0f844282e7ca13adb52c8088a059507ab161de6c", func := "loop.example/g03201/laws.FnExactCountShortest", spec := "fnExactCountShortest", unfollowed := true, recurses := true, apart := false }
def FnExactCountShortestSaid : Prop := fnExactCountShortestRow.holds Try.pinned (OpenSpec.ofChange fnExactCountShortestSpec)

/-- ITS FALSE NEIGHBOUR: 'it returns false'. Refute it at one input. -/
def fnExactCountShortestWrong : ChangeSpec := { name := "fnExactCountShortest", fn := fun _ => fun
  | [d1, d2, d3] => { results := [.lit (.bool false)], args := [d1, d2, d3] }
  | _ => none }
def FnExactCountShortestWrongFalsely : Prop := fnExactCountShortestRow.holds Try.pinned (OpenSpec.ofChange fnExactCountShortestWrong)

/-- 'laws.FnExactAntipodesOf': WHATEVER THE INPUT: true; the input reads as it did. -/
def fnExactAntipodesOfSpec : ChangeSpec := { name := "fnExactAntipodesOf", fn := fun _ => fun
  | [d1, d2] => { results := [.lit (.bool true)], args := [d1, d2] }
  | _ => none }
def fnExactAntipodesOfRow : OpenClaim := { program := "ytfbekpofebkfhaa", sum := "ecf8633672ea81952023cf2c0f844282e7ca13adb52c8088a059507ab161de6c", func := "loop.example/g03201/laws.FnExactAntipodesOf", spec := "fnExactAntipodesOf", unfollowed := true, recurses := true, apart := false }
def FnExactAntipodesOfSaid : Prop := fnExactAntipodesOfRow.holds Try.pinned (OpenSpec.ofChange fnExactAntipodesOfSpec)

/-- ITS FALSE NEIGHBOUR: 'it returns false'. Refute it at one input. -/
def fnExactAntipodesOfWrong : ChangeSpec := { name := "fnExactAntipodesOf", fn := fun _ => fun
  | [d1, d2] => { results := [.lit (.bool false)], args := [d1, d2] }
  | _ => none }
def FnExactAntipodesOfWrongFalsely : Prop := fnExactAntipodesOfRow.holds Try.pinned (OpenSpec.ofChange fnExactAntipodesOfWrong)

/-- 'laws.FnExactMeetOf': WHATEVER THE INPUT: true; the input reads as it did. -/
def fnExactMeetOfSpec : ChangeSpec := { name := "fnExactMeetOf", fn := fun _ => fun
  | [d1, d2] => { results := [.lit (.bool true)], args := [d1, d2] }
  | _ => none }
def fnExactMeetOfRow : OpenClaim := { program := "ytfbekpofebkfhaa", sum := "ecf8633672ea81952023cf2c0f844282e7ca13adb52c8088a059507ab161de6c", func := "loop.example/g03201/laws.FnExactMeetOf", spec := "fnExactMeetOf", unfollowed := true, recurses := true, apart := false }
def FnExactMeetOfSaid : Prop := fnExactMeetOfRow.holds Try.pinned (OpenSpec.ofChange fnExactMeetOfSpec)

/-- ITS FALSE NEIGHBOUR: 'it returns false'. Refute it at one input. -/
def fnExactMeetOfWrong : ChangeSpec := { name := "fnExactMeetOf", fn := fun _ => fun
  | [d1, d2] => { results := [.lit (.bool false)], args := [d1, d2] }
  | _ => none }
def FnExactMeetOfWrongFalsely : Prop := fnExactMeetOfRow.holds Try.pinned (OpenSpec.ofChange fnExactMeetOfWrong)

/-- 'laws.FnExactAreFreeConjugate': WHATEVER THE INPUT: true; the input reads as it did. -/
def fnExactAreFreeConjugateSpec : ChangeSpec := { name := "fnExactAreFreeConjugate", fn := fun _ => fun
  | [d1, d2, d3] => { results := [.lit (.bool true)], args := [d1, d2, d3] }
  | _ => none }
def fnExactAreFreeConjugateRow : OpenClaim := { program := "ytfbekpofebkfhaa", sum := "ecf8633672ea81952023cf2c0f844282e7ca13adb52c8088a059507ab161de6c", func := "loop.example/g03201/laws.FnExactAreFreeConjugate", spec := "fnExactAreFreeConjugate", inPlace := ["internal/bytealg.IndexByteString", "internal/bytealg.IndexString"], named := ["internal/bytealg.MaxLen"], apart := false }
def FnExactAreFreeConjugateSaid : Prop := fnExactAreFreeConjugateRow.holds Try.pinned (OpenSpec.ofChange fnExactAreFreeConjugateSpec)

/-- ITS FALSE NEIGHBOUR: 'it returns false'. Refute it at one input. -/
def fnExactAreFreeConjugateWrong : ChangeSpec := { name := "fnExactAreFreeConjugate", fn := fun _ => fun
  | [d1, d2, d3] => { results := [.lit (.bool false)], args := [d1, d2, d3] }
  | _ => none }
def FnExactAreFreeConjugateWrongFalsely : Prop := fnExactAreFreeConjugateRow.holds Try.pinned (OpenSpec.ofChange fnExactAreFreeConjugateWrong)

/- THE SECOND FORM. 'bulk': how many values and letters a reading holds, each counted each time it is reached (what is shared counts as often as it is met; a slice's spare places count too). A statement '..UptoSaid' is the law's where the arguments, and the package variables that the reading takes, are together of bulk at most 1048576: NARROWER than '..Said'. Prove '..Said' where nothing that the law and all that it calls make is longer than what came in: it says more and counts as full. Else prove '..UptoSaid'. A law counts once. -/
mutual
def uptoBulk {H : Type} : DataW H → Nat
  | .lit (.string bytes) => bytes.length + 1
  | .lit _ => 1
  | .nil => 1
  | .ptr d => uptoBulk d + 1
  | .slice elems spare => uptoBulkAll elems + uptoBulkAll spare + 1
  | .agg parts => uptoBulkAll parts + 1
  | .iface _ d => uptoBulk d + 1
  | .map entries => uptoBulkEntries entries + 1
  | .held _ => 1
def uptoBulkAll {H : Type} : List (DataW H) → Nat
  | [] => 0
  | d :: r => uptoBulk d + uptoBulkAll r
def uptoBulkEntries {H : Type} : List (Lit × DataW H) → Nat
  | [] => 0
  | x :: r => uptoBulkEntry x + uptoBulkEntries r
def uptoBulkEntry {H : Type} : Lit × DataW H → Nat
  | (.string bytes, d) => bytes.length + uptoBulk d + 1
  | (_, d) => uptoBulk d + 1
 end
def uptoSmall : (H : Type) → List (DataW H) → Bool := fun _ ds => decide (uptoBulkAll ds ≤ 1048576)
def OpenSpec.upto (s : _root_.Go.ChangeSpec) : _root_.Go.OpenSpec := { _root_.Go.OpenSpec.ofChange s with cond := some uptoSmall }

/-- 'laws.FnExactTagRun', WHERE WHAT IT READS IS OF BULK AT MOST 1048576: true; the input reads as it did. -/
def fnExactTagRunUptoRow : OpenClaim := { program := "ytfbekpofebkfhaa", sum := "ecf8633672ea81952023cf2c0f844282e7ca13adb52c8088a059507ab161de6c", func := "loop.example/g03201/laws.FnExactTagRun", spec := "fnExactTagRun", unfollowed := true, recurses := true, apart := false, narrowed := true }
def FnExactTagRunUptoSaid : Prop := fnExactTagRunUptoRow.holds Try.pinned (OpenSpec.upto fnExactTagRunSpec)

/-- 'laws.FnExactTagWords', WHERE WHAT IT READS IS OF BULK AT MOST 1048576: true; the input reads as it did. -/
def fnExactTagWordsUptoRow : OpenClaim := { program := "ytfbekpofebkfhaa", sum := "ecf8633672ea81952023cf2c0f844282e7ca13adb52c8088a059507ab161de6c", func := "loop.example/g03201/laws.FnExactTagWords", spec := "fnExactTagWords", unfollowed := true, recurses := true, apart := false, narrowed := true }
def FnExactTagWordsUptoSaid : Prop := fnExactTagWordsUptoRow.holds Try.pinned (OpenSpec.upto fnExactTagWordsSpec)

/-- 'laws.FnExactTagLoop', WHERE WHAT IT READS IS OF BULK AT MOST 1048576: true; the input reads as it did. -/
def fnExactTagLoopUptoRow : OpenClaim := { program := "ytfbekpofebkfhaa", sum := "ecf8633672ea81952023cf2c0f844282e7ca13adb52c8088a059507ab161de6c", func := "loop.example/g03201/laws.FnExactTagLoop", spec := "fnExactTagLoop", unfollowed := true, recurses := true, apart := false, narrowed := true }
def FnExactTagLoopUptoSaid : Prop := fnExactTagLoopUptoRow.holds Try.pinned (OpenSpec.upto fnExactTagLoopSpec)

/-- 'laws.FnExactLoopWord', WHERE WHAT IT READS IS OF BULK AT MOST 1048576: true; the input reads as it did. -/
def fnExactLoopWordUptoRow : OpenClaim := { program := "ytfbekpofebkfhaa", sum := "ecf8633672ea81952023cf2c0f844282e7ca13adb52c8088a059507ab161de6c", func := "loop.example/g03201/laws.FnExactLoopWord", spec := "fnExactLoopWord", unfollowed := true, recurses := true, apart := false, narrowed := true }
def FnExactLoopWordUptoSaid : Prop := fnExactLoopWordUptoRow.holds Try.pinned (OpenSpec.upto fnExactLoopWordSpec)

/-- 'laws.FnExactShortestWord', WHERE WHAT IT READS IS OF BULK AT MOST 1048576: true; the input reads as it did. -/
def fnExactShortestWordUptoRow : OpenClaim := { program := "ytfbekpofebkfhaa", sum := "ecf8633672ea81952023cf2c0f844282e7ca13adb52c8088a059507ab161de6c", func := "loop.example/g03201/laws.FnExactShortestWord", spec := "fnExactShortestWord", unfollowed := true, recurses := true, apart := false, narrowed := true }
def FnExactShortestWordUptoSaid : Prop := fnExactShortestWordUptoRow.holds Try.pinned (OpenSpec.upto fnExactShortestWordSpec)

/-- 'laws.FnExactDistancesIn', WHERE WHAT IT READS IS OF BULK AT MOST 1048576: true; the input reads as it did. -/
def fnExactDistancesInUptoRow : OpenClaim := { program := "ytfbekpofebkfhaa", sum := "ecf8633672ea81952023cf2c0f844282e7ca13adb52c8088a059507ab161de6c", func := "loop.example/g03201/laws.FnExactDistancesIn", spec := "fnExactDistancesIn", unfollowed := true, recurses := true, apart := false, narrowed := true }
def FnExactDistancesInUptoSaid : Prop := fnExactDistancesInUptoRow.holds Try.pinned (OpenSpec.upto fnExactDistancesInSpec)

/-- 'laws.FnExactDiameterOf', WHERE WHAT IT READS IS OF BULK AT MOST 1048576: true; the input reads as it did. -/
def fnExactDiameterOfUptoRow : OpenClaim := { program := "ytfbekpofebkfhaa", sum := "ecf8633672ea81952023cf2c0f844282e7ca13adb52c8088a059507ab161de6c", func := "loop.example/g03201/laws.FnExactDiameterOf", spec := "fnExactDiameterOf", unfollowed := true, recurses := true, apart := false, narrowed := true }
def FnExactDiameterOfUptoSaid : Prop := fnExactDiameterOfUptoRow.holds Try.pinned (OpenSpec.upto fnExactDiameterOfSpec)

/-- 'laws.FnExactSpheresOf', WHERE WHAT IT READS IS OF BULK AT MOST 1048576: true; the input reads as it did. -/
def fnExactSpheresOfUptoRow : OpenClaim := { program := "ytfbekpofebkfhaa", sum := "ecf8633672ea81952023cf2c0f844282e7ca13adb52c8088a059507ab161de6c", func := "loop.example/g03201/laws.FnExactSpheresOf", spec := "fnExactSpheresOf", unfollowed := true, recurses := true, apart := false, narrowed := true }
def FnExactSpheresOfUptoSaid : Prop := fnExactSpheresOfUptoRow.holds Try.pinned (OpenSpec.upto fnExactSpheresOfSpec)

/-- 'laws.FnExactCountShortest', WHERE WHAT IT READS IS OF BULK AT MOST 1048576: true; the input reads as it did. -/
def fnExactCountShortestUptoRow : OpenClaim := { program := "ytfbekpofebkfhaa", sum := "ecf8633672ea81952023cf2c0f844282e7ca13adb52c8088a059507ab161de6c", func := "loop.example/g03201/laws.FnExactCountShortest", spec := "fnExactCountShortest", unfollowed := true, recurses := true, apart := false, narrowed := true }
def FnExactCountShortestUptoSaid : Prop := fnExactCountShortestUptoRow.holds Try.pinned (OpenSpec.upto fnExactCountShortestSpec)

/-- 'laws.FnExactAntipodesOf', WHERE WHAT IT READS IS OF BULK AT MOST 1048576: true; the input reads as it did. -/
def fnExactAntipodesOfUptoRow : OpenClaim := { program := "ytfbekpofebkfhaa", sum := "ecf8633672ea81952023cf2c0f844282e7ca13adb52c8088a059507ab161de6c", func := "loop.example/g03201/laws.FnExactAntipodesOf", spec := "fnExactAntipodesOf", unfollowed := true, recurses := true, apart := false, narrowed := true }
def FnExactAntipodesOfUptoSaid : Prop := fnExactAntipodesOfUptoRow.holds Try.pinned (OpenSpec.upto fnExactAntipodesOfSpec)

/-- 'laws.FnExactMeetOf', WHERE WHAT IT READS IS OF BULK AT MOST 1048576: true; the input reads as it did. -/
def fnExactMeetOfUptoRow : OpenClaim := { program := "ytfbekpofebkfhaa", sum := "ecf8633672ea81952023cf2c0f844282e7ca13adb52c8088a059507ab161de6c", func := "loop.example/g03201/laws.FnExactMeetOf", spec := "fnExactMeetOf", unfollowed := true, recurses := true, apart := false, narrowed := true }
def FnExactMeetOfUptoSaid : Prop := fnExactMeetOfUptoRow.holds Try.pinned (OpenSpec.upto fnExactMeetOfSpec)

/-- 'laws.FnExactAreFreeConjugate', WHERE WHAT IT READS IS OF BULK AT MOST 1048576: true; the input reads as it did. -/
def fnExactAreFreeConjugateUptoRow : OpenClaim := { program := "ytfbekpofebkfhaa", sum := "ecf8633672ea81952023cf2c0f844282e7ca13adb52c8088a059507ab161de6c", func := "loop.example/g03201/laws.FnExactAreFreeConjugate", spec := "fnExactAreFreeConjugate", inPlace := ["internal/bytealg.IndexByteString", "internal/bytealg.IndexString"], named := ["internal/bytealg.MaxLen"], apart := false, narrowed := true }
def FnExactAreFreeConjugateUptoSaid : Prop := fnExactAreFreeConjugateUptoRow.holds Try.pinned (OpenSpec.upto fnExactAreFreeConjugateSpec)

end Rows
end Go.Proofs.Ytfbekpofebkfhaa
