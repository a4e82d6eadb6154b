/-
  No cell of these rows narrows 'for every input' (looked for: loops, veiled, ifaces, maps, wideKeys, modest, calm, conditions, laid).
  DERIVED. THE GIVEN ROWS OF THIS SEAT. 10 by the template 'for every input the law returns true; each argument reads behind the call as it read before'; 0 by the template 'total and deterministic' (their statements: YtenlddbeehjogaaTotals.lean).
  GIVEN WITH THE SEED: the statements are not yours to turn. If you find one false, say at which input.
  Laid BY PROGRAM, IN A SANDBOX (cutbox-rows.mjs): the forced cells as the released guide's own fill.sh prints them over the translation c54958006c93997e… (all of the seat's roots in one cut). By AI agents, Wed Nov 11 2026. No macro, syntax, notation, axiom, sorry.
-/
import Derived.Test.YtenlddbeehjogaaChecked
import GoSem.Claim
import GoSem.ClaimJoined
import GoSem.ClaimMapViews
import Derived.JoinedTies
import Derived.KernelRfl
namespace Go.Proofs.Ytenlddbeehjogaa
/- THE CELL 'sum', in the pinned program and in every row, IS THE sha256 OF THE DUMP (.gsa) THAT YtenlddbeehjogaaProg.lean LOADS. Nothing in Lean hashes anything: it is a label: what it is worth is what the hold of that sum in a sandbox is worth. -/
noncomputable def Try.pinned : Pinned := { name := "ytenlddbeehjogaa", sum := "c54958006c93997eb4ae452a782dd3baa3ef10dbb5136cd96b4fa8a63f494cbd", checked := Try.checked }
namespace Rows
def none {H : Type} : Left H := { results := [], args := [] }

/-- 'laws.FnExactClosureOf': WHATEVER THE INPUT: true; the input reads as it did. -/
def fnExactClosureOfSpec : ChangeSpec := { name := "fnExactClosureOf", fn := fun _ => fun
  | [d1, d2, d3] => { results := [.lit (.bool true)], args := [d1, d2, d3] }
  | _ => none }
def fnExactClosureOfRow : OpenClaim := { program := "ytenlddbeehjogaa", sum := "c54958006c93997eb4ae452a782dd3baa3ef10dbb5136cd96b4fa8a63f494cbd", func := "loop.example/g00305/laws.FnExactClosureOf", spec := "fnExactClosureOf", unfollowed := true, recurses := true, apart := false }
def FnExactClosureOfSaid : Prop := fnExactClosureOfRow.holds Try.pinned (OpenSpec.ofChange fnExactClosureOfSpec)

/-- ITS FALSE NEIGHBOUR: 'it returns false'. Refute it at one input. -/
def fnExactClosureOfWrong : ChangeSpec := { name := "fnExactClosureOf", fn := fun _ => fun
  | [d1, d2, d3] => { results := [.lit (.bool false)], args := [d1, d2, d3] }
  | _ => none }
def FnExactClosureOfWrongFalsely : Prop := fnExactClosureOfRow.holds Try.pinned (OpenSpec.ofChange fnExactClosureOfWrong)

/-- 'laws.FnExactSplitBy': WHATEVER THE INPUT: true; the input reads as it did. -/
def fnExactSplitBySpec : ChangeSpec := { name := "fnExactSplitBy", fn := fun _ => fun
  | [d1, d2, d3, d4] => { results := [.lit (.bool true)], args := [d1, d2, d3, d4] }
  | _ => none }
def fnExactSplitByRow : OpenClaim := { program := "ytenlddbeehjogaa", sum := "c54958006c93997eb4ae452a782dd3baa3ef10dbb5136cd96b4fa8a63f494cbd", func := "loop.example/g00305/laws.FnExactSplitBy", spec := "fnExactSplitBy", unfollowed := true, recurses := true, apart := false }
def FnExactSplitBySaid : Prop := fnExactSplitByRow.holds Try.pinned (OpenSpec.ofChange fnExactSplitBySpec)

/-- ITS FALSE NEIGHBOUR: 'it returns false'. Refute it at one input. -/
def fnExactSplitByWrong : ChangeSpec := { name := "fnExactSplitBy", fn := fun _ => fun
  | [d1, d2, d3, d4] => { results := [.lit (.bool false)], args := [d1, d2, d3, d4] }
  | _ => none }
def FnExactSplitByWrongFalsely : Prop := fnExactSplitByRow.holds Try.pinned (OpenSpec.ofChange fnExactSplitByWrong)

/-- 'laws.FnCover': WHATEVER THE INPUT: true; the input reads as it did. -/
def fnCoverSpec : ChangeSpec := { name := "fnCover", fn := fun _ => fun
  | [d1, d2] => { results := [.lit (.bool true)], args := [d1, d2] }
  | _ => none }
def fnCoverRow : OpenClaim := { program := "ytenlddbeehjogaa", sum := "c54958006c93997eb4ae452a782dd3baa3ef10dbb5136cd96b4fa8a63f494cbd", func := "loop.example/g00305/laws.FnCover", spec := "fnCover", unfollowed := true, recurses := true, apart := false }
def FnCoverSaid : Prop := fnCoverRow.holds Try.pinned (OpenSpec.ofChange fnCoverSpec)

/-- ITS FALSE NEIGHBOUR: 'it returns false'. Refute it at one input. -/
def fnCoverWrong : ChangeSpec := { name := "fnCover", fn := fun _ => fun
  | [d1, d2] => { results := [.lit (.bool false)], args := [d1, d2] }
  | _ => none }
def FnCoverWrongFalsely : Prop := fnCoverRow.holds Try.pinned (OpenSpec.ofChange fnCoverWrong)

/-- 'laws.FnExactCoverOf': WHATEVER THE INPUT: true; the input reads as it did. -/
def fnExactCoverOfSpec : ChangeSpec := { name := "fnExactCoverOf", fn := fun _ => fun
  | [d1, d2] => { results := [.lit (.bool true)], args := [d1, d2] }
  | _ => none }
def fnExactCoverOfRow : OpenClaim := { program := "ytenlddbeehjogaa", sum := "c54958006c93997eb4ae452a782dd3baa3ef10dbb5136cd96b4fa8a63f494cbd", func := "loop.example/g00305/laws.FnExactCoverOf", spec := "fnExactCoverOf", unfollowed := true, recurses := true, apart := false }
def FnExactCoverOfSaid : Prop := fnExactCoverOfRow.holds Try.pinned (OpenSpec.ofChange fnExactCoverOfSpec)

/-- ITS FALSE NEIGHBOUR: 'it returns false'. Refute it at one input. -/
def fnExactCoverOfWrong : ChangeSpec := { name := "fnExactCoverOf", fn := fun _ => fun
  | [d1, d2] => { results := [.lit (.bool false)], args := [d1, d2] }
  | _ => none }
def FnExactCoverOfWrongFalsely : Prop := fnExactCoverOfRow.holds Try.pinned (OpenSpec.ofChange fnExactCoverOfWrong)

/-- 'laws.FnArmstrong': WHATEVER THE INPUT: true; the input reads as it did. -/
def fnArmstrongSpec : ChangeSpec := { name := "fnArmstrong", fn := fun _ => fun
  | [d1, d2] => { results := [.lit (.bool true)], args := [d1, d2] }
  | _ => none }
def fnArmstrongRow : OpenClaim := { program := "ytenlddbeehjogaa", sum := "c54958006c93997eb4ae452a782dd3baa3ef10dbb5136cd96b4fa8a63f494cbd", func := "loop.example/g00305/laws.FnArmstrong", spec := "fnArmstrong", unfollowed := true, recurses := true, apart := false }
def FnArmstrongSaid : Prop := fnArmstrongRow.holds Try.pinned (OpenSpec.ofChange fnArmstrongSpec)

/-- ITS FALSE NEIGHBOUR: 'it returns false'. Refute it at one input. -/
def fnArmstrongWrong : ChangeSpec := { name := "fnArmstrong", fn := fun _ => fun
  | [d1, d2] => { results := [.lit (.bool false)], args := [d1, d2] }
  | _ => none }
def FnArmstrongWrongFalsely : Prop := fnArmstrongRow.holds Try.pinned (OpenSpec.ofChange fnArmstrongWrong)

/-- 'laws.FnExactIsNormal': WHATEVER THE INPUT: true; the input reads as it did. -/
def fnExactIsNormalSpec : ChangeSpec := { name := "fnExactIsNormal", fn := fun _ => fun
  | [d1, d2, d3] => { results := [.lit (.bool true)], args := [d1, d2, d3] }
  | _ => none }
def fnExactIsNormalRow : OpenClaim := { program := "ytenlddbeehjogaa", sum := "c54958006c93997eb4ae452a782dd3baa3ef10dbb5136cd96b4fa8a63f494cbd", func := "loop.example/g00305/laws.FnExactIsNormal", spec := "fnExactIsNormal", unfollowed := true, recurses := true, apart := false }
def FnExactIsNormalSaid : Prop := fnExactIsNormalRow.holds Try.pinned (OpenSpec.ofChange fnExactIsNormalSpec)

/-- ITS FALSE NEIGHBOUR: 'it returns false'. Refute it at one input. -/
def fnExactIsNormalWrong : ChangeSpec := { name := "fnExactIsNormal", fn := fun _ => fun
  | [d1, d2, d3] => { results := [.lit (.bool false)], args := [d1, d2, d3] }
  | _ => none }
def FnExactIsNormalWrongFalsely : Prop := fnExactIsNormalRow.holds Try.pinned (OpenSpec.ofChange fnExactIsNormalWrong)

/-- 'laws.FnClosed': WHATEVER THE INPUT: true; the input reads as it did. -/
def fnClosedSpec : ChangeSpec := { name := "fnClosed", fn := fun _ => fun
  | [d1, d2] => { results := [.lit (.bool true)], args := [d1, d2] }
  | _ => none }
def fnClosedRow : OpenClaim := { program := "ytenlddbeehjogaa", sum := "c54958006c93997eb4ae452a782dd3baa3ef10dbb5136cd96b4fa8a63f494cbd", func := "loop.example/g00305/laws.FnClosed", spec := "fnClosed", unfollowed := true, recurses := true, apart := false }
def FnClosedSaid : Prop := fnClosedRow.holds Try.pinned (OpenSpec.ofChange fnClosedSpec)

/-- ITS FALSE NEIGHBOUR: 'it returns false'. Refute it at one input. -/
def fnClosedWrong : ChangeSpec := { name := "fnClosed", fn := fun _ => fun
  | [d1, d2] => { results := [.lit (.bool false)], args := [d1, d2] }
  | _ => none }
def FnClosedWrongFalsely : Prop := fnClosedRow.holds Try.pinned (OpenSpec.ofChange fnClosedWrong)

/-- 'laws.FnExactKeysOf': WHATEVER THE INPUT: true; the input reads as it did. -/
def fnExactKeysOfSpec : ChangeSpec := { name := "fnExactKeysOf", fn := fun _ => fun
  | [d1, d2] => { results := [.lit (.bool true)], args := [d1, d2] }
  | _ => none }
def fnExactKeysOfRow : OpenClaim := { program := "ytenlddbeehjogaa", sum := "c54958006c93997eb4ae452a782dd3baa3ef10dbb5136cd96b4fa8a63f494cbd", func := "loop.example/g00305/laws.FnExactKeysOf", spec := "fnExactKeysOf", unfollowed := true, recurses := true, apart := false }
def FnExactKeysOfSaid : Prop := fnExactKeysOfRow.holds Try.pinned (OpenSpec.ofChange fnExactKeysOfSpec)

/-- ITS FALSE NEIGHBOUR: 'it returns false'. Refute it at one input. -/
def fnExactKeysOfWrong : ChangeSpec := { name := "fnExactKeysOf", fn := fun _ => fun
  | [d1, d2] => { results := [.lit (.bool false)], args := [d1, d2] }
  | _ => none }
def FnExactKeysOfWrongFalsely : Prop := fnExactKeysOfRow.holds Try.pinned (OpenSpec.ofChange fnExactKeysOfWrong)

/-- 'laws.FnExactDependsIn': WHATEVER THE INPUT: true; the input reads as it did. -/
def fnExactDependsInSpec : ChangeSpec := { name := "fnExactDependsIn", fn := fun _ => fun
  | [d1, d2, d3] => { results := [.lit (.bool true)], args := [d1, d2, d3] }
  | _ => none }
def fnExactDependsInRow : OpenClaim := { program := "ytenlddbeehjogaa", sum := "c54958006c93997eb4ae452a782dd3baa3ef10dbb5136cd96b4fa8a63f494cbd", func := "loop.example/g00305/laws.FnExactDependsIn", spec := "fnExactDependsIn", unfollowed := true, recurses := true, apart := false }
def FnExactDependsInSaid : Prop := fnExactDependsInRow.holds Try.pinned (OpenSpec.ofChange fnExactDependsInSpec)

/-- ITS FALSE NEIGHBOUR: 'it returns false'. Refute it at one input. -/
def fnExactDependsInWrong : ChangeSpec := { name := "fnExactDependsIn", fn := fun _ => fun
  | [d1, d2, d3] => { results := [.lit (.bool false)], args := [d1, d2, d3] }
  | _ => none }
def FnExactDependsInWrongFalsely : Prop := fnExactDependsInRow.holds Try.pinned (OpenSpec.ofChange fnExactDependsInWrong)

/-- 'laws.FnExactNormalParts': WHATEVER THE INPUT: true; the input reads as it did. -/
def fnExactNormalPartsSpec : ChangeSpec := { name := "fnExactNormalParts", fn := fun _ => fun
  | [d1, d2] => { results := [.lit (.bool true)], args := [d1, d2] }
  | _ => none }
def fnExactNormalPartsRow : OpenClaim := { program := "ytenlddbeehjogaa", sum := "c54958006c93997eb4ae452a782dd3baa3ef10dbb5136cd96b4fa8a63f494cbd", func := "loop.example/g00305/laws.FnExactNormalParts", spec := "fnExactNormalParts", unfollowed := true, recurses := true, apart := false }
def FnExactNormalPartsSaid : Prop := fnExactNormalPartsRow.holds Try.pinned (OpenSpec.ofChange fnExactNormalPartsSpec)

/-- ITS FALSE NEIGHBOUR: 'it returns false'. Refute it at one input. -/
def fnExactNormalPartsWrong : ChangeSpec := { name := "fnExactNormalParts", fn := fun _ => fun
  | [d1, d2] => { results := [.lit (.bool false)], args := [d1, d2] }
  | _ => none }
def FnExactNormalPartsWrongFalsely : Prop := fnExactNormalPartsRow.holds Try.pinned (OpenSpec.ofChange fnExactNormalPartsWrong)

/- THE SECOND FORM. 'bulk': how many values and letters a reading holds, each counted each time it is reached (what is shared counts as often as it is met; a slice's spare places count too). A statement '..UptoSaid' is the law's where the arguments, and the package variables that the reading takes, are together of bulk at most 1048576: NARROWER than '..Said'. Prove '..Said' where nothing that the law and all that it calls make is longer than what came in: it says more and counts as full. Else prove '..UptoSaid'. A law counts once. -/
mutual
def uptoBulk {H : Type} : DataW H → Nat
  | .lit (.string bytes) => bytes.length + 1
  | .lit _ => 1
  | .nil => 1
  | .ptr d => uptoBulk d + 1
  | .slice elems spare => uptoBulkAll elems + uptoBulkAll spare + 1
  | .agg parts => uptoBulkAll parts + 1
  | .iface _ d => uptoBulk d + 1
  | .map entries => uptoBulkEntries entries + 1
  | .held _ => 1
def uptoBulkAll {H : Type} : List (DataW H) → Nat
  | [] => 0
  | d :: r => uptoBulk d + uptoBulkAll r
def uptoBulkEntries {H : Type} : List (Lit × DataW H) → Nat
  | [] => 0
  | x :: r => uptoBulkEntry x + uptoBulkEntries r
def uptoBulkEntry {H : Type} : Lit × DataW H → Nat
  | (.string bytes, d) => bytes.length + uptoBulk d + 1
  | (_, d) => uptoBulk d + 1
 end
def uptoSmall : (H : Type) → List (DataW H) → Bool := fun _ ds => decide (uptoBulkAll ds ≤ 1048576)
def OpenSpec.upto (s : _root_.Go.ChangeSpec) : _root_.Go.OpenSpec := { _root_.Go.OpenSpec.ofChange s with cond := some uptoSmall }

/-- 'laws.FnExactClosureOf', WHERE WHAT IT READS IS OF BULK AT MOST 1048576: true; the input reads as it did. -/
def fnExactClosureOfUptoRow : OpenClaim := { program := "ytenlddbeehjogaa", sum := "c54958006c93997eb4ae452a782dd3baa3ef10dbb5136cd96b4fa8a63f494cbd", func := "loop.example/g00305/laws.FnExactClosureOf", spec := "fnExactClosureOf", unfollowed := true, recurses := true, apart := false, narrowed := true }
def FnExactClosureOfUptoSaid : Prop := fnExactClosureOfUptoRow.holds Try.pinned (OpenSpec.upto fnExactClosureOfSpec)

/-- 'laws.FnExactSplitBy', WHERE WHAT IT READS IS OF BULK AT MOST 1048576: true; the input reads as it did. -/
def fnExactSplitByUptoRow : OpenClaim := { program := "ytenlddbeehjogaa", sum := "c54958006c93997eb4ae452a782dd3baa3ef10dbb5136cd96b4fa8a63f494cbd", func := "loop.example/g00305/laws.FnExactSplitBy", spec := "fnExactSplitBy", unfollowed := true, recurses := true, apart := false, narrowed := true }
def FnExactSplitByUptoSaid : Prop := fnExactSplitByUptoRow.holds Try.pinned (OpenSpec.upto fnExactSplitBySpec)

/-- 'laws.FnCover', WHERE WHAT IT READS IS OF BULK AT MOST 1048576: true; the input reads as it did. -/
def fnCoverUptoRow : OpenClaim := { program := "ytenlddbeehjogaa", sum := "c54958006c93997eb4ae452a782dd3baa3ef10dbb5136cd96b4fa8a63f494cbd", func := "loop.example/g00305/laws.FnCover", spec := "fnCover", unfollowed := true, recurses := true, apart := false, narrowed := true }
def FnCoverUptoSaid : Prop := fnCoverUptoRow.holds Try.pinned (OpenSpec.upto fnCoverSpec)

/-- 'laws.FnExactCoverOf', WHERE WHAT IT READS IS OF BULK AT MOST 1048576: true; the input reads as it did. -/
def fnExactCoverOfUptoRow : OpenClaim := { program := "ytenlddbeehjogaa", sum := "c54958006c93997eb4ae452a782dd3baa3ef10dbb5136cd96b4fa8a63f494cbd", func := "loop.example/g00305/laws.FnExactCoverOf", spec := "fnExactCoverOf", unfollowed := true, recurses := true, apart := false, narrowed := true }
def FnExactCoverOfUptoSaid : Prop := fnExactCoverOfUptoRow.holds Try.pinned (OpenSpec.upto fnExactCoverOfSpec)

/-- 'laws.FnArmstrong', WHERE WHAT IT READS IS OF BULK AT MOST 1048576: true; the input reads as it did. -/
def fnArmstrongUptoRow : OpenClaim := { program := "ytenlddbeehjogaa", sum := "c54958006c93997eb4ae452a782dd3baa3ef10dbb5136cd96b4fa8a63f494cbd", func := "loop.example/g00305/laws.FnArmstrong", spec := "fnArmstrong", unfollowed := true, recurses := true, apart := false, narrowed := true }
def FnArmstrongUptoSaid : Prop := fnArmstrongUptoRow.holds Try.pinned (OpenSpec.upto fnArmstrongSpec)

/-- 'laws.FnExactIsNormal', WHERE WHAT IT READS IS OF BULK AT MOST 1048576: true; the input reads as it did. -/
def fnExactIsNormalUptoRow : OpenClaim := { program := "ytenlddbeehjogaa", sum := "c54958006c93997eb4ae452a782dd3baa3ef10dbb5136cd96b4fa8a63f494cbd", func := "loop.example/g00305/laws.FnExactIsNormal", spec := "fnExactIsNormal", unfollowed := true, recurses := true, apart := false, narrowed := true }
def FnExactIsNormalUptoSaid : Prop := fnExactIsNormalUptoRow.holds Try.pinned (OpenSpec.upto fnExactIsNormalSpec)

/-- 'laws.FnClosed', WHERE WHAT IT READS IS OF BULK AT MOST 1048576: true; the input reads as it did. -/
def fnClosedUptoRow : OpenClaim := { program := "ytenlddbeehjogaa", sum := "c54958006c93997eb4ae452a782dd3baa3ef10dbb5136cd96b4fa8a63f494cbd", func := "loop.example/g00305/laws.FnClosed", spec := "fnClosed", unfollowed := true, recurses := true, apart := false, narrowed := true }
def FnClosedUptoSaid : Prop := fnClosedUptoRow.holds Try.pinned (OpenSpec.upto fnClosedSpec)

/-- 'laws.FnExactKeysOf', WHERE WHAT IT READS IS OF BULK AT MOST 1048576: true; the input reads as it did. -/
def fnExactKeysOfUptoRow : OpenClaim := { program := "ytenlddbeehjogaa", sum := "c54958006c93997eb4ae452a782dd3baa3ef10dbb5136cd96b4fa8a63f494cbd", func := "loop.example/g00305/laws.FnExactKeysOf", spec := "fnExactKeysOf", unfollowed := true, recurses := true, apart := false, narrowed := true }
def FnExactKeysOfUptoSaid : Prop := fnExactKeysOfUptoRow.holds Try.pinned (OpenSpec.upto fnExactKeysOfSpec)

/-- 'laws.FnExactDependsIn', WHERE WHAT IT READS IS OF BULK AT MOST 1048576: true; the input reads as it did. -/
def fnExactDependsInUptoRow : OpenClaim := { program := "ytenlddbeehjogaa", sum := "c54958006c93997eb4ae452a782dd3baa3ef10dbb5136cd96b4fa8a63f494cbd", func := "loop.example/g00305/laws.FnExactDependsIn", spec := "fnExactDependsIn", unfollowed := true, recurses := true, apart := false, narrowed := true }
def FnExactDependsInUptoSaid : Prop := fnExactDependsInUptoRow.holds Try.pinned (OpenSpec.upto fnExactDependsInSpec)

/-- 'laws.FnExactNormalParts', WHERE WHAT IT READS IS OF BULK AT MOST 1048576: true; the input reads as it did. -/
def fnExactNormalPartsUptoRow : OpenClaim := { program := "ytenlddbeehjogaa", sum := "c54958006c93997eb4ae452a782dd3baa3ef10dbb5136cd96b4fa8a63f494cbd", func := "loop.example/g00305/laws.FnExactNormalParts", spec := "fnExactNormalParts", unfollowed := true, recurses := true, apart := false, narrowed := true }
def FnExactNormalPartsUptoSaid : Prop := fnExactNormalPartsUptoRow.holds Try.pinned (OpenSpec.upto fnExactNormalPartsSpec)

end Rows
end Go.Proofs.Ytenlddbeehjogaa
