/-
  No cell of these rows narrows 'for every input' (looked for: loops, veiled, ifaces, maps, wideKeys, modest, calm, conditions, laid).
  DERIVED. THE GIVEN ROWS OF THIS SEAT. 11 by the template 'for every input the law returns true; each argument reads behind the call as it read before'; 0 by the template 'total and deterministic' (their statements: YtboligpcbndkjaaTotals.lean).
  GIVEN WITH THE SEED: the statements are not yours to turn. If you find one false, say at which input.
  Laid BY PROGRAM, IN A SANDBOX (cutbox-rows.mjs): the forced cells as the released guide's own fill.sh prints them over the translation 443c754a51f2ec37… (all of the seat's roots in one cut). By AI agents, Wed Nov 11 2026. No macro, syntax, notation, axiom, sorry.
-/
import Derived.Test.YtboligpcbndkjaaChecked
import GoSem.Claim
import GoSem.ClaimJoined
import GoSem.ClaimMapViews
import Derived.JoinedTies
import Derived.KernelRfl
namespace Go.Proofs.Ytboligpcbndkjaa
/- THE CELL 'sum', in the pinned program and in every row, IS THE sha256 OF THE DUMP (.gsa) THAT YtboligpcbndkjaaProg.lean LOADS. Nothing in Lean hashes anything: it is a label: what it is worth is what the hold of that sum in a sandbox is worth. -/
noncomputable def Try.pinned : Pinned := { name := "ytboligpcbndkjaa", sum := "443c754a51f2ec37f8a70e968bd160225f8ca7f9e680c0ab549b8bdc046b8abc", checked := Try.checked }
namespace Rows
def none {H : Type} : Left H := { results := [], args := [] }

/-- 'laws.FnExactEdgesOf': WHATEVER THE INPUT: true; the input reads as it did. -/
def fnExactEdgesOfSpec : ChangeSpec := { name := "fnExactEdgesOf", fn := fun _ => fun
  | [d1, d2] => { results := [.lit (.bool true)], args := [d1, d2] }
  | _ => none }
def fnExactEdgesOfRow : OpenClaim := { program := "ytboligpcbndkjaa", sum := "443c754a51f2ec37f8a70e968bd160225f8ca7f9e680c0ab549b8bdc046b8abc", func := "loop.example/g00305/laws.FnExactEdgesOf", spec := "fnExactEdgesOf", unfollowed := true, recurses := true, apart := false }
def FnExactEdgesOfSaid : Prop := fnExactEdgesOfRow.holds Try.pinned (OpenSpec.ofChange fnExactEdgesOfSpec)

/-- ITS FALSE NEIGHBOUR: 'it returns false'. Refute it at one input. -/
def fnExactEdgesOfWrong : ChangeSpec := { name := "fnExactEdgesOf", fn := fun _ => fun
  | [d1, d2] => { results := [.lit (.bool false)], args := [d1, d2] }
  | _ => none }
def FnExactEdgesOfWrongFalsely : Prop := fnExactEdgesOfRow.holds Try.pinned (OpenSpec.ofChange fnExactEdgesOfWrong)

/-- 'laws.FnExactIsTree': WHATEVER THE INPUT: true; the input reads as it did. -/
def fnExactIsTreeSpec : ChangeSpec := { name := "fnExactIsTree", fn := fun _ => fun
  | [d1, d2, d3] => { results := [.lit (.bool true)], args := [d1, d2, d3] }
  | _ => none }
def fnExactIsTreeRow : OpenClaim := { program := "ytboligpcbndkjaa", sum := "443c754a51f2ec37f8a70e968bd160225f8ca7f9e680c0ab549b8bdc046b8abc", func := "loop.example/g00305/laws.FnExactIsTree", spec := "fnExactIsTree", unfollowed := true, recurses := true, apart := false }
def FnExactIsTreeSaid : Prop := fnExactIsTreeRow.holds Try.pinned (OpenSpec.ofChange fnExactIsTreeSpec)

/-- ITS FALSE NEIGHBOUR: 'it returns false'. Refute it at one input. -/
def fnExactIsTreeWrong : ChangeSpec := { name := "fnExactIsTree", fn := fun _ => fun
  | [d1, d2, d3] => { results := [.lit (.bool false)], args := [d1, d2, d3] }
  | _ => none }
def FnExactIsTreeWrongFalsely : Prop := fnExactIsTreeRow.holds Try.pinned (OpenSpec.ofChange fnExactIsTreeWrong)

/-- 'laws.FnExactBestOf': WHATEVER THE INPUT: true; the input reads as it did. -/
def fnExactBestOfSpec : ChangeSpec := { name := "fnExactBestOf", fn := fun _ => fun
  | [d1, d2] => { results := [.lit (.bool true)], args := [d1, d2] }
  | _ => none }
def fnExactBestOfRow : OpenClaim := { program := "ytboligpcbndkjaa", sum := "443c754a51f2ec37f8a70e968bd160225f8ca7f9e680c0ab549b8bdc046b8abc", func := "loop.example/g00305/laws.FnExactBestOf", spec := "fnExactBestOf", unfollowed := true, recurses := true, apart := false }
def FnExactBestOfSaid : Prop := fnExactBestOfRow.holds Try.pinned (OpenSpec.ofChange fnExactBestOfSpec)

/-- ITS FALSE NEIGHBOUR: 'it returns false'. Refute it at one input. -/
def fnExactBestOfWrong : ChangeSpec := { name := "fnExactBestOf", fn := fun _ => fun
  | [d1, d2] => { results := [.lit (.bool false)], args := [d1, d2] }
  | _ => none }
def FnExactBestOfWrongFalsely : Prop := fnExactBestOfRow.holds Try.pinned (OpenSpec.ofChange fnExactBestOfWrong)

/-- 'laws.FnExactSameQueries': WHATEVER THE INPUT: true; the input reads as it did. -/
def fnExactSameQueriesSpec : ChangeSpec := { name := "fnExactSameQueries", fn := fun _ => fun
  | [d1, d2, d3] => { results := [.lit (.bool true)], args := [d1, d2, d3] }
  | _ => none }
def fnExactSameQueriesRow : OpenClaim := { program := "ytboligpcbndkjaa", sum := "443c754a51f2ec37f8a70e968bd160225f8ca7f9e680c0ab549b8bdc046b8abc", func := "loop.example/g00305/laws.FnExactSameQueries", spec := "fnExactSameQueries", unfollowed := true, recurses := true, apart := false }
def FnExactSameQueriesSaid : Prop := fnExactSameQueriesRow.holds Try.pinned (OpenSpec.ofChange fnExactSameQueriesSpec)

/-- ITS FALSE NEIGHBOUR: 'it returns false'. Refute it at one input. -/
def fnExactSameQueriesWrong : ChangeSpec := { name := "fnExactSameQueries", fn := fun _ => fun
  | [d1, d2, d3] => { results := [.lit (.bool false)], args := [d1, d2, d3] }
  | _ => none }
def FnExactSameQueriesWrongFalsely : Prop := fnExactSameQueriesRow.holds Try.pinned (OpenSpec.ofChange fnExactSameQueriesWrong)

/-- 'laws.FnExactBestOrder': WHATEVER THE INPUT: true; the input reads as it did. -/
def fnExactBestOrderSpec : ChangeSpec := { name := "fnExactBestOrder", fn := fun _ => fun
  | [d] => { results := [.lit (.bool true)], args := [d] }
  | _ => none }
def fnExactBestOrderRow : OpenClaim := { program := "ytboligpcbndkjaa", sum := "443c754a51f2ec37f8a70e968bd160225f8ca7f9e680c0ab549b8bdc046b8abc", func := "loop.example/g00305/laws.FnExactBestOrder", spec := "fnExactBestOrder", unfollowed := true, recurses := true, apart := false }
def FnExactBestOrderSaid : Prop := fnExactBestOrderRow.holds Try.pinned (OpenSpec.ofChange fnExactBestOrderSpec)

/-- ITS FALSE NEIGHBOUR: 'it returns false'. Refute it at one input. -/
def fnExactBestOrderWrong : ChangeSpec := { name := "fnExactBestOrder", fn := fun _ => fun
  | [d] => { results := [.lit (.bool false)], args := [d] }
  | _ => none }
def FnExactBestOrderWrongFalsely : Prop := fnExactBestOrderRow.holds Try.pinned (OpenSpec.ofChange fnExactBestOrderWrong)

/-- 'laws.FnExactIsContained': WHATEVER THE INPUT: true; the input reads as it did. -/
def fnExactIsContainedSpec : ChangeSpec := { name := "fnExactIsContained", fn := fun _ => fun
  | [d1, d2, d3] => { results := [.lit (.bool true)], args := [d1, d2, d3] }
  | _ => none }
def fnExactIsContainedRow : OpenClaim := { program := "ytboligpcbndkjaa", sum := "443c754a51f2ec37f8a70e968bd160225f8ca7f9e680c0ab549b8bdc046b8abc", func := "loop.example/g00305/laws.FnExactIsContained", spec := "fnExactIsContained", unfollowed := true, recurses := true, apart := false }
def FnExactIsContainedSaid : Prop := fnExactIsContainedRow.holds Try.pinned (OpenSpec.ofChange fnExactIsContainedSpec)

/-- ITS FALSE NEIGHBOUR: 'it returns false'. Refute it at one input. -/
def fnExactIsContainedWrong : ChangeSpec := { name := "fnExactIsContained", fn := fun _ => fun
  | [d1, d2, d3] => { results := [.lit (.bool false)], args := [d1, d2, d3] }
  | _ => none }
def FnExactIsContainedWrongFalsely : Prop := fnExactIsContainedRow.holds Try.pinned (OpenSpec.ofChange fnExactIsContainedWrong)

/-- 'laws.FnOrdered': WHATEVER THE INPUT: true; the input reads as it did. -/
def fnOrderedSpec : ChangeSpec := { name := "fnOrdered", fn := fun _ => fun
  | [d1, d2] => { results := [.lit (.bool true)], args := [d1, d2] }
  | _ => none }
def fnOrderedRow : OpenClaim := { program := "ytboligpcbndkjaa", sum := "443c754a51f2ec37f8a70e968bd160225f8ca7f9e680c0ab549b8bdc046b8abc", func := "loop.example/g00305/laws.FnOrdered", spec := "fnOrdered", unfollowed := true, recurses := true, apart := false }
def FnOrderedSaid : Prop := fnOrderedRow.holds Try.pinned (OpenSpec.ofChange fnOrderedSpec)

/-- ITS FALSE NEIGHBOUR: 'it returns false'. Refute it at one input. -/
def fnOrderedWrong : ChangeSpec := { name := "fnOrdered", fn := fun _ => fun
  | [d1, d2] => { results := [.lit (.bool false)], args := [d1, d2] }
  | _ => none }
def FnOrderedWrongFalsely : Prop := fnOrderedRow.holds Try.pinned (OpenSpec.ofChange fnOrderedWrong)

/-- 'laws.FnCore': WHATEVER THE INPUT: true; the input reads as it did. -/
def fnCoreSpec : ChangeSpec := { name := "fnCore", fn := fun _ => fun
  | [d1, d2] => { results := [.lit (.bool true)], args := [d1, d2] }
  | _ => none }
def fnCoreRow : OpenClaim := { program := "ytboligpcbndkjaa", sum := "443c754a51f2ec37f8a70e968bd160225f8ca7f9e680c0ab549b8bdc046b8abc", func := "loop.example/g00305/laws.FnCore", spec := "fnCore", unfollowed := true, recurses := true, apart := false }
def FnCoreSaid : Prop := fnCoreRow.holds Try.pinned (OpenSpec.ofChange fnCoreSpec)

/-- ITS FALSE NEIGHBOUR: 'it returns false'. Refute it at one input. -/
def fnCoreWrong : ChangeSpec := { name := "fnCore", fn := fun _ => fun
  | [d1, d2] => { results := [.lit (.bool false)], args := [d1, d2] }
  | _ => none }
def FnCoreWrongFalsely : Prop := fnCoreRow.holds Try.pinned (OpenSpec.ofChange fnCoreWrong)

/-- 'laws.FnExactEarsOf': WHATEVER THE INPUT: true; the input reads as it did. -/
def fnExactEarsOfSpec : ChangeSpec := { name := "fnExactEarsOf", fn := fun _ => fun
  | [d1, d2] => { results := [.lit (.bool true)], args := [d1, d2] }
  | _ => none }
def fnExactEarsOfRow : OpenClaim := { program := "ytboligpcbndkjaa", sum := "443c754a51f2ec37f8a70e968bd160225f8ca7f9e680c0ab549b8bdc046b8abc", func := "loop.example/g00305/laws.FnExactEarsOf", spec := "fnExactEarsOf", unfollowed := true, recurses := true, apart := false }
def FnExactEarsOfSaid : Prop := fnExactEarsOfRow.holds Try.pinned (OpenSpec.ofChange fnExactEarsOfSpec)

/-- ITS FALSE NEIGHBOUR: 'it returns false'. Refute it at one input. -/
def fnExactEarsOfWrong : ChangeSpec := { name := "fnExactEarsOf", fn := fun _ => fun
  | [d1, d2] => { results := [.lit (.bool false)], args := [d1, d2] }
  | _ => none }
def FnExactEarsOfWrongFalsely : Prop := fnExactEarsOfRow.holds Try.pinned (OpenSpec.ofChange fnExactEarsOfWrong)

/-- 'laws.FnExactCoreOf': WHATEVER THE INPUT: true; the input reads as it did. -/
def fnExactCoreOfSpec : ChangeSpec := { name := "fnExactCoreOf", fn := fun _ => fun
  | [d1, d2] => { results := [.lit (.bool true)], args := [d1, d2] }
  | _ => none }
def fnExactCoreOfRow : OpenClaim := { program := "ytboligpcbndkjaa", sum := "443c754a51f2ec37f8a70e968bd160225f8ca7f9e680c0ab549b8bdc046b8abc", func := "loop.example/g00305/laws.FnExactCoreOf", spec := "fnExactCoreOf", unfollowed := true, recurses := true, apart := false }
def FnExactCoreOfSaid : Prop := fnExactCoreOfRow.holds Try.pinned (OpenSpec.ofChange fnExactCoreOfSpec)

/-- ITS FALSE NEIGHBOUR: 'it returns false'. Refute it at one input. -/
def fnExactCoreOfWrong : ChangeSpec := { name := "fnExactCoreOf", fn := fun _ => fun
  | [d1, d2] => { results := [.lit (.bool false)], args := [d1, d2] }
  | _ => none }
def FnExactCoreOfWrongFalsely : Prop := fnExactCoreOfRow.holds Try.pinned (OpenSpec.ofChange fnExactCoreOfWrong)

/-- 'laws.FnExactCanonicalOf': WHATEVER THE INPUT: true; the input reads as it did. -/
def fnExactCanonicalOfSpec : ChangeSpec := { name := "fnExactCanonicalOf", fn := fun _ => fun
  | [d1, d2] => { results := [.lit (.bool true)], args := [d1, d2] }
  | _ => none }
def fnExactCanonicalOfRow : OpenClaim := { program := "ytboligpcbndkjaa", sum := "443c754a51f2ec37f8a70e968bd160225f8ca7f9e680c0ab549b8bdc046b8abc", func := "loop.example/g00305/laws.FnExactCanonicalOf", spec := "fnExactCanonicalOf", unfollowed := true, recurses := true, apart := false }
def FnExactCanonicalOfSaid : Prop := fnExactCanonicalOfRow.holds Try.pinned (OpenSpec.ofChange fnExactCanonicalOfSpec)

/-- ITS FALSE NEIGHBOUR: 'it returns false'. Refute it at one input. -/
def fnExactCanonicalOfWrong : ChangeSpec := { name := "fnExactCanonicalOf", fn := fun _ => fun
  | [d1, d2] => { results := [.lit (.bool false)], args := [d1, d2] }
  | _ => none }
def FnExactCanonicalOfWrongFalsely : Prop := fnExactCanonicalOfRow.holds Try.pinned (OpenSpec.ofChange fnExactCanonicalOfWrong)

/- THE SECOND FORM. 'bulk': how many values and letters a reading holds, each counted each time it is reached (what is shared counts as often as it is met; a slice's spare places count too). A statement '..UptoSaid' is the law's where the arguments, and the package variables that the reading takes, are together of bulk at most 1048576: NARROWER than '..Said'. Prove '..Said' where nothing that the law and all that it calls make is longer than what came in: it says more and counts as full. Else prove '..UptoSaid'. A law counts once. -/
mutual
def uptoBulk {H : Type} : DataW H → Nat
  | .lit (.string bytes) => bytes.length + 1
  | .lit _ => 1
  | .nil => 1
  | .ptr d => uptoBulk d + 1
  | .slice elems spare => uptoBulkAll elems + uptoBulkAll spare + 1
  | .agg parts => uptoBulkAll parts + 1
  | .iface _ d => uptoBulk d + 1
  | .map entries => uptoBulkEntries entries + 1
  | .held _ => 1
def uptoBulkAll {H : Type} : List (DataW H) → Nat
  | [] => 0
  | d :: r => uptoBulk d + uptoBulkAll r
def uptoBulkEntries {H : Type} : List (Lit × DataW H) → Nat
  | [] => 0
  | x :: r => uptoBulkEntry x + uptoBulkEntries r
def uptoBulkEntry {H : Type} : Lit × DataW H → Nat
  | (.string bytes, d) => bytes.length + uptoBulk d + 1
  | (_, d) => uptoBulk d + 1
 end
def uptoSmall : (H : Type) → List (DataW H) → Bool := fun _ ds => decide (uptoBulkAll ds ≤ 1048576)
def OpenSpec.upto (s : _root_.Go.ChangeSpec) : _root_.Go.OpenSpec := { _root_.Go.OpenSpec.ofChange s with cond := some uptoSmall }

/-- 'laws.FnExactEdgesOf', WHERE WHAT IT READS IS OF BULK AT MOST 1048576: true; the input reads as it did. -/
def fnExactEdgesOfUptoRow : OpenClaim := { program := "ytboligpcbndkjaa", sum := "443c754a51f2ec37f8a70e968bd160225f8ca7f9e680c0ab549b8bdc046b8abc", func := "loop.example/g00305/laws.FnExactEdgesOf", spec := "fnExactEdgesOf", unfollowed := true, recurses := true, apart := false, narrowed := true }
def FnExactEdgesOfUptoSaid : Prop := fnExactEdgesOfUptoRow.holds Try.pinned (OpenSpec.upto fnExactEdgesOfSpec)

/-- 'laws.FnExactIsTree', WHERE WHAT IT READS IS OF BULK AT MOST 1048576: true; the input reads as it did. -/
def fnExactIsTreeUptoRow : OpenClaim := { program := "ytboligpcbndkjaa", sum := "443c754a51f2ec37f8a70e968bd160225f8ca7f9e680c0ab549b8bdc046b8abc", func := "loop.example/g00305/laws.FnExactIsTree", spec := "fnExactIsTree", unfollowed := true, recurses := true, apart := false, narrowed := true }
def FnExactIsTreeUptoSaid : Prop := fnExactIsTreeUptoRow.holds Try.pinned (OpenSpec.upto fnExactIsTreeSpec)

/-- 'laws.FnExactBestOf', WHERE WHAT IT READS IS OF BULK AT MOST 1048576: true; the input reads as it did. -/
def fnExactBestOfUptoRow : OpenClaim := { program := "ytboligpcbndkjaa", sum := "443c754a51f2ec37f8a70e968bd160225f8ca7f9e680c0ab549b8bdc046b8abc", func := "loop.example/g00305/laws.FnExactBestOf", spec := "fnExactBestOf", unfollowed := true, recurses := true, apart := false, narrowed := true }
def FnExactBestOfUptoSaid : Prop := fnExactBestOfUptoRow.holds Try.pinned (OpenSpec.upto fnExactBestOfSpec)

/-- 'laws.FnExactSameQueries', WHERE WHAT IT READS IS OF BULK AT MOST 1048576: true; the input reads as it did. -/
def fnExactSameQueriesUptoRow : OpenClaim := { program := "ytboligpcbndkjaa", sum := "443c754a51f2ec37f8a70e968bd160225f8ca7f9e680c0ab549b8bdc046b8abc", func := "loop.example/g00305/laws.FnExactSameQueries", spec := "fnExactSameQueries", unfollowed := true, recurses := true, apart := false, narrowed := true }
def FnExactSameQueriesUptoSaid : Prop := fnExactSameQueriesUptoRow.holds Try.pinned (OpenSpec.upto fnExactSameQueriesSpec)

/-- 'laws.FnExactBestOrder', WHERE WHAT IT READS IS OF BULK AT MOST 1048576: true; the input reads as it did. -/
def fnExactBestOrderUptoRow : OpenClaim := { program := "ytboligpcbndkjaa", sum := "443c754a51f2ec37f8a70e968bd160225f8ca7f9e680c0ab549b8bdc046b8abc", func := "loop.example/g00305/laws.FnExactBestOrder", spec := "fnExactBestOrder", unfollowed := true, recurses := true, apart := false, narrowed := true }
def FnExactBestOrderUptoSaid : Prop := fnExactBestOrderUptoRow.holds Try.pinned (OpenSpec.upto fnExactBestOrderSpec)

/-- 'laws.FnExactIsContained', WHERE WHAT IT READS IS OF BULK AT MOST 1048576: true; the input reads as it did. -/
def fnExactIsContainedUptoRow : OpenClaim := { program := "ytboligpcbndkjaa", sum := "443c754a51f2ec37f8a70e968bd160225f8ca7f9e680c0ab549b8bdc046b8abc", func := "loop.example/g00305/laws.FnExactIsContained", spec := "fnExactIsContained", unfollowed := true, recurses := true, apart := false, narrowed := true }
def FnExactIsContainedUptoSaid : Prop := fnExactIsContainedUptoRow.holds Try.pinned (OpenSpec.upto fnExactIsContainedSpec)

/-- 'laws.FnOrdered', WHERE WHAT IT READS IS OF BULK AT MOST 1048576: true; the input reads as it did. -/
def fnOrderedUptoRow : OpenClaim := { program := "ytboligpcbndkjaa", sum := "443c754a51f2ec37f8a70e968bd160225f8ca7f9e680c0ab549b8bdc046b8abc", func := "loop.example/g00305/laws.FnOrdered", spec := "fnOrdered", unfollowed := true, recurses := true, apart := false, narrowed := true }
def FnOrderedUptoSaid : Prop := fnOrderedUptoRow.holds Try.pinned (OpenSpec.upto fnOrderedSpec)

/-- 'laws.FnCore', WHERE WHAT IT READS IS OF BULK AT MOST 1048576: true; the input reads as it did. -/
def fnCoreUptoRow : OpenClaim := { program := "ytboligpcbndkjaa", sum := "443c754a51f2ec37f8a70e968bd160225f8ca7f9e680c0ab549b8bdc046b8abc", func := "loop.example/g00305/laws.FnCore", spec := "fnCore", unfollowed := true, recurses := true, apart := false, narrowed := true }
def FnCoreUptoSaid : Prop := fnCoreUptoRow.holds Try.pinned (OpenSpec.upto fnCoreSpec)

/-- 'laws.FnExactEarsOf', WHERE WHAT IT READS IS OF BULK AT MOST 1048576: true; the input reads as it did. -/
def fnExactEarsOfUptoRow : OpenClaim := { program := "ytboligpcbndkjaa", sum := "443c754a51f2ec37f8a70e968bd160225f8ca7f9e680c0ab549b8bdc046b8abc", func := "loop.example/g00305/laws.FnExactEarsOf", spec := "fnExactEarsOf", unfollowed := true, recurses := true, apart := false, narrowed := true }
def FnExactEarsOfUptoSaid : Prop := fnExactEarsOfUptoRow.holds Try.pinned (OpenSpec.upto fnExactEarsOfSpec)

/-- 'laws.FnExactCoreOf', WHERE WHAT IT READS IS OF BULK AT MOST 1048576: true; the input reads as it did. -/
def fnExactCoreOfUptoRow : OpenClaim := { program := "ytboligpcbndkjaa", sum := "443c754a51f2ec37f8a70e968bd160225f8ca7f9e680c0ab549b8bdc046b8abc", func := "loop.example/g00305/laws.FnExactCoreOf", spec := "fnExactCoreOf", unfollowed := true, recurses := true, apart := false, narrowed := true }
def FnExactCoreOfUptoSaid : Prop := fnExactCoreOfUptoRow.holds Try.pinned (OpenSpec.upto fnExactCoreOfSpec)

/-- 'laws.FnExactCanonicalOf', WHERE WHAT IT READS IS OF BULK AT MOST 1048576: true; the input reads as it did. -/
def fnExactCanonicalOfUptoRow : OpenClaim := { program := "ytboligpcbndkjaa", sum := "443c754a51f2ec37f8a70e968bd160225f8ca7f9e680c0ab549b8bdc046b8abc", func := "loop.example/g00305/laws.FnExactCanonicalOf", spec := "fnExactCanonicalOf", unfollowed := true, recurses := true, apart := false, narrowed := true }
def FnExactCanonicalOfUptoSaid : Prop := fnExactCanonicalOfUptoRow.holds Try.pinned (OpenSpec.upto fnExactCanonicalOfSpec)

end Rows
end Go.Proofs.Ytboligpcbndkjaa
