/-
  No cell of these rows narrows 'for every input' (looked for: loops, veiled, ifaces, maps, wideKeys, modest, calm, conditions, laid).
  DERIVED. THE GIVEN ROWS OF THIS SEAT. 4 by the template 'for every input the law returns true; each argument reads behind the call as it read before'; 0 by the template 'total and deterministic' (their statements: YtchbcdafomhlaaaTotals.lean).
  GIVEN WITH THE SEED: the statements are not yours to turn. If you find one false, say at which input.
  Laid BY PROGRAM, IN A SANDBOX (cutbox-rows.mjs): the forced cells as the released guide's own fill.sh prints them over the translation 4486a9a9bce1481c… (all of the seat's roots in one cut). By AI agents, Wed Nov 11 2026. No macro, syntax, notation, axiom, sorry.
-/
import Derived.Test.YtchbcdafomhlaaaChecked
import GoSem.Claim
import GoSem.ClaimJoined
import GoSem.ClaimMapViews
import Derived.JoinedTies
import Derived.KernelRfl
namespace Go.Proofs.Ytchbcdafomhlaaa
/- THE CELL 'sum', in the pinned program and in every row, IS THE sha256 OF THE DUMP (.gsa) THAT YtchbcdafomhlaaaProg.lean LOADS. Nothing in Lean hashes anything: it is a label: what it is worth is what the hold of that sum in a sandbox is worth. -/
noncomputable def Try.pinned : Pinned := { name := "ytchbcdafomhlaaa", sum := "4486a9a9bce1481c5cf0263e5dc3dfb2bfc76a13f263c0856c217c7ad11187d6", checked := Try.checked }
namespace Rows
def none {H : Type} : Left H := { results := [], args := [] }

/-- 'laws.FnClosed': WHATEVER THE INPUT: true; the input reads as it did. -/
def fnClosedSpec : ChangeSpec := { name := "fnClosed", fn := fun _ => fun
  | [d1, d2] => { results := [.lit (.bool true)], args := [d1, d2] }
  | _ => none }
def fnClosedRow : OpenClaim := { program := "ytchbcdafomhlaaa", sum := "4486a9a9bce1481c5cf0263e5dc3dfb2bfc76a13f263c0856c217c7ad11187d6", func := "loop.example/g00305/laws.FnClosed", spec := "fnClosed", unfollowed := true, recurses := true, apart := false }
def FnClosedSaid : Prop := fnClosedRow.holds Try.pinned (OpenSpec.ofChange fnClosedSpec)

/-- ITS FALSE NEIGHBOUR: 'it returns false'. Refute it at one input. -/
def fnClosedWrong : ChangeSpec := { name := "fnClosed", fn := fun _ => fun
  | [d1, d2] => { results := [.lit (.bool false)], args := [d1, d2] }
  | _ => none }
def FnClosedWrongFalsely : Prop := fnClosedRow.holds Try.pinned (OpenSpec.ofChange fnClosedWrong)

/-- 'laws.FnExactKeysOf': WHATEVER THE INPUT: true; the input reads as it did. -/
def fnExactKeysOfSpec : ChangeSpec := { name := "fnExactKeysOf", fn := fun _ => fun
  | [d1, d2] => { results := [.lit (.bool true)], args := [d1, d2] }
  | _ => none }
def fnExactKeysOfRow : OpenClaim := { program := "ytchbcdafomhlaaa", sum := "4486a9a9bce1481c5cf0263e5dc3dfb2bfc76a13f263c0856c217c7ad11187d6", func := "loop.example/g00305/laws.FnExactKeysOf", spec := "fnExactKeysOf", unfollowed := true, recurses := true, apart := false }
def FnExactKeysOfSaid : Prop := fnExactKeysOfRow.holds Try.pinned (OpenSpec.ofChange fnExactKeysOfSpec)

/-- ITS FALSE NEIGHBOUR: 'it returns false'. Refute it at one input. -/
def fnExactKeysOfWrong : ChangeSpec := { name := "fnExactKeysOf", fn := fun _ => fun
  | [d1, d2] => { results := [.lit (.bool false)], args := [d1, d2] }
  | _ => none }
def FnExactKeysOfWrongFalsely : Prop := fnExactKeysOfRow.holds Try.pinned (OpenSpec.ofChange fnExactKeysOfWrong)

/-- 'laws.FnExactDependsIn': WHATEVER THE INPUT: true; the input reads as it did. -/
def fnExactDependsInSpec : ChangeSpec := { name := "fnExactDependsIn", fn := fun _ => fun
  | [d1, d2, d3] => { results := [.lit (.bool true)], args := [d1, d2, d3] }
  | _ => none }
def fnExactDependsInRow : OpenClaim := { program := "ytchbcdafomhlaaa", sum := "4486a9a9bce1481c5cf0263e5dc3dfb2bfc76a13f263c0856c217c7ad11187d6", func := "loop.example/g00305/laws.FnExactDependsIn", spec := "fnExactDependsIn", unfollowed := true, recurses := true, apart := false }
def FnExactDependsInSaid : Prop := fnExactDependsInRow.holds Try.pinned (OpenSpec.ofChange fnExactDependsInSpec)

/-- ITS FALSE NEIGHBOUR: 'it returns false'. Refute it at one input. -/
def fnExactDependsInWrong : ChangeSpec := { name := "fnExactDependsIn", fn := fun _ => fun
  | [d1, d2, d3] => { results := [.lit (.bool false)], args := [d1, d2, d3] }
  | _ => none }
def FnExactDependsInWrongFalsely : Prop := fnExactDependsInRow.holds Try.pinned (OpenSpec.ofChange fnExactDependsInWrong)

/-- 'laws.FnExactNormalParts': WHATEVER THE INPUT: true; the input reads as it did. -/
def fnExactNormalPartsSpec : ChangeSpec := { name := "fnExactNormalParts", fn := fun _ => fun
  | [d1, d2] => { results := [.lit (.bool true)], args := [d1, d2] }
  | _ => none }
def fnExactNormalPartsRow : OpenClaim := { program := "ytchbcdafomhlaaa", sum := "4486a9a9bce1481c5cf0263e5dc3dfb2bfc76a13f263c0856c217c7ad11187d6", func := "loop.example/g00305/laws.FnExactNormalParts", spec := "fnExactNormalParts", unfollowed := true, recurses := true, apart := false }
def FnExactNormalPartsSaid : Prop := fnExactNormalPartsRow.holds Try.pinned (OpenSpec.ofChange fnExactNormalPartsSpec)

/-- ITS FALSE NEIGHBOUR: 'it returns false'. Refute it at one input. -/
def fnExactNormalPartsWrong : ChangeSpec := { name := "fnExactNormalParts", fn := fun _ => fun
  | [d1, d2] => { results := [.lit (.bool false)], args := [d1, d2] }
  | _ => none }
def FnExactNormalPartsWrongFalsely : Prop := fnExactNormalPartsRow.holds Try.pinned (OpenSpec.ofChange fnExactNormalPartsWrong)

/- THE SECOND FORM. 'bulk': how many values and letters a reading holds, each counted each time it is reached (what is shared counts as often as it is met; a slice's spare places count too). A statement '..UptoSaid' is the law's where the arguments, and the package variables that the reading takes, are together of bulk at most 1048576: NARROWER than '..Said'. Prove '..Said' where nothing that the law and all that it calls make is longer than what came in: it says more and counts as full. Else prove '..UptoSaid'. A law counts once. -/
mutual
def uptoBulk {H : Type} : DataW H → Nat
  | .lit (.string bytes) => bytes.length + 1
  | .lit _ => 1
  | .nil => 1
  | .ptr d => uptoBulk d + 1
  | .slice elems spare => uptoBulkAll elems + uptoBulkAll spare + 1
  | .agg parts => uptoBulkAll parts + 1
  | .iface _ d => uptoBulk d + 1
  | .map entries => uptoBulkEntries entries + 1
  | .held _ => 1
def uptoBulkAll {H : Type} : List (DataW H) → Nat
  | [] => 0
  | d :: r => uptoBulk d + uptoBulkAll r
def uptoBulkEntries {H : Type} : List (Lit × DataW H) → Nat
  | [] => 0
  | x :: r => uptoBulkEntry x + uptoBulkEntries r
def uptoBulkEntry {H : Type} : Lit × DataW H → Nat
  | (.string bytes, d) => bytes.length + uptoBulk d + 1
  | (_, d) => uptoBulk d + 1
 end
def uptoSmall : (H : Type) → List (DataW H) → Bool := fun _ ds => decide (uptoBulkAll ds ≤ 1048576)
def OpenSpec.upto (s : _root_.Go.ChangeSpec) : _root_.Go.OpenSpec := { _root_.Go.OpenSpec.ofChange s with cond := some uptoSmall }

/-- 'laws.FnClosed', WHERE WHAT IT READS IS OF BULK AT MOST 1048576: true; the input reads as it did. -/
def fnClosedUptoRow : OpenClaim := { program := "ytchbcdafomhlaaa", sum := "4486a9a9bce1481c5cf0263e5dc3dfb2bfc76a13f263c0856c217c7ad11187d6", func := "loop.example/g00305/laws.FnClosed", spec := "fnClosed", unfollowed := true, recurses := true, apart := false, narrowed := true }
def FnClosedUptoSaid : Prop := fnClosedUptoRow.holds Try.pinned (OpenSpec.upto fnClosedSpec)

/-- 'laws.FnExactKeysOf', WHERE WHAT IT READS IS OF BULK AT MOST 1048576: true; the input reads as it did. -/
def fnExactKeysOfUptoRow : OpenClaim := { program := "ytchbcdafomhlaaa", sum := "4486a9a9bce1481c5cf0263e5dc3dfb2bfc76a13f263c0856c217c7ad11187d6", func := "loop.example/g00305/laws.FnExactKeysOf", spec := "fnExactKeysOf", unfollowed := true, recurses := true, apart := false, narrowed := true }
def FnExactKeysOfUptoSaid : Prop := fnExactKeysOfUptoRow.holds Try.pinned (OpenSpec.upto fnExactKeysOfSpec)

/-- 'laws.FnExactDependsIn', WHERE WHAT IT READS IS OF BULK AT MOST 1048576: true; the input reads as it did. -/
def fnExactDependsInUptoRow : OpenClaim := { program := "ytchbcdafomhlaaa", sum := "4486a9a9bce1481c5cf0263e5dc3dfb2bfc76a13f263c0856c217c7ad11187d6", func := "loop.example/g00305/laws.FnExactDependsIn", spec := "fnExactDependsIn", unfollowed := true, recurses := true, apart := false, narrowed := true }
def FnExactDependsInUptoSaid : Prop := fnExactDependsInUptoRow.holds Try.pinned (OpenSpec.upto fnExactDependsInSpec)

/-- 'laws.FnExactNormalParts', WHERE WHAT IT READS IS OF BULK AT MOST 1048576: true; the input reads as it did. -/
def fnExactNormalPartsUptoRow : OpenClaim := { program := "ytchbcdafomhlaaa", sum := "4486a9a9bce1481c5cf0263e5dc3dfb2bfc76a13f263c0856c217c7ad11187d6", func := "loop.example/g00305/laws.FnExactNormalParts", spec := "fnExactNormalParts", unfollowed := true, recurses := true, apart := false, narrowed := true }
def FnExactNormalPartsUptoSaid : Prop := fnExactNormalPartsUptoRow.holds Try.pinned (OpenSpec.upto fnExactNormalPartsSpec)

end Rows
end Go.Proofs.Ytchbcdafomhlaaa
