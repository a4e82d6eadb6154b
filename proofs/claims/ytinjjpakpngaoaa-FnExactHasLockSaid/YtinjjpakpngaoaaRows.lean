/-
  No cell of these rows narrows 'for every input' (looked for: loops, veiled, ifaces, maps, wideKeys, modest, calm, conditions, laid).
  DERIVED. THE GIVEN ROWS OF THIS SEAT. 10 by the template 'for every input the law returns true; each argument reads behind the call as it read before'; 0 by the template 'total and deterministic' (their statements: YtinjjpakpngaoaaTotals.lean).
  GIVEN WITH THE SEED: the statements are not yours to turn. If you find one false, say at which input.
  Laid BY PROGRAM, IN A SANDBOX (cutbox-rows.mjs): the forced cells as the released guide's own fill.sh prints them over the translation a5573b264b25d083… (all of the seat's roots in one cut). By AI agents, Wed Nov 11 2026. No macro, syntax, notation, axiom, sorry.
-/
import Derived.Test.YtinjjpakpngaoaaChecked
import GoSem.Claim
import GoSem.ClaimJoined
import GoSem.ClaimMapViews
import Derived.JoinedTies
import Derived.KernelRfl
namespace Go.Proofs.Ytinjjpakpngaoaa
/- THE CELL 'sum', in the pinned program and in every row, IS THE sha256 OF THE DUMP (.gsa) THAT YtinjjpakpngaoaaProg.lean LOADS. Nothing in Lean hashes anything: it is a label: what it is worth is what the hold of that sum in a sandbox is worth. -/
noncomputable def Try.pinned : Pinned := { name := "ytinjjpakpngaoaa", sum := "a5573b264b25d0836d433096422f15bbeb705f9d8f887af52bc4a383b2e8f9f5", checked := Try.checked }
namespace Rows
def none {H : Type} : Left H := { results := [], args := [] }

/-- 'laws.FnExactSerialOrder': WHATEVER THE INPUT: true; the input reads as it did. -/
def fnExactSerialOrderSpec : ChangeSpec := { name := "fnExactSerialOrder", fn := fun _ => fun
  | [d] => { results := [.lit (.bool true)], args := [d] }
  | _ => none }
def fnExactSerialOrderRow : OpenClaim := { program := "ytinjjpakpngaoaa", sum := "a5573b264b25d0836d433096422f15bbeb705f9d8f887af52bc4a383b2e8f9f5", func := "loop.example/g00305/laws.FnExactSerialOrder", spec := "fnExactSerialOrder", unfollowed := true, recurses := true, plainKeys := false, apart := false }
def FnExactSerialOrderSaid : Prop := fnExactSerialOrderRow.holds Try.pinned (OpenSpec.ofChange fnExactSerialOrderSpec)

/-- ITS FALSE NEIGHBOUR: 'it returns false'. Refute it at one input. -/
def fnExactSerialOrderWrong : ChangeSpec := { name := "fnExactSerialOrder", fn := fun _ => fun
  | [d] => { results := [.lit (.bool false)], args := [d] }
  | _ => none }
def FnExactSerialOrderWrongFalsely : Prop := fnExactSerialOrderRow.holds Try.pinned (OpenSpec.ofChange fnExactSerialOrderWrong)

/-- 'laws.FnExactHasLock': WHATEVER THE INPUT: true; the input reads as it did. -/
def fnExactHasLockSpec : ChangeSpec := { name := "fnExactHasLock", fn := fun _ => fun
  | [d1, d2, d3] => { results := [.lit (.bool true)], args := [d1, d2, d3] }
  | _ => none }
def fnExactHasLockRow : OpenClaim := { program := "ytinjjpakpngaoaa", sum := "a5573b264b25d0836d433096422f15bbeb705f9d8f887af52bc4a383b2e8f9f5", func := "loop.example/g00305/laws.FnExactHasLock", spec := "fnExactHasLock", unfollowed := true, recurses := true, plainKeys := false, apart := false }
def FnExactHasLockSaid : Prop := fnExactHasLockRow.holds Try.pinned (OpenSpec.ofChange fnExactHasLockSpec)

/-- ITS FALSE NEIGHBOUR: 'it returns false'. Refute it at one input. -/
def fnExactHasLockWrong : ChangeSpec := { name := "fnExactHasLock", fn := fun _ => fun
  | [d1, d2, d3] => { results := [.lit (.bool false)], args := [d1, d2, d3] }
  | _ => none }
def FnExactHasLockWrongFalsely : Prop := fnExactHasLockRow.holds Try.pinned (OpenSpec.ofChange fnExactHasLockWrong)

/-- 'laws.FnExactRunDone': WHATEVER THE INPUT: true; the input reads as it did. -/
def fnExactRunDoneSpec : ChangeSpec := { name := "fnExactRunDone", fn := fun _ => fun
  | [d] => { results := [.lit (.bool true)], args := [d] }
  | _ => none }
def fnExactRunDoneRow : OpenClaim := { program := "ytinjjpakpngaoaa", sum := "a5573b264b25d0836d433096422f15bbeb705f9d8f887af52bc4a383b2e8f9f5", func := "loop.example/g00305/laws.FnExactRunDone", spec := "fnExactRunDone", unfollowed := true, recurses := true, plainKeys := false, apart := false }
def FnExactRunDoneSaid : Prop := fnExactRunDoneRow.holds Try.pinned (OpenSpec.ofChange fnExactRunDoneSpec)

/-- ITS FALSE NEIGHBOUR: 'it returns false'. Refute it at one input. -/
def fnExactRunDoneWrong : ChangeSpec := { name := "fnExactRunDone", fn := fun _ => fun
  | [d] => { results := [.lit (.bool false)], args := [d] }
  | _ => none }
def FnExactRunDoneWrongFalsely : Prop := fnExactRunDoneRow.holds Try.pinned (OpenSpec.ofChange fnExactRunDoneWrong)

/-- 'laws.FnExactWaitsFor': WHATEVER THE INPUT: true; the input reads as it did. -/
def fnExactWaitsForSpec : ChangeSpec := { name := "fnExactWaitsFor", fn := fun _ => fun
  | [d] => { results := [.lit (.bool true)], args := [d] }
  | _ => none }
def fnExactWaitsForRow : OpenClaim := { program := "ytinjjpakpngaoaa", sum := "a5573b264b25d0836d433096422f15bbeb705f9d8f887af52bc4a383b2e8f9f5", func := "loop.example/g00305/laws.FnExactWaitsFor", spec := "fnExactWaitsFor", unfollowed := true, recurses := true, plainKeys := false, apart := false }
def FnExactWaitsForSaid : Prop := fnExactWaitsForRow.holds Try.pinned (OpenSpec.ofChange fnExactWaitsForSpec)

/-- ITS FALSE NEIGHBOUR: 'it returns false'. Refute it at one input. -/
def fnExactWaitsForWrong : ChangeSpec := { name := "fnExactWaitsFor", fn := fun _ => fun
  | [d] => { results := [.lit (.bool false)], args := [d] }
  | _ => none }
def FnExactWaitsForWrongFalsely : Prop := fnExactWaitsForRow.holds Try.pinned (OpenSpec.ofChange fnExactWaitsForWrong)

/-- 'laws.FnSerial': WHATEVER THE INPUT: true; the input reads as it did. -/
def fnSerialSpec : ChangeSpec := { name := "fnSerial", fn := fun _ => fun
  | [d1, d2] => { results := [.lit (.bool true)], args := [d1, d2] }
  | _ => none }
def fnSerialRow : OpenClaim := { program := "ytinjjpakpngaoaa", sum := "a5573b264b25d0836d433096422f15bbeb705f9d8f887af52bc4a383b2e8f9f5", func := "loop.example/g00305/laws.FnSerial", spec := "fnSerial", unfollowed := true, recurses := true, plainKeys := false, apart := false }
def FnSerialSaid : Prop := fnSerialRow.holds Try.pinned (OpenSpec.ofChange fnSerialSpec)

/-- ITS FALSE NEIGHBOUR: 'it returns false'. Refute it at one input. -/
def fnSerialWrong : ChangeSpec := { name := "fnSerial", fn := fun _ => fun
  | [d1, d2] => { results := [.lit (.bool false)], args := [d1, d2] }
  | _ => none }
def FnSerialWrongFalsely : Prop := fnSerialRow.holds Try.pinned (OpenSpec.ofChange fnSerialWrong)

/-- 'laws.FnSwapped': WHATEVER THE INPUT: true; the input reads as it did. -/
def fnSwappedSpec : ChangeSpec := { name := "fnSwapped", fn := fun _ => fun
  | [d1, d2] => { results := [.lit (.bool true)], args := [d1, d2] }
  | _ => none }
def fnSwappedRow : OpenClaim := { program := "ytinjjpakpngaoaa", sum := "a5573b264b25d0836d433096422f15bbeb705f9d8f887af52bc4a383b2e8f9f5", func := "loop.example/g00305/laws.FnSwapped", spec := "fnSwapped", unfollowed := true, recurses := true, plainKeys := false, apart := false }
def FnSwappedSaid : Prop := fnSwappedRow.holds Try.pinned (OpenSpec.ofChange fnSwappedSpec)

/-- ITS FALSE NEIGHBOUR: 'it returns false'. Refute it at one input. -/
def fnSwappedWrong : ChangeSpec := { name := "fnSwapped", fn := fun _ => fun
  | [d1, d2] => { results := [.lit (.bool false)], args := [d1, d2] }
  | _ => none }
def FnSwappedWrongFalsely : Prop := fnSwappedRow.holds Try.pinned (OpenSpec.ofChange fnSwappedWrong)

/-- 'laws.FnExactPlayAsks': WHATEVER THE INPUT: true; the input reads as it did. -/
def fnExactPlayAsksSpec : ChangeSpec := { name := "fnExactPlayAsks", fn := fun _ => fun
  | [d] => { results := [.lit (.bool true)], args := [d] }
  | _ => none }
def fnExactPlayAsksRow : OpenClaim := { program := "ytinjjpakpngaoaa", sum := "a5573b264b25d0836d433096422f15bbeb705f9d8f887af52bc4a383b2e8f9f5", func := "loop.example/g00305/laws.FnExactPlayAsks", spec := "fnExactPlayAsks", inPlace := ["slices.overlaps[loop.example/g00305/impl.Step]"], unfollowed := true, recurses := true, plainKeys := false, apart := false }
def FnExactPlayAsksSaid : Prop := fnExactPlayAsksRow.holds Try.pinned (OpenSpec.ofChange fnExactPlayAsksSpec)

/-- ITS FALSE NEIGHBOUR: 'it returns false'. Refute it at one input. -/
def fnExactPlayAsksWrong : ChangeSpec := { name := "fnExactPlayAsks", fn := fun _ => fun
  | [d] => { results := [.lit (.bool false)], args := [d] }
  | _ => none }
def FnExactPlayAsksWrongFalsely : Prop := fnExactPlayAsksRow.holds Try.pinned (OpenSpec.ofChange fnExactPlayAsksWrong)

/-- 'laws.FnWaits': WHATEVER THE INPUT: true; the input reads as it did. -/
def fnWaitsSpec : ChangeSpec := { name := "fnWaits", fn := fun _ => fun
  | [d1, d2] => { results := [.lit (.bool true)], args := [d1, d2] }
  | _ => none }
def fnWaitsRow : OpenClaim := { program := "ytinjjpakpngaoaa", sum := "a5573b264b25d0836d433096422f15bbeb705f9d8f887af52bc4a383b2e8f9f5", func := "loop.example/g00305/laws.FnWaits", spec := "fnWaits", inPlace := ["slices.overlaps[loop.example/g00305/impl.Step]"], unfollowed := true, recurses := true, plainKeys := false, apart := false }
def FnWaitsSaid : Prop := fnWaitsRow.holds Try.pinned (OpenSpec.ofChange fnWaitsSpec)

/-- ITS FALSE NEIGHBOUR: 'it returns false'. Refute it at one input. -/
def fnWaitsWrong : ChangeSpec := { name := "fnWaits", fn := fun _ => fun
  | [d1, d2] => { results := [.lit (.bool false)], args := [d1, d2] }
  | _ => none }
def FnWaitsWrongFalsely : Prop := fnWaitsRow.holds Try.pinned (OpenSpec.ofChange fnWaitsWrong)

/-- 'laws.FnExactTakeAsk': WHATEVER THE INPUT: true; the input reads as it did. -/
def fnExactTakeAskSpec : ChangeSpec := { name := "fnExactTakeAsk", fn := fun _ => fun
  | [d1, d2] => { results := [.lit (.bool true)], args := [d1, d2] }
  | _ => none }
def fnExactTakeAskRow : OpenClaim := { program := "ytinjjpakpngaoaa", sum := "a5573b264b25d0836d433096422f15bbeb705f9d8f887af52bc4a383b2e8f9f5", func := "loop.example/g00305/laws.FnExactTakeAsk", spec := "fnExactTakeAsk", inPlace := ["slices.overlaps[loop.example/g00305/impl.Step]"], unfollowed := true, recurses := true, plainKeys := false, apart := false }
def FnExactTakeAskSaid : Prop := fnExactTakeAskRow.holds Try.pinned (OpenSpec.ofChange fnExactTakeAskSpec)

/-- ITS FALSE NEIGHBOUR: 'it returns false'. Refute it at one input. -/
def fnExactTakeAskWrong : ChangeSpec := { name := "fnExactTakeAsk", fn := fun _ => fun
  | [d1, d2] => { results := [.lit (.bool false)], args := [d1, d2] }
  | _ => none }
def FnExactTakeAskWrongFalsely : Prop := fnExactTakeAskRow.holds Try.pinned (OpenSpec.ofChange fnExactTakeAskWrong)

/-- 'laws.FnLocked': WHATEVER THE INPUT: true; the input reads as it did. -/
def fnLockedSpec : ChangeSpec := { name := "fnLocked", fn := fun _ => fun
  | [d] => { results := [.lit (.bool true)], args := [d] }
  | _ => none }
def fnLockedRow : OpenClaim := { program := "ytinjjpakpngaoaa", sum := "a5573b264b25d0836d433096422f15bbeb705f9d8f887af52bc4a383b2e8f9f5", func := "loop.example/g00305/laws.FnLocked", spec := "fnLocked", inPlace := ["slices.overlaps[loop.example/g00305/impl.Step]"], unfollowed := true, recurses := true, plainKeys := false, apart := false }
def FnLockedSaid : Prop := fnLockedRow.holds Try.pinned (OpenSpec.ofChange fnLockedSpec)

/-- ITS FALSE NEIGHBOUR: 'it returns false'. Refute it at one input. -/
def fnLockedWrong : ChangeSpec := { name := "fnLocked", fn := fun _ => fun
  | [d] => { results := [.lit (.bool false)], args := [d] }
  | _ => none }
def FnLockedWrongFalsely : Prop := fnLockedRow.holds Try.pinned (OpenSpec.ofChange fnLockedWrong)

/- THE SECOND FORM. 'bulk': how many values and letters a reading holds, each counted each time it is reached (what is shared counts as often as it is met; a slice's spare places count too). A statement '..UptoSaid' is the law's where the arguments, and the package variables that the reading takes, are together of bulk at most 1048576: NARROWER than '..Said'. Prove '..Said' where nothing that the law and all that it calls make is longer than what came in: it says more and counts as full. Else prove '..UptoSaid'. A law counts once. -/
mutual
def uptoBulk {H : Type} : DataW H → Nat
  | .lit (.string bytes) => bytes.length + 1
  | .lit _ => 1
  | .nil => 1
  | .ptr d => uptoBulk d + 1
  | .slice elems spare => uptoBulkAll elems + uptoBulkAll spare + 1
  | .agg parts => uptoBulkAll parts + 1
  | .iface _ d => uptoBulk d + 1
  | .map entries => uptoBulkEntries entries + 1
  | .held _ => 1
def uptoBulkAll {H : Type} : List (DataW H) → Nat
  | [] => 0
  | d :: r => uptoBulk d + uptoBulkAll r
def uptoBulkEntries {H : Type} : List (Lit × DataW H) → Nat
  | [] => 0
  | x :: r => uptoBulkEntry x + uptoBulkEntries r
def uptoBulkEntry {H : Type} : Lit × DataW H → Nat
  | (.string bytes, d) => bytes.length + uptoBulk d + 1
  | (_, d) => uptoBulk d + 1
 end
def uptoSmall : (H : Type) → List (DataW H) → Bool := fun _ ds => decide (uptoBulkAll ds ≤ 1048576)
def OpenSpec.upto (s : _root_.Go.ChangeSpec) : _root_.Go.OpenSpec := { _root_.Go.OpenSpec.ofChange s with cond := some uptoSmall }

/-- 'laws.FnExactSerialOrder', WHERE WHAT IT READS IS OF BULK AT MOST 1048576: true; the input reads as it did. -/
def fnExactSerialOrderUptoRow : OpenClaim := { program := "ytinjjpakpngaoaa", sum := "a5573b264b25d0836d433096422f15bbeb705f9d8f887af52bc4a383b2e8f9f5", func := "loop.example/g00305/laws.FnExactSerialOrder", spec := "fnExactSerialOrder", unfollowed := true, recurses := true, plainKeys := false, apart := false, narrowed := true }
def FnExactSerialOrderUptoSaid : Prop := fnExactSerialOrderUptoRow.holds Try.pinned (OpenSpec.upto fnExactSerialOrderSpec)

/-- 'laws.FnExactHasLock', WHERE WHAT IT READS IS OF BULK AT MOST 1048576: true; the input reads as it did. -/
def fnExactHasLockUptoRow : OpenClaim := { program := "ytinjjpakpngaoaa", sum := "a5573b264b25d0836d433096422f15bbeb705f9d8f887af52bc4a383b2e8f9f5", func := "loop.example/g00305/laws.FnExactHasLock", spec := "fnExactHasLock", unfollowed := true, recurses := true, plainKeys := false, apart := false, narrowed := true }
def FnExactHasLockUptoSaid : Prop := fnExactHasLockUptoRow.holds Try.pinned (OpenSpec.upto fnExactHasLockSpec)

/-- 'laws.FnExactRunDone', WHERE WHAT IT READS IS OF BULK AT MOST 1048576: true; the input reads as it did. -/
def fnExactRunDoneUptoRow : OpenClaim := { program := "ytinjjpakpngaoaa", sum := "a5573b264b25d0836d433096422f15bbeb705f9d8f887af52bc4a383b2e8f9f5", func := "loop.example/g00305/laws.FnExactRunDone", spec := "fnExactRunDone", unfollowed := true, recurses := true, plainKeys := false, apart := false, narrowed := true }
def FnExactRunDoneUptoSaid : Prop := fnExactRunDoneUptoRow.holds Try.pinned (OpenSpec.upto fnExactRunDoneSpec)

/-- 'laws.FnExactWaitsFor', WHERE WHAT IT READS IS OF BULK AT MOST 1048576: true; the input reads as it did. -/
def fnExactWaitsForUptoRow : OpenClaim := { program := "ytinjjpakpngaoaa", sum := "a5573b264b25d0836d433096422f15bbeb705f9d8f887af52bc4a383b2e8f9f5", func := "loop.example/g00305/laws.FnExactWaitsFor", spec := "fnExactWaitsFor", unfollowed := true, recurses := true, plainKeys := false, apart := false, narrowed := true }
def FnExactWaitsForUptoSaid : Prop := fnExactWaitsForUptoRow.holds Try.pinned (OpenSpec.upto fnExactWaitsForSpec)

/-- 'laws.FnSerial', WHERE WHAT IT READS IS OF BULK AT MOST 1048576: true; the input reads as it did. -/
def fnSerialUptoRow : OpenClaim := { program := "ytinjjpakpngaoaa", sum := "a5573b264b25d0836d433096422f15bbeb705f9d8f887af52bc4a383b2e8f9f5", func := "loop.example/g00305/laws.FnSerial", spec := "fnSerial", unfollowed := true, recurses := true, plainKeys := false, apart := false, narrowed := true }
def FnSerialUptoSaid : Prop := fnSerialUptoRow.holds Try.pinned (OpenSpec.upto fnSerialSpec)

/-- 'laws.FnSwapped', WHERE WHAT IT READS IS OF BULK AT MOST 1048576: true; the input reads as it did. -/
def fnSwappedUptoRow : OpenClaim := { program := "ytinjjpakpngaoaa", sum := "a5573b264b25d0836d433096422f15bbeb705f9d8f887af52bc4a383b2e8f9f5", func := "loop.example/g00305/laws.FnSwapped", spec := "fnSwapped", unfollowed := true, recurses := true, plainKeys := false, apart := false, narrowed := true }
def FnSwappedUptoSaid : Prop := fnSwappedUptoRow.holds Try.pinned (OpenSpec.upto fnSwappedSpec)

/-- 'laws.FnExactPlayAsks', WHERE WHAT IT READS IS OF BULK AT MOST 1048576: true; the input reads as it did. -/
def fnExactPlayAsksUptoRow : OpenClaim := { program := "ytinjjpakpngaoaa", sum := "a5573b264b25d0836d433096422f15bbeb705f9d8f887af52bc4a383b2e8f9f5", func := "loop.example/g00305/laws.FnExactPlayAsks", spec := "fnExactPlayAsks", inPlace := ["slices.overlaps[loop.example/g00305/impl.Step]"], unfollowed := true, recurses := true, plainKeys := false, apart := false, narrowed := true }
def FnExactPlayAsksUptoSaid : Prop := fnExactPlayAsksUptoRow.holds Try.pinned (OpenSpec.upto fnExactPlayAsksSpec)

/-- 'laws.FnWaits', WHERE WHAT IT READS IS OF BULK AT MOST 1048576: true; the input reads as it did. -/
def fnWaitsUptoRow : OpenClaim := { program := "ytinjjpakpngaoaa", sum := "a5573b264b25d0836d433096422f15bbeb705f9d8f887af52bc4a383b2e8f9f5", func := "loop.example/g00305/laws.FnWaits", spec := "fnWaits", inPlace := ["slices.overlaps[loop.example/g00305/impl.Step]"], unfollowed := true, recurses := true, plainKeys := false, apart := false, narrowed := true }
def FnWaitsUptoSaid : Prop := fnWaitsUptoRow.holds Try.pinned (OpenSpec.upto fnWaitsSpec)

/-- 'laws.FnExactTakeAsk', WHERE WHAT IT READS IS OF BULK AT MOST 1048576: true; the input reads as it did. -/
def fnExactTakeAskUptoRow : OpenClaim := { program := "ytinjjpakpngaoaa", sum := "a5573b264b25d0836d433096422f15bbeb705f9d8f887af52bc4a383b2e8f9f5", func := "loop.example/g00305/laws.FnExactTakeAsk", spec := "fnExactTakeAsk", inPlace := ["slices.overlaps[loop.example/g00305/impl.Step]"], unfollowed := true, recurses := true, plainKeys := false, apart := false, narrowed := true }
def FnExactTakeAskUptoSaid : Prop := fnExactTakeAskUptoRow.holds Try.pinned (OpenSpec.upto fnExactTakeAskSpec)

/-- 'laws.FnLocked', WHERE WHAT IT READS IS OF BULK AT MOST 1048576: true; the input reads as it did. -/
def fnLockedUptoRow : OpenClaim := { program := "ytinjjpakpngaoaa", sum := "a5573b264b25d0836d433096422f15bbeb705f9d8f887af52bc4a383b2e8f9f5", func := "loop.example/g00305/laws.FnLocked", spec := "fnLocked", inPlace := ["slices.overlaps[loop.example/g00305/impl.Step]"], unfollowed := true, recurses := true, plainKeys := false, apart := false, narrowed := true }
def FnLockedUptoSaid : Prop := fnLockedUptoRow.holds Try.pinned (OpenSpec.upto fnLockedSpec)

end Rows
end Go.Proofs.Ytinjjpakpngaoaa
