-- words that the kit's print lays beside a proof: only what this claim uses
import Derived.Test.YtboligpcbndkjaaWTab
namespace Go.Proofs.YtboligpcbndkjaaW.PrintLast
def up (b : Nat → Bool) (i : Nat) : Nat → Bool := fun j => if j = i then true else b j
end Go.Proofs.YtboligpcbndkjaaW.PrintLast
