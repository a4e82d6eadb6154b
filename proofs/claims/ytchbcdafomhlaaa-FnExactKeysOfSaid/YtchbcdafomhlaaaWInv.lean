-- words that the kit's print lays beside a proof: only what this claim uses
import Derived.Test.YtchbcdafomhlaaaWTab
namespace Go.Proofs.YtchbcdafomhlaaaW.PrintLast
def up (b : Nat → Bool) (i : Nat) : Nat → Bool := fun j => if j = i then true else b j
end Go.Proofs.YtchbcdafomhlaaaW.PrintLast
