-- words that the kit's print lays beside a proof: only what this claim uses
import Derived.Test.YtchbcdafomhlaaaWWords
import Derived.Test.YtchbcdafomhlaaaWLast
namespace Go.Proofs.YtchbcdafomhlaaaW.PrintWords
open Go.RowKit
namespace Kd
end Kd
end Go.Proofs.YtchbcdafomhlaaaW.PrintWords
