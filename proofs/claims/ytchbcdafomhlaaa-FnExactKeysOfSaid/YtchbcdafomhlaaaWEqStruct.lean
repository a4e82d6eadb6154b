-- words that the kit's print lays beside a proof: only what this claim uses
import Derived.Test.YtchbcdafomhlaaaWWords
import Derived.Laws.StructEq
namespace Go.Proofs.YtchbcdafomhlaaaW.PrintWords
open Go.RowKit
end Go.Proofs.YtchbcdafomhlaaaW.PrintWords
