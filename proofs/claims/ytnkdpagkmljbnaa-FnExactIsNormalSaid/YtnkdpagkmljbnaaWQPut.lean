-- words that the kit's print lays beside a proof: only what this claim uses
import Derived.Test.YtnkdpagkmljbnaaWWords
import Derived.Test.YtnkdpagkmljbnaaWLast
namespace Go.Proofs.YtnkdpagkmljbnaaW.PrintWords
open Go.RowKit
namespace Kd
end Kd
end Go.Proofs.YtnkdpagkmljbnaaW.PrintWords
