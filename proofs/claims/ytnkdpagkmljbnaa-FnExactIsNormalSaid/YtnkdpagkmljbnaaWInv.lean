-- words that the kit's print lays beside a proof: only what this claim uses
import Derived.Test.YtnkdpagkmljbnaaWTab
namespace Go.Proofs.YtnkdpagkmljbnaaW.PrintLast
end Go.Proofs.YtnkdpagkmljbnaaW.PrintLast
