-- words that the kit's print lays beside a proof: only what this claim uses
import Derived.Test.YtadfmbmnnekamaaWTab
namespace Go.Proofs.YtadfmbmnnekamaaW.PrintLast
end Go.Proofs.YtadfmbmnnekamaaW.PrintLast
