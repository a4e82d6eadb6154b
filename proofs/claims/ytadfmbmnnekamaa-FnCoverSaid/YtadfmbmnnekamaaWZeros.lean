-- words that the kit's print lays beside a proof: only what this claim uses
import Derived.Test.YtadfmbmnnekamaaWApart
import Derived.Test.YtadfmbmnnekamaaWArr
namespace Go.Proofs.YtadfmbmnnekamaaW.PrintWords
open Go.RowKit
namespace Kd
end Kd
end Go.Proofs.YtadfmbmnnekamaaW.PrintWords
