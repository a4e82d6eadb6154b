-- words that the kit's print lays beside a proof: only what this claim uses
import Derived.Test.YtboligpcbndkjaaWApart
import Derived.Test.YtboligpcbndkjaaWArr
namespace Go.Proofs.YtboligpcbndkjaaW.PrintWords
open Go.RowKit
namespace Kd
end Kd
end Go.Proofs.YtboligpcbndkjaaW.PrintWords
