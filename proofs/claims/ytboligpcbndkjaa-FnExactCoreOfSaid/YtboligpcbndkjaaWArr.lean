-- words that the kit's print lays beside a proof: only what this claim uses
import Derived.Test.YtboligpcbndkjaaWWords
namespace Go.Proofs.YtboligpcbndkjaaW.PrintWords
open Go.RowKit
namespace Kd
end Kd
end Go.Proofs.YtboligpcbndkjaaW.PrintWords
