-- words that the kit's print lays beside a proof: only what this claim uses
import Derived.Test.YtboligpcbndkjaaWTab
namespace Go.Proofs.YtboligpcbndkjaaW.PrintLast
end Go.Proofs.YtboligpcbndkjaaW.PrintLast
