-- words that the kit's print lays beside a proof: only what this claim uses
import Derived.Test.YtecebaeifmddnaaWApart
import Derived.Test.YtecebaeifmddnaaWArr
namespace Go.Proofs.YtecebaeifmddnaaW.PrintWords
open Go.RowKit
namespace Kd
end Kd
end Go.Proofs.YtecebaeifmddnaaW.PrintWords
