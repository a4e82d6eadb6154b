-- words that the kit's print lays beside a proof: only what this claim uses
import Derived.Test.YtfnaclgiggkbmaaWWords
import Derived.Test.YtfnaclgiggkbmaaWLast
namespace Go.Proofs.YtfnaclgiggkbmaaW.PrintWords
open Go.RowKit
namespace Kd
end Kd
end Go.Proofs.YtfnaclgiggkbmaaW.PrintWords
