-- words that the kit's print lays beside a proof: only what this claim uses
import Derived.Test.YtfnaclgiggkbmaaWTab
namespace Go.Proofs.YtfnaclgiggkbmaaW.PrintLast
end Go.Proofs.YtfnaclgiggkbmaaW.PrintLast
