-- words that the kit's print lays beside a proof: only what this claim uses
import Derived.Test.YtfnaclgiggkbmaaWWords
import Derived.Laws.StructEq
namespace Go.Proofs.YtfnaclgiggkbmaaW.PrintWords
open Go.RowKit
end Go.Proofs.YtfnaclgiggkbmaaW.PrintWords
