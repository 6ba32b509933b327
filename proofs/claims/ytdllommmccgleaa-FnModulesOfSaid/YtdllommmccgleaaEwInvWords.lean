-- TRIMMED by wip/wtrim.py: the words that print.sh (35421559b90ae4d0a3588c463048766b98c2df88dd9212a6774a882060cdf62d) printed for this seat, without those that the claim does not lean on
import Derived.Test.YtdllommmccgleaaEwInv
import Derived.Test.YtdllommmccgleaaEwFootNe
namespace Go.Proofs.YtdllommmccgleaaW.PrintWords
open Go.RowKit
end Go.Proofs.YtdllommmccgleaaW.PrintWords
namespace Go.Proofs.YtdllommmccgleaaW.PrintLast
section
variable {ops : Array Oper} {a : Act} {o og : Oper} {g : Nat} {t : Tmp} {u : Bool}
end
end Go.Proofs.YtdllommmccgleaaW.PrintLast
