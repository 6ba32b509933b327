-- TRIMMED by wip/wtrim.py: the words that print.sh (35421559b90ae4d0a3588c463048766b98c2df88dd9212a6774a882060cdf62d) printed for this seat, without those that the claim does not lean on
import Derived.Test.YtdllommmccgleaaEwWords
import Derived.Laws.StructEq
/-! ### 53. '==' of structs as_ one Bool -/
namespace Go.Proofs.YtdllommmccgleaaW.PrintWords
open Go.RowKit
section
variable {P : Program} {d : Nat} {xs ys : Array Value} {f : Field} {fs : List Field} {a b : Value} {r s : Bool} {w : World}
end
end Go.Proofs.YtdllommmccgleaaW.PrintWords
