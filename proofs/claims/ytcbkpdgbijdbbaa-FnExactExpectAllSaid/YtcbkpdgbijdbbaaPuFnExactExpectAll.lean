-- WRITTEN by this session's wip/ext.py: the one pure statement of the law.
import Derived.Test.YtcbkpdgbijdbbaaRx11
import Derived.Test.YtcbkpdgbijdbbaaROpens
namespace Go.Proofs.Ytcbkpdgbijdbbaa.R
open Go.RowKit Go.Proofs.YtcbkpdgbijdbbaaW.PrintWords
def laws_FnExactExpectAll.Pure : Prop := ∀ (l0 : List (S90)), l0.length ≤ maxLen → (∀ y ∈ l0, ok90 y) → ∃ k, laws_FnExactExpectAll.f k l0 = some true
end Go.Proofs.Ytcbkpdgbijdbbaa.R
