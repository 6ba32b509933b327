-- WRITTEN by this session's wip/ext.py: the one pure statement of the law.
import Derived.Test.YtcbkpdgbijdbbaaJx11
import Derived.Test.YtcbkpdgbijdbbaaJOpens
namespace Go.Proofs.Ytcbkpdgbijdbbaa.J
open Go.RowKit Go.Proofs.YtcbkpdgbijdbbaaW.PrintWords
def laws_FnExactStrayCalls.Pure : Prop := ∀ (l0 : List (S90)) (l1 : List (S96)), l0.length ≤ maxLen → (∀ y ∈ l0, ok90 y) → l1.length ≤ maxLen → (∀ y ∈ l1, ok96 y) → ∃ k, laws_FnExactStrayCalls.f k l0 l1 = some true
end Go.Proofs.Ytcbkpdgbijdbbaa.J
