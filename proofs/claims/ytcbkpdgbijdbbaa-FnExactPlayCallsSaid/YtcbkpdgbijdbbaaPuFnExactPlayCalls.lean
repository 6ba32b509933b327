-- WRITTEN by this session's wip/ext.py: the one pure statement of the law.
import Derived.Test.YtcbkpdgbijdbbaaNx13
import Derived.Test.YtcbkpdgbijdbbaaNOpens
namespace Go.Proofs.Ytcbkpdgbijdbbaa.N
open Go.RowKit Go.Proofs.YtcbkpdgbijdbbaaW.PrintWords
def laws_FnExactPlayCalls.Pure : Prop := ∀ (x0 : S64) (l1 : List (S90)), ok64 x0 → l1.length ≤ maxLen → (∀ y ∈ l1, ok90 y) → ∃ k, laws_FnExactPlayCalls.f k (x0.f0) l1 = some true
end Go.Proofs.Ytcbkpdgbijdbbaa.N
