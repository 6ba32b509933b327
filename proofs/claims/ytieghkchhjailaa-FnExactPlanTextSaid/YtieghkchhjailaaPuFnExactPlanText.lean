-- WRITTEN by this session's wip/ext.py: the one pure statement of the law.
import Derived.Test.YtieghkchhjailaaPx3
import Derived.Test.YtieghkchhjailaaPOpens
namespace Go.Proofs.Ytieghkchhjailaa.P
open Go.RowKit Go.Proofs.YtieghkchhjailaaW.PrintWords
def laws_FnExactPlanText.Pure : Prop := ∀ (l0 : List (S73)), l0.length ≤ maxLen → (∀ y ∈ l0, ok73 y) → ∃ k, laws_FnExactPlanText.f k l0 = some true
end Go.Proofs.Ytieghkchhjailaa.P
