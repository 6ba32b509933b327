-- WRITTEN by this session's wip/ext.py: the one pure statement of the law.
import Derived.Test.YtieghkchhjailaaVx9
import Derived.Test.YtieghkchhjailaaVOpens
namespace Go.Proofs.Ytieghkchhjailaa.V
open Go.RowKit Go.Proofs.YtieghkchhjailaaW.PrintWords
def laws_FnExactFlakyIds.Pure : Prop := ∀ (l0 : List (S57)), l0.length ≤ maxLen → (∀ y ∈ l0, ok57 y) → ∃ k, laws_FnExactFlakyIds.f k l0 = some true
end Go.Proofs.Ytieghkchhjailaa.V
