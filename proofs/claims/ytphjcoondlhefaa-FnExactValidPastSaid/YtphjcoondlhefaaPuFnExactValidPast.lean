-- WRITTEN by this session's wip/ext.py: the one pure statement of the law.
import Derived.Test.YtphjcoondlhefaaQx10
import Derived.Test.YtphjcoondlhefaaQOpens
namespace Go.Proofs.Ytphjcoondlhefaa.Q
open Go.RowKit Go.Proofs.YtphjcoondlhefaaW.PrintWords
def laws_FnExactValidPast.Pure : Prop := ∀ (l0 : List (S66)), l0.length ≤ maxLen → (∀ y ∈ l0, ok66 y) → ∃ k, laws_FnExactValidPast.f k l0 = some true
end Go.Proofs.Ytphjcoondlhefaa.Q
