-- WRITTEN by this session's wip/ext.py: the one pure statement of the law.
import Derived.Test.YtphjcoondlhefaaQx18
import Derived.Test.YtphjcoondlhefaaQOpens
namespace Go.Proofs.Ytphjcoondlhefaa.Q
open Go.RowKit Go.Proofs.YtphjcoondlhefaaW.PrintWords
def laws_FnExactNewFirst.Pure : Prop := ∀ (l0 : List ByteArray) (l1 : List (S66)), l0.length ≤ maxLen → (∀ y ∈ l0, y.size ≤ maxLen) → l1.length ≤ maxLen → (∀ y ∈ l1, ok66 y) → ∃ k, laws_FnExactNewFirst.f k l0 l1 = some true
end Go.Proofs.Ytphjcoondlhefaa.Q
