-- WRITTEN by this session's wip/ext.py: the one pure statement of the law.
import Derived.Test.YtphjcoondlhefaaQx22
import Derived.Test.YtphjcoondlhefaaQOpens
namespace Go.Proofs.Ytphjcoondlhefaa.Q
open Go.RowKit Go.Proofs.YtphjcoondlhefaaW.PrintWords
def laws_FnExactCostOf.Pure : Prop := ∀ (l0 : List (S66)) (a1 : ByteArray), l0.length ≤ maxLen → (∀ y ∈ l0, ok66 y) → a1.size ≤ maxLen → ∃ k, laws_FnExactCostOf.f k l0 a1 = some true
end Go.Proofs.Ytphjcoondlhefaa.Q
