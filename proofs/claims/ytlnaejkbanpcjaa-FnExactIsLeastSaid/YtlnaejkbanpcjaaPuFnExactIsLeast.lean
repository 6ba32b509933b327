-- WRITTEN by this session's wip/ext.py: the one pure statement of the law.
import Derived.Test.YtlnaejkbanpcjaaLx7
import Derived.Test.YtlnaejkbanpcjaaLOpens
namespace Go.Proofs.Ytlnaejkbanpcjaa.L
open Go.RowKit Go.Proofs.YtlnaejkbanpcjaaW.PrintWords
def laws_FnExactIsLeast.Pure : Prop := ∀ (l0 : List (List ByteArray)) (l1 : List ByteArray), l0.length ≤ maxLen → (∀ y ∈ l0, (y.length ≤ maxLen ∧ ∀ y_ ∈ y, y_.size ≤ maxLen)) → l1.length ≤ maxLen → (∀ y ∈ l1, y.size ≤ maxLen) → ∃ k, laws_FnExactIsLeast.f k l0 l1 = some true
end Go.Proofs.Ytlnaejkbanpcjaa.L
