-- WRITTEN by this session's wip/ext.py: the one pure statement of the law.
import Derived.Test.YtlnaejkbanpcjaaDx10
import Derived.Test.YtlnaejkbanpcjaaDOpens
namespace Go.Proofs.Ytlnaejkbanpcjaa.D
open Go.RowKit Go.Proofs.YtlnaejkbanpcjaaW.PrintWords
def laws_FnExactFailsWith.Pure : Prop := ∀ (l0 : List (List ByteArray)) (l1 : List ByteArray), l0.length ≤ maxLen → (∀ y ∈ l0, (y.length ≤ maxLen ∧ ∀ y_ ∈ y, y_.size ≤ maxLen)) → l1.length ≤ maxLen → (∀ y ∈ l1, y.size ≤ maxLen) → ∃ k, laws_FnExactFailsWith.f k l0 l1 = some true
end Go.Proofs.Ytlnaejkbanpcjaa.D
