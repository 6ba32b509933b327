-- WRITTEN by this session's wip/ext.py: the one pure statement of the law.
import Derived.Test.YtlnaejkbanpcjaaCx8
import Derived.Test.YtlnaejkbanpcjaaCOpens
namespace Go.Proofs.Ytlnaejkbanpcjaa.C
open Go.RowKit Go.Proofs.YtlnaejkbanpcjaaW.PrintWords
def laws_FnExactValidCauses.Pure : Prop := ∀ (l0 : List (List ByteArray)), l0.length ≤ maxLen → (∀ y ∈ l0, (y.length ≤ maxLen ∧ ∀ y_ ∈ y, y_.size ≤ maxLen)) → ∃ k, laws_FnExactValidCauses.f k l0 = some true
end Go.Proofs.Ytlnaejkbanpcjaa.C
