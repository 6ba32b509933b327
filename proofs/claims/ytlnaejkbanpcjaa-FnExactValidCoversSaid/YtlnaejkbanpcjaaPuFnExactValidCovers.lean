-- WRITTEN by this session's wip/ext.py: the one pure statement of the law.
import Derived.Test.YtlnaejkbanpcjaaCx17
import Derived.Test.YtlnaejkbanpcjaaCOpens
namespace Go.Proofs.Ytlnaejkbanpcjaa.C
open Go.RowKit Go.Proofs.YtlnaejkbanpcjaaW.PrintWords
def laws_FnExactValidCovers.Pure : Prop := ∀ (l0 : List (S55)), l0.length ≤ maxLen → (∀ y ∈ l0, ok55 y) → ∃ k, laws_FnExactValidCovers.f k l0 = some true
end Go.Proofs.Ytlnaejkbanpcjaa.C
