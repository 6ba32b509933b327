-- WRITTEN by this session's wip/ext.py: the one pure statement of the law.
import Derived.Test.YtadhfpbkanobnaaFx12
import Derived.Test.YtadhfpbkanobnaaFOpens
namespace Go.Proofs.Ytadhfpbkanobnaa.F
open Go.RowKit Go.Proofs.YtadhfpbkanobnaaW.PrintWords
def laws_FnExactModulesOf.Pure : Prop := ∀ (l0 : List (S52)), l0.length ≤ maxLen → (∀ y ∈ l0, ok52 y) → ∃ k, laws_FnExactModulesOf.f k l0 = some true
end Go.Proofs.Ytadhfpbkanobnaa.F
