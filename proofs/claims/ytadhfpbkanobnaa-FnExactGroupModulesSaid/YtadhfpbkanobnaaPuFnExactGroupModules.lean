-- WRITTEN by this session's wip/ext.py: the one pure statement of the law.
import Derived.Test.YtadhfpbkanobnaaUx12
import Derived.Test.YtadhfpbkanobnaaUOpens
namespace Go.Proofs.Ytadhfpbkanobnaa.U
open Go.RowKit Go.Proofs.YtadhfpbkanobnaaW.PrintWords
def laws_FnExactGroupModules.Pure : Prop := ∀ (l0 : List (S52)), l0.length ≤ maxLen → (∀ y ∈ l0, ok52 y) → ∃ k, laws_FnExactGroupModules.f k l0 = some true
end Go.Proofs.Ytadhfpbkanobnaa.U
