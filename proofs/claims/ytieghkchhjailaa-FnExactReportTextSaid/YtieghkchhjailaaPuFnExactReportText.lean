-- WRITTEN by this session's wip/ext.py: the one pure statement of the law.
import Derived.Test.YtieghkchhjailaaPx14
import Derived.Test.YtieghkchhjailaaPOpens
namespace Go.Proofs.Ytieghkchhjailaa.P
open Go.RowKit Go.Proofs.YtieghkchhjailaaW.PrintWords
def laws_FnExactReportText.Pure : Prop := ∀ (x0 : S57), ok57 x0 → ∃ k, laws_FnExactReportText.f k (x0.f0) (x0.f1) = some true
end Go.Proofs.Ytieghkchhjailaa.P
