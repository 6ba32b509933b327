-- WRITTEN by this session's wip/ext.py: how the laws' arguments are told.
import Derived.Test.YtlnaejkbanpcjaaLx0
import Derived.Test.YtlnaejkbanpcjaaLibO
namespace Go.Proofs.Ytlnaejkbanpcjaa.L
open Go.RowKit Go.Proofs.YtlnaejkbanpcjaaW.PrintWords Go.Proofs.YtlnaejkbanpcjaaW.Opens
set_option linter.unusedVariables false
end Go.Proofs.Ytlnaejkbanpcjaa.L
