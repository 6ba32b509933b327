-- WRITTEN by this session's wip/ext.py: the one pure statement of the law.
import Derived.Test.YtdllommmccgleaaEx21
import Derived.Test.YtdllommmccgleaaEOpens
namespace Go.Proofs.Ytdllommmccgleaa.E
open Go.RowKit Go.Proofs.YtdllommmccgleaaW.PrintWords
def laws_FnExactMatches.Pure : Prop := ∀ (a0 : ByteArray) (x1 : S25), a0.size ≤ maxLen → ok25 x1 → ∃ k, laws_FnExactMatches.f k a0 (x1.f0) (x1.f1) (x1.f2) (x1.f3) = some true
end Go.Proofs.Ytdllommmccgleaa.E
