/- Plain laws, without Go: the draw of a past. No condition. -/
import Derived.Test.YtphjcoondlhefaaQx3
import Derived.Test.YtphjcoondlhefaaLibA
import Derived.Test.YtphjcoondlhefaaLibD
import Derived.Test.YtphjcoondlhefaaLibP
import Derived.Test.YtphjcoondlhefaaLibPD
namespace Go.Proofs.Ytphjcoondlhefaa.Q
open Go.RowKit Go.Proofs.YtphjcoondlhefaaW.PrintWords Go.Proofs.YtphjcoondlhefaaW.PrintLast Go.Proofs.YtphjcoondlhefaaW.PrintMore
theorem drawValidPast_ev (c : List Int) (h : ∀ x ∈ c, 0 ≤ x ∧ x ≤ 255) : ∃ l, Ev (fun k => spec_DrawValidPast.f k c) l ∧ SmallPast l := by
  obtain ⟨b, hb, hc⟩ := newReader_ev c h
  obtain ⟨l, p', hl, hs, _, _⟩ := somePast_ev hc 0 (by omega) (by omega)
  refine ⟨l, ?_, hs⟩
  unfold spec_DrawValidPast.f
  exact Ev.bind0 hb (Ev.bind hl (Ev.some_ rfl))
end Go.Proofs.Ytphjcoondlhefaa.Q
