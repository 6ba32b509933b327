/- The law FnExactValidPast answers true for every list of what is known: ValidPast of the program is that of the reference, and its argument stays. Its one condition: the argument is data that fits into memory. -/
import Derived.Test.YtphjcoondlhefaaQx10
import Derived.Test.YtphjcoondlhefaaLibA
import Derived.Test.YtphjcoondlhefaaLibP
import Derived.Test.YtphjcoondlhefaaLibPX
import Derived.Test.YtphjcoondlhefaaPuFnExactValidPast
namespace Go.Proofs.Ytphjcoondlhefaa.Pure
open Go.RowKit Go.Proofs.Ytphjcoondlhefaa.Q Go.Proofs.YtphjcoondlhefaaW.PrintWords Go.Proofs.YtphjcoondlhefaaW.PrintLast

theorem FnExactValidPast : laws_FnExactValidPast.Pure := by
  intro l0 h1 h2
  refine Ev.rounds ?_
  unfold laws_FnExactValidPast.f
  obtain ⟨r, hr, _, hf⟩ := szPastS_ev l0 h1 (fun q hq => (h2 q hq).1) 1048576 (by omega) (by omega)
  refine Ev.bind hr ?_
  by_cases c : r < 0
  · exact Ev.iteT c (Ev.some_ rfl)
  · refine Ev.iteF c ?_
    have hfew := hf (by omega)
    have ht := toPastS_ev l0 hfew.len
    obtain ⟨s1, s2⟩ := hfew.small
    have hs : PastSizes (l0.map toP) := fun q hq => by have := s2 q hq; omega
    exact Ev.bind ht (Ev.bind (ValidPastS_ev _ (by omega) hs) (Ev.bind ht (Ev.bind (validPastI_ev _ (by omega) hs) (Ev.iteF (by simp) (Ev.bind ht (Ev.bind (eqPastS_ev _ s1) (Ev.iteT rfl (Ev.some_ rfl))))))))

end Go.Proofs.Ytphjcoondlhefaa.Pure
