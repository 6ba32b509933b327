/- The law FnExactCostOf answers true for all arguments: CostOf of the program is that of the reference, and the arguments stay. Its one condition: the arguments are data that fit into memory. -/
import Derived.Test.YtphjcoondlhefaaQx22
import Derived.Test.YtphjcoondlhefaaLFnExactCostOf
import Derived.Test.YtphjcoondlhefaaPuFnExactCostOf
namespace Go.Proofs.Ytphjcoondlhefaa.Pure
open Go.RowKit Go.Proofs.Ytphjcoondlhefaa.Q Go.Proofs.YtphjcoondlhefaaW.PrintWords Go.Proofs.YtphjcoondlhefaaW.PrintLast

theorem FnExactCostOf : laws_FnExactCostOf.Pure := by
  intro l0 x h1 h2 h3
  refine Ev.rounds ?_
  unfold laws_FnExactCostOf.f
  by_cases c1 : (x.size : Int) > 1048576
  · exact Ev.iteT c1 (Ev.some_ rfl)
  · refine Ev.iteF c1 ?_
    obtain ⟨r, hr, _, hf⟩ := szPastS_ev l0 h1 (fun q hq => (h2 q hq).1) 1048576 (by omega) (by omega)
    refine Ev.bind hr ?_
    by_cases c : r < 0
    · exact Ev.iteT c (Ev.some_ rfl)
    · refine Ev.iteF c ?_
      have hfew := hf (by omega)
      have ht := toPastS_ev l0 hfew.len
      obtain ⟨s1, s2⟩ := hfew.small
      have hs : PastSizes (l0.map toP) := fun q hq => by have := s2 q hq; omega
      exact Ev.bind ht (Ev.bind (specCost_ev _ (by omega) hs x) (Ev.bind ht (Ev.bind (implCost_ev _ (by omega) hs x) (Ev.iteT rfl (Ev.bind ht (Ev.bind (eqPastS_ev _ s1) (Ev.iteT rfl (Ev.some_ rfl))))))))

end Go.Proofs.Ytphjcoondlhefaa.Pure
