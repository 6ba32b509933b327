/- The law FnExactTotalCost answers true for all arguments: TotalCost of the program is that of the reference, and the arguments stay. Its one condition: the arguments are data that fit into memory. -/
import Derived.Test.YtphjcoondlhefaaQx32
import Derived.Test.YtphjcoondlhefaaLFnExactTotalCost
import Derived.Test.YtphjcoondlhefaaPuFnExactTotalCost
namespace Go.Proofs.Ytphjcoondlhefaa.Pure
open Go.RowKit Go.Proofs.Ytphjcoondlhefaa.Q Go.Proofs.YtphjcoondlhefaaW.PrintWords Go.Proofs.YtphjcoondlhefaaW.PrintLast

theorem FnExactTotalCost : laws_FnExactTotalCost.Pure := by
  intro ids l0 i1 i2 h1 h2
  refine Ev.rounds ?_
  unfold laws_FnExactTotalCost.f
  obtain ⟨r, hr, hr2, hf⟩ := szStringS_ev ids i1 i2 1048576 (by omega) (by omega)
  refine Ev.bind hr ?_
  by_cases c : r < 0
  · exact Ev.iteT c (Ev.some_ rfl)
  · refine Ev.iteF c ?_
    have few := hf (by omega)
    obtain ⟨r2, hr2, _, hf2⟩ := szPastS_ev l0 h1 (fun q hq => (h2 q hq).1) r (by omega) hr2
    refine Ev.bind hr2 ?_
    by_cases c2 : r2 < 0
    · exact Ev.iteT c2 (Ev.some_ rfl)
    · refine Ev.iteF c2 ?_
      have hfew := hf2 (by omega)
      have ht := toPastS_ev l0 hfew.len
      have hts := toStringS_ev ids few.len
      obtain ⟨s1, s2⟩ := hfew.small
      have hlen := few.len
      have hs : PastSizes (l0.map toP) := fun q hq => by have := s2 q hq; omega
      have e1 := eqStringS_ev ids (by omega)
      exact Ev.bind hts (Ev.bind ht (Ev.bind (specTotal_ev _ _ (by omega) few.sizes (by omega) hs) (Ev.bind hts (Ev.bind ht (Ev.bind (implTotal_ev _ _ (by omega) few.sizes (by omega) hs) (Ev.iteT rfl (Ev.bind hts (Ev.bind e1 (Ev.iteT rfl (Ev.bind ht (Ev.bind (eqPastS_ev _ s1) (Ev.iteT rfl (Ev.some_ rfl)))))))))))))

end Go.Proofs.Ytphjcoondlhefaa.Pure
