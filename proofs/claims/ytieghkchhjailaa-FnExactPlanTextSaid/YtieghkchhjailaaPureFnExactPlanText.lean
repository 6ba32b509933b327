/- The law FnExactPlanText answers true for every list of events: PlanText of the program is that of the reference, and its argument stays. Its one condition: the argument is data that fits into memory. -/
import Derived.Test.YtieghkchhjailaaPx3
import Derived.Test.YtieghkchhjailaaLFnExactPlanText
import Derived.Test.YtieghkchhjailaaPuFnExactPlanText
namespace Go.Proofs.Ytieghkchhjailaa.Pure
open Go.RowKit Go.Proofs.Ytieghkchhjailaa.P Go.Proofs.YtieghkchhjailaaW.PrintWords Go.Proofs.YtieghkchhjailaaW.PrintLast

theorem FnExactPlanText : laws_FnExactPlanText.Pure := by
  intro l0 h1 h2
  refine Ev.rounds ?_
  unfold laws_FnExactPlanText.f
  obtain ⟨r, hr, _, hf⟩ := szEventS_ev l0 h1 (fun q hq => ⟨(h2 q hq).2⟩) 1048576 (by omega) (by omega)
  refine Ev.bind hr ?_
  by_cases c : r < 0
  · exact Ev.iteT c (Ev.some_ rfl)
  · refine Ev.iteF c ?_
    have hfew := hf (by omega)
    have ht := toEventS_ev l0 hfew
    obtain ⟨s1, s2⟩ := hfew.small
    have hs : EvSizes (l0.map to_Event) := ⟨s1, fun e he => by obtain ⟨p, hp, rfl⟩ := List.mem_map.1 he; have := (hfew.one p hp).r1; show p.f1.size ≤ 4194304; omega⟩
    exact Ev.bind ht (Ev.bind (specPlan_ev _ hs) (Ev.bind ht (Ev.bind (implPlan_ev _ hs) (Ev.iteT rfl (Ev.bind ht (Ev.bind (eqEventS_ev _ s1 s2) (Ev.iteT rfl (Ev.some_ rfl))))))))

end Go.Proofs.Ytieghkchhjailaa.Pure
