/- The law FnExactValidCovers answers true for all arguments: ValidCovers of the program is that of the reference, and the arguments stay. Its one condition: the arguments are data that fit into memory. -/
import Derived.Test.YtlnaejkbanpcjaaCx17
import Derived.Test.YtlnaejkbanpcjaaLFnExactValidCovers
import Derived.Test.YtlnaejkbanpcjaaPuFnExactValidCovers
namespace Go.Proofs.Ytlnaejkbanpcjaa.Pure
open Go.RowKit Go.Proofs.Ytlnaejkbanpcjaa.C Go.Proofs.YtlnaejkbanpcjaaW.PrintWords Go.Proofs.YtlnaejkbanpcjaaW.PrintLast

theorem FnExactValidCovers : laws_FnExactValidCovers.Pure := by
  intro l0 h1 h2
  refine Ev.rounds ?_
  unfold laws_FnExactValidCovers.f
  obtain ⟨r, hr, hr2, hf⟩ := szCoverS_ev l0 h1 (fun q hq => ⟨(h2 q hq).1, (h2 q hq).2.1⟩) 1048576 (by omega) (by omega)
  refine Ev.bind hr ?_
  by_cases c : r < 0
  · exact Ev.iteT c (Ev.some_ rfl)
  · refine Ev.iteF c ?_
    have few := hf (by omega)
    have hts := toCoverS_ev l0 few
    have e1 := eqCoverS_ev (l0.map toC) few.sizes
    exact Ev.bind hts (Ev.bind (SpecCovers_ev _ few.sizes) (Ev.bind hts (Ev.bind (implCovers_ev _ few.sizes) (Ev.iteF (by simp) (Ev.bind hts (Ev.bind e1 (Ev.iteT rfl (Ev.some_ rfl))))))))

end Go.Proofs.Ytlnaejkbanpcjaa.Pure
