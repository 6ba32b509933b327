/- The law FnExactValidCauses answers true for all arguments: ValidCauses of the program is that of the reference, and the arguments stay. Its one condition: the arguments are data that fit into memory. -/
import Derived.Test.YtlnaejkbanpcjaaCx8
import Derived.Test.YtlnaejkbanpcjaaLFnExactValidCauses
import Derived.Test.YtlnaejkbanpcjaaPuFnExactValidCauses
namespace Go.Proofs.Ytlnaejkbanpcjaa.Pure
open Go.RowKit Go.Proofs.Ytlnaejkbanpcjaa.C Go.Proofs.YtlnaejkbanpcjaaW.PrintWords Go.Proofs.YtlnaejkbanpcjaaW.PrintLast

theorem FnExactValidCauses : laws_FnExactValidCauses.Pure := by
  intro l0 h1 h2
  refine Ev.rounds ?_
  unfold laws_FnExactValidCauses.f
  obtain ⟨r, hr, hr2, hf⟩ := szStringSS_ev l0 h1 h2 1048576 (by omega) (by omega)
  refine Ev.bind hr ?_
  by_cases c : r < 0
  · exact Ev.iteT c (Ev.some_ rfl)
  · refine Ev.iteF c ?_
    have few := hf (by omega)
    have hts := toStringSS_ev l0 few
    have hlen := few.len
    have e1 := eqStringSS_ev l0 few
    exact Ev.bind hts (Ev.bind (SpecCauses_ev l0 few.sizes) (Ev.bind hts (Ev.bind (implCauses_ev l0 few.sizes) (Ev.iteF (by simp) (Ev.bind hts (Ev.bind e1 (Ev.iteT rfl (Ev.some_ rfl))))))))

end Go.Proofs.Ytlnaejkbanpcjaa.Pure
