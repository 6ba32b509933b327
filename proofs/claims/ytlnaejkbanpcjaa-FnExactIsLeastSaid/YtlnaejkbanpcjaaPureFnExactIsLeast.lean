/- The law FnExactIsLeast answers true for all arguments: IsLeast of the program is that of the reference, and the arguments stay. Its one condition: the arguments are data that fit into memory. -/
import Derived.Test.YtlnaejkbanpcjaaLx7
import Derived.Test.YtlnaejkbanpcjaaLFnExactIsLeast
import Derived.Test.YtlnaejkbanpcjaaPuFnExactIsLeast
namespace Go.Proofs.Ytlnaejkbanpcjaa.Pure
open Go.RowKit Go.Proofs.Ytlnaejkbanpcjaa.L Go.Proofs.YtlnaejkbanpcjaaW.PrintWords Go.Proofs.YtlnaejkbanpcjaaW.PrintLast

theorem FnExactIsLeast : laws_FnExactIsLeast.Pure := by
  intro l0 l1 h1 h2 g1 g2
  refine Ev.rounds ?_
  unfold laws_FnExactIsLeast.f
  obtain ⟨r, hr, hr2, hf⟩ := szStringSS_ev l0 h1 h2 1048576 (by omega) (by omega)
  refine Ev.bind hr ?_
  by_cases c : r < 0
  · exact Ev.iteT c (Ev.some_ rfl)
  · refine Ev.iteF c ?_
    have few := hf (by omega)
    obtain ⟨r2, hr3, _, hf2⟩ := szStringS_ev l1 g1 g2 r (by omega) hr2
    refine Ev.bind hr3 ?_
    by_cases c2 : r2 < 0
    · exact Ev.iteT c2 (Ev.some_ rfl)
    · refine Ev.iteF c2 ?_
      have few2 := hf2 (by omega)
      have hlen := few2.len
      have hts := toStringSS_ev l0 few
      have ht := toStringS_ev l1 few2.len
      have hs := specLeast_ev l0 l1 few.sizes (fun c hc => by have := (few.few c hc).len; omega) (by omega) few2.sizes
      have hi := implLeast_ev l0 l1 few.sizes (by omega) few2.sizes
      exact Ev.bind hts (Ev.bind ht (Ev.bind hs (Ev.bind hts (Ev.bind ht (Ev.bind hi (Ev.iteF (by simp) (Ev.bind hts (Ev.bind (eqStringSS_ev l0 few) (Ev.iteT rfl (Ev.bind ht (Ev.bind (eqStringS_ev l1 (by omega)) (Ev.iteT rfl (Ev.some_ rfl)))))))))))))

end Go.Proofs.Ytlnaejkbanpcjaa.Pure
