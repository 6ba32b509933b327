/- The law FnExactReportText answers true for every report: ReportText of the program is that of the reference, and its argument stays. Its one condition: the argument is data that fits into memory. -/
import Derived.Test.YtieghkchhjailaaPx13
import Derived.Test.YtieghkchhjailaaPx14
import Derived.Test.YtieghkchhjailaaPx15
import Derived.Test.YtieghkchhjailaaLFnExactReportText
import Derived.Test.YtieghkchhjailaaPuFnExactReportText
namespace Go.Proofs.Ytieghkchhjailaa.Pure
open Go.RowKit Go.Proofs.Ytieghkchhjailaa.P Go.Proofs.YtieghkchhjailaaW.PrintWords Go.Proofs.YtieghkchhjailaaW.PrintLast

theorem FnExactReportText : laws_FnExactReportText.Pure := by
  intro x h
  refine Ev.rounds ?_
  unfold laws_FnExactReportText.f laws_szReport.f laws_toReport.f laws_eqReport.f
  obtain ⟨r, hr, hr2, hf⟩ := szResultS_ev x.f0 h.1.1 (fun q hq => ⟨(h.1.2 q hq).1⟩) 1048576 (by omega) (by omega)
  by_cases c : r < 0
  · exact Ev.bind (Ev.bind hr (Ev.iteT c (Ev.some_ rfl))) (Ev.iteT (by decide) (Ev.some_ rfl))
  · have hfew := hf (by omega)
    obtain ⟨r2, hr3, hr4, hf2⟩ := szStringS_ev x.f1 h.2.1 h.2.2 r (by omega) hr2
    by_cases c2 : r2 < 0
    · exact Ev.bind (Ev.bind hr (Ev.iteF c (Ev.bind hr3 (Ev.iteT c2 (Ev.some_ rfl))))) (Ev.iteT (by decide) (Ev.some_ rfl))
    · have hfew2 := hf2 (by omega)
      refine Ev.bind (Ev.bind hr (Ev.iteF c (Ev.bind hr3 (Ev.iteF c2 (Ev.some_ rfl))))) (Ev.iteF c2 ?_)
      have ht := toResultS_ev x.f0 hfew
      have hd := toStringS_ev x.f1 hfew2.len
      obtain ⟨s1, s2⟩ := hfew.small
      have hs : RepSizes (x.f0.map to_Result) x.f1 := ⟨s1, fun e he => by obtain ⟨p, hp, rfl⟩ := List.mem_map.1 he; have := (hfew.one p hp).r0; show p.f0.size ≤ 4194304; omega, hfew2.len, fun e he => by have := hfew2.ids e he; omega⟩
      have hto : Ev (fun k => (laws_toResultS.f k x.f0).bind fun t => (laws_toStringS.f k x.f1).bind fun t2 => some (t, t2)) (x.f0.map to_Result, x.f1) := Ev.bind ht (Ev.bind hd (Ev.some_ rfl))
      exact Ev.bind hto (Ev.bind (specRep_ev _ _ hs) (Ev.bind hto (Ev.bind (implRep_ev _ _ hs) (Ev.iteT rfl (Ev.bind hto (Ev.bind (Ev.bind (eqResultS_ev (x.f0.map to_Result) (by omega) s2) (Ev.iteT rfl (Ev.bind (eqStringS_ev x.f1 (by have := hfew2.len; omega)) (Ev.iteT rfl (Ev.some_ rfl))))) (Ev.iteT rfl (Ev.some_ rfl))))))))

end Go.Proofs.Ytieghkchhjailaa.Pure
