/- The law FnExactModulesOf answers true for every list of tests: ModulesOf of the program is that of the reference, its argument stays, and its result is memory of its own. Its one condition: the argument is data that fits into memory. -/
import Derived.Test.YtadhfpbkanobnaaFx12
import Derived.Test.YtadhfpbkanobnaaLFnExactModulesOf
import Derived.Test.YtadhfpbkanobnaaPuFnExactModulesOf
namespace Go.Proofs.Ytadhfpbkanobnaa.Pure
open Go.RowKit Go.Proofs.Ytadhfpbkanobnaa.F Go.Proofs.YtadhfpbkanobnaaW.PrintWords Go.Proofs.YtadhfpbkanobnaaW.PrintLast

theorem FnExactModulesOf : laws_FnExactModulesOf.Pure := by
  intro l hlen hok
  refine Ev.rounds ?_
  have hraw : ∀ q ∈ l, RawTest q := fun q hq => ⟨(hok q hq).1, (hok q hq).2.1, (hok q hq).2.2.1, (hok q hq).2.2.2⟩
  obtain ⟨r, hr, hr2, hf⟩ := szTestS_ev l hlen hraw 1048576 (by omega) (by omega)
  unfold laws_FnExactModulesOf.f
  by_cases c : r < 0
  · exact Ev.bind hr (Ev.iteT c (Ev.some_ rfl))
  · have hfew := hf (by omega)
    obtain ⟨s1, s2⟩ := hfew.small
    have ht := toTestS_ev l hfew
    have hs : TSzS (l.map to_Test) := ⟨s1, fun e he => by obtain ⟨p, hp, rfl⟩ := List.mem_map.1 he; have := hfew.one p hp; exact ⟨this.r0, this.r1, ⟨this.r2.len, this.r2.sizes⟩, ⟨this.r3.len, this.r3.sizes⟩⟩⟩
    have him := implModules_ev _ hs
    have hsp := specModules_ev _ hs
    have hb := modsV_length (l.map to_Test)
    have heq := eqStringS_ev (modsV (l.map to_Test)) (by omega)
    obtain ⟨v, hv, hv2⟩ := markTestS_ev (l.map to_Test) (by omega) s2
    obtain ⟨m, hm, hm2, hm3⟩ := markStringS_ev (modsV (l.map to_Test)) 1 (by omega) (by omega)
    have hh := heldStringS_ev m 1 (by omega) (by omega) hm3
    rw [hm2] at hh
    refine Ev.bind hr (Ev.iteF c (Ev.bind ht (Ev.bind hsp (Ev.bind ht (Ev.bind him (Ev.bind heq (Ev.iteT rfl (Ev.bind ht (Ev.bind (eqTestS_ev _ (by omega) s2) (Ev.iteT rfl (Ev.bind hv (Ev.iteF (by omega) (Ev.bind heq ?_)))))))))))))
    refine Ev.step (fun k => by rw [laws_FnExactModulesOf.j0]) ?_
    exact (Ev.iteF (by simp) (Ev.bind hm (Ev.bind hh (Ev.iteF (by omega) (Ev.iteT rfl (Ev.bind ht (Ev.bind him (Ev.bind heq (Ev.iteT rfl (Ev.bind hh (Ev.iteF (by omega) (Ev.iteT rfl (Ev.some_ rfl)))))))))))))

end Go.Proofs.Ytadhfpbkanobnaa.Pure
