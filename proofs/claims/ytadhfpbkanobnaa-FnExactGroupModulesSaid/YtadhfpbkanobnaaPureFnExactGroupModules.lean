/- The law FnExactGroupModules answers true for every list of tests: GroupModules of the program is that of the reference, its argument stays, and its result is memory of its own. Its one condition: the argument is data that fits into memory. -/
import Derived.Test.YtadhfpbkanobnaaUx12
import Derived.Test.YtadhfpbkanobnaaLFnExactGroupModules
import Derived.Test.YtadhfpbkanobnaaPuFnExactGroupModules
namespace Go.Proofs.Ytadhfpbkanobnaa.Pure
open Go.RowKit Go.Proofs.Ytadhfpbkanobnaa.U Go.Proofs.YtadhfpbkanobnaaW.PrintWords Go.Proofs.YtadhfpbkanobnaaW.PrintLast

theorem FnExactGroupModules : laws_FnExactGroupModules.Pure := by
 intro l hlen hok
 refine Ev.rounds ?_
 have hraw : ∀ q ∈ l, RawTest q := fun q hq => ⟨(hok q hq).1, (hok q hq).2.1, (hok q hq).2.2.1, (hok q hq).2.2.2⟩
 obtain ⟨r, hr, hr2, hf⟩ := szTestS_ev l hlen hraw 1048576 (by omega) (by omega)
 unfold laws_FnExactGroupModules.f
 by_cases c : r < 0
 ·exact Ev.bind hr (Ev.iteT c (Ev.some_ rfl))
 ·have hfew := hf (by omega)
  obtain ⟨s1, s2⟩ := hfew.small
  have ht := toTestS_ev l hfew
  have hs : TSzS (l.map to_Test) := ⟨s1, fun e he => by obtain ⟨p, hp, rfl⟩ := List.mem_map.1 he; have := hfew.one p hp; exact ⟨this.r0, this.r1, ⟨this.r2.len, this.r2.sizes⟩, ⟨this.r3.len, this.r3.sizes⟩⟩⟩
  have hz : ∀ q ∈ l.map to_Test, q.f2.length < 8796093022208 ∧ q.f3.length < 8796093022208 := fun q hq => ⟨by have := (s2 q hq).r2; omega, by have := (s2 q hq).r3; omega⟩
  have him := implGrp_ev _ hs hz
  have hsp := specGrp_ev _ hs hz
  have hb := grpV_length (l.map to_Test)
  have hm1 : ∀ q ∈ grpV (l.map to_Test), SzTest q := fun q hq => s2 q (grpV_mem _ q hq)
  have heq := eqTestS_ev (grpV (l.map to_Test)) (by omega) hm1
  obtain ⟨v, hv, hv2⟩ := markTestS_ev (l.map to_Test) (by omega) s2
  obtain ⟨b, m, hm, hm2, hm3, hm4⟩ := markTestC_ev (grpV (l.map to_Test)) 1 (fun q hq => ⟨(hm1 q hq).r2, (hm1 q hq).r3⟩) (by omega) (by omega)
  have hh := heldTestC_ev m (by omega) 1 b (by omega) (by omega) hm2
  refine Ev.bind hr (Ev.iteF c (Ev.bind ht (Ev.bind hsp (Ev.bind him (Ev.bind heq (Ev.bind (eqTestS_ev _ (by omega) s2) (Ev.bind hv (Ev.bind hm (Ev.bind hh ?_)))))))))
  exact Ev.iteT ⟨rfl, rfl, by omega, by omega, rfl⟩ (Ev.some_ rfl)

end Go.Proofs.Ytadhfpbkanobnaa.Pure
