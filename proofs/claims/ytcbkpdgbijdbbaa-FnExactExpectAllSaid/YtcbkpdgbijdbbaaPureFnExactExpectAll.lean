/- The law FnExactExpectAll answers true for every list of calls: ExpectAll of the program is that of the reference, its argument stays, and its result is memory of its own. Its one condition: the argument is data that fits into memory. -/
import Derived.Test.YtcbkpdgbijdbbaaRx11
import Derived.Test.YtcbkpdgbijdbbaaLFnExactExpectAll
import Derived.Test.YtcbkpdgbijdbbaaPuFnExactExpectAll
namespace Go.Proofs.Ytcbkpdgbijdbbaa.Pure
open Go.RowKit Go.Proofs.Ytcbkpdgbijdbbaa.R Go.Proofs.YtcbkpdgbijdbbaaW.PrintWords Go.Proofs.YtcbkpdgbijdbbaaW.PrintLast

theorem FnExactExpectAll : laws_FnExactExpectAll.Pure := by
 intro l hlen hok
 refine Ev.rounds ?_
 have hraw : ∀ q ∈ l, RawCall q := fun q hq => ⟨(hok q hq).1, (hok q hq).2.1⟩
 obtain ⟨r, hr, hr2, hf⟩ := szCallS_ev l hlen hraw 1048576 (by omega) (by omega)
 unfold laws_FnExactExpectAll.f
 by_cases c : r < 0
 ·exact Ev.bind hr (Ev.iteT c (Ev.some_ rfl))
 ·have hfew := hf (by omega)
  obtain ⟨s1, s2⟩ := hfew.small
  have ht := toCallS_ev l hfew
  have hs : CSzS (l.map to_Call) := ⟨by omega, fun e he => by obtain ⟨p, hp, rfl⟩ := List.mem_map.1 he; have := hfew.one p hp; have h1 := this.r0; have h2 := this.r1; exact ⟨by show p.f0.size ≤ _; omega, by show p.f1.length ≤ _; omega⟩⟩
  have him := implExp_ev _ hs
  have hsp := specExp_ev _ hs
  have hlen2 : (expV (l.map to_Call)).1.length ≤ 6 := by
   unfold expV
   split
   ·split
    ·assumption
    ·simp
   ·simp
  have hone : ∀ q ∈ (expV (l.map to_Call)).1, q.f1.length ≤ 1048576 := by
   intro q hq
   unfold expV at hq
   split at hq
   ·split at hq
    ·obtain ⟨d, hd, _, rfl⟩ := expF_mem _ _ _ _ hq
     exact (s2 d hd).r1
    ·cases hq
   ·cases hq
  have hz2 : ∀ q ∈ (expV (l.map to_Call)).1, SzExpect q := fun q hq => ⟨trivial, hone q hq⟩
  have heq := eqExpectS_ev (expV (l.map to_Call)).1 (by omega) hz2
  obtain ⟨v, hv, hv2, hv3⟩ := markCallS_ev (l.map to_Call) (by omega) s2
  obtain ⟨b, m, hm, hm2, hm3, hm4⟩ := markExpectC_ev (expV (l.map to_Call)).1 1 hone (by omega) (by omega)
  have hh := heldExpectC_ev m (by omega) 1 b (by omega) (by omega) hm2
  refine Ev.bind hr (Ev.iteF c (Ev.bind ht (Ev.bind hsp (Ev.bind him (Ev.bind heq (Ev.bind (eqCallS_ev _ (by omega) s2) (Ev.bind hv (Ev.bind hm (Ev.bind hh ?_)))))))))
  exact Ev.iteT ⟨rfl, rfl, rfl, by omega, by omega, rfl⟩ (Ev.some_ rfl)

end Go.Proofs.Ytcbkpdgbijdbbaa.Pure
