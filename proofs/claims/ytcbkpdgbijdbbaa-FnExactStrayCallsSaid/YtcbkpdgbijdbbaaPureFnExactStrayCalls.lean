/- The law FnExactStrayCalls answers true for all calls and all that is expected: StrayCalls of the program is that of the reference, its arguments stay, and its result is memory of its own. Its one condition: the arguments are data that fits into memory. -/
import Derived.Test.YtcbkpdgbijdbbaaJx11
import Derived.Test.YtcbkpdgbijdbbaaLFnExactStrayCalls
import Derived.Test.YtcbkpdgbijdbbaaPuFnExactStrayCalls
namespace Go.Proofs.Ytcbkpdgbijdbbaa.Pure
open Go.RowKit Go.Proofs.Ytcbkpdgbijdbbaa.J Go.Proofs.YtcbkpdgbijdbbaaW.PrintWords Go.Proofs.YtcbkpdgbijdbbaaW.PrintLast

theorem FnExactStrayCalls : laws_FnExactStrayCalls.Pure := by
  intro l l1 hlen hok hlen1 hok1
  refine Ev.rounds ?_
  have hraw : ∀ q ∈ l, RawCall q := fun q hq => ⟨(hok q hq).1, (hok q hq).2.1⟩
  have hraw1 : ∀ q ∈ l1, RawExpect q := fun q hq => ⟨(hok1 q hq).1, (hok1 q hq).2.1.1⟩
  obtain ⟨r, hr, hr2, hf⟩ := szCallS_ev l hlen hraw 1048576 (by omega) (by omega)
  unfold laws_FnExactStrayCalls.f
  by_cases c : r < 0
  · exact Ev.bind hr (Ev.iteT c (Ev.some_ rfl))
  · obtain ⟨r1, hr1, hr12, hf1⟩ := szExpectS_ev l1 hlen1 hraw1 r (by omega) (by omega)
    by_cases c1 : r1 < 0
    · exact Ev.bind hr (Ev.iteF c (Ev.bind hr1 (Ev.iteT c1 (Ev.some_ rfl))))
    · have hfew := hf (by omega)
      have hfew1 := hf1 (by omega)
      obtain ⟨s1, s2⟩ := hfew.small
      obtain ⟨s3, s4⟩ := hfew1.small
      have ht := toCallS_ev l hfew
      have ht1 := toExpectS_ev l1 hfew1
      have hs : CSzS (l.map to_Call) := ⟨by omega, fun e he => by obtain ⟨p, hp, rfl⟩ := List.mem_map.1 he; have := hfew.one p hp; have h1 := this.r0; have h2 := this.r1; exact ⟨by show p.f0.size ≤ _; omega, by show p.f1.length ≤ _; omega⟩⟩
      have hs1 : ESzS (l1.map to_Expect) := ⟨by omega, fun e he => by obtain ⟨p, hp, rfl⟩ := List.mem_map.1 he; have := hfew1.one p hp; have h1 := this.r0; have h2 := this.r1; exact ⟨by show p.f0.size ≤ _; omega, by show p.f1.length ≤ _; omega⟩⟩
      have him := implStray_ev _ hs _ hs1
      have hsp := specStray_ev _ hs _ hs1
      have hb := strayV_length (l.map to_Call) (l1.map to_Expect)
      have heq := eqIntS_ev (strayV (l.map to_Call) (l1.map to_Expect)) (by omega)
      obtain ⟨v, hv, hv2, hv3⟩ := markCallS_ev (l.map to_Call) (by omega) s2
      obtain ⟨v1, hv1, hv4⟩ := markExpectS_ev (l1.map to_Expect) (by omega) s4 v (by omega) hv3
      obtain ⟨m, hm, hm2, hm3⟩ := markIntS_ev (strayV (l.map to_Call) (l1.map to_Expect)) 1 (by omega) (by omega)
      have hh := heldIntS_ev m 1 (by omega) (by omega) hm3
      rw [hm2] at hh
      refine Ev.bind hr (Ev.iteF c (Ev.bind hr1 (Ev.iteF c1 (Ev.bind ht (Ev.bind ht1 (Ev.bind hsp (Ev.bind ht (Ev.bind ht1 (Ev.bind him (Ev.bind heq (Ev.iteT rfl (Ev.bind ht (Ev.bind (eqCallS_ev _ (by omega) s2) (Ev.iteT rfl (Ev.bind ht1 (Ev.bind (eqExpectS_ev _ (by omega) s4) (Ev.iteT rfl (Ev.bind hv (Ev.bind hv1 (Ev.iteF (by omega) (Ev.bind heq ?_)))))))))))))))))))))
      refine Ev.step (fun k => by rw [laws_FnExactStrayCalls.j0]) ?_
      exact (Ev.iteF (by simp) (Ev.bind hm (Ev.bind hh (Ev.iteF (by omega) (Ev.iteT rfl (Ev.bind ht (Ev.bind ht1 (Ev.bind him (Ev.bind heq (Ev.iteT rfl (Ev.bind hh (Ev.iteF (by omega) (Ev.iteT rfl (Ev.some_ rfl))))))))))))))

end Go.Proofs.Ytcbkpdgbijdbbaa.Pure
