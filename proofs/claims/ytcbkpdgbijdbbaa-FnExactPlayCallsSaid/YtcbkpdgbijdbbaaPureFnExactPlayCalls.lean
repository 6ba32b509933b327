/- The law FnExactPlayCalls answers true for all doubles and calls: PlayCalls of the program is that of the reference, its arguments stay, and its result is memory of its own. Its one condition: the arguments are data that fits into memory. -/
import Derived.Test.YtcbkpdgbijdbbaaNx10
import Derived.Test.YtcbkpdgbijdbbaaNx11
import Derived.Test.YtcbkpdgbijdbbaaNx13
import Derived.Test.YtcbkpdgbijdbbaaLFnExactPlayCalls
import Derived.Test.YtcbkpdgbijdbbaaPuFnExactPlayCalls
namespace Go.Proofs.Ytcbkpdgbijdbbaa.Pure
open Go.RowKit Go.Proofs.Ytcbkpdgbijdbbaa.N Go.Proofs.YtcbkpdgbijdbbaaW.PrintWords Go.Proofs.YtcbkpdgbijdbbaaW.PrintLast

theorem FnExactPlayCalls : laws_FnExactPlayCalls.Pure := by
 intro x0 l1 hok hlen1 hok1
 refine Ev.rounds ?_
 have hraw : ∀ q ∈ x0.f0, RawReply q := fun q hq => ⟨(hok.2 q hq).1, (hok.2 q hq).2.1⟩
 have hraw1 : ∀ q ∈ l1, RawCall q := fun q hq => ⟨(hok1 q hq).1, (hok1 q hq).2.1⟩
 obtain ⟨r, hr, hr2, hf⟩ := szReplyS_ev x0.f0 hok.1 hraw 1048576 (by omega) (by omega)
 unfold laws_FnExactPlayCalls.f
 by_cases c : r < 0
 ·have hd : Ev (fun k => laws_szDouble.f k x0.f0 1048576) (-1) := Ev.bind hr (Ev.iteT c (Ev.some_ rfl))
  exact Ev.bind hd (Ev.iteT (by omega) (Ev.some_ rfl))
 ·have hd : Ev (fun k => laws_szDouble.f k x0.f0 1048576) r := Ev.bind hr (Ev.iteF c (Ev.some_ rfl))
  obtain ⟨r1, hr1, hr12, hf1⟩ := szCallS_ev l1 hlen1 hraw1 r (by omega) (by omega)
  by_cases c1 : r1 < 0
  ·exact Ev.bind hd (Ev.iteF c (Ev.bind hr1 (Ev.iteT c1 (Ev.some_ rfl))))
  ·have hfew := hf (by omega)
   have hfew1 := hf1 (by omega)
   obtain ⟨s1, s2⟩ := hfew.small
   obtain ⟨s3, s4⟩ := hfew1.small
   have ht : Ev (fun k => laws_toDouble.f k x0.f0) (x0.f0.map to_Reply) := Ev.bind (f := fun _ t => some t) (toReplyS_ev x0.f0 hfew) (Ev.some_ rfl)
   have ht1 := toCallS_ev l1 hfew1
   have hs : RSzS (x0.f0.map to_Reply) := ⟨by omega, fun e he => by obtain ⟨p, hp, rfl⟩ := List.mem_map.1 he; have := hfew.one p hp; have h1 := this.r0; have h2 := this.r1; exact ⟨by show p.f0.size ≤ _; omega, by show p.f1.length ≤ _; omega⟩⟩
   have hs1 : CSzS (l1.map to_Call) := ⟨by omega, fun e he => by obtain ⟨p, hp, rfl⟩ := List.mem_map.1 he; have := hfew1.one p hp; have h1 := this.r0; have h2 := this.r1; exact ⟨by show p.f0.size ≤ _; omega, by show p.f1.length ≤ _; omega⟩⟩
   have him := implPlay_ev _ hs _ hs1
   have hsp := specPlay_ev _ hs _ hs1
   have hb : (playV (x0.f0.map to_Reply) (l1.map to_Call)).1.length ≤ 1048576 := by
    unfold playV
    split
    ·show (playL _ _ _).length ≤ _
     rw [playL_length]
     omega
    ·simp
   generalize playV (x0.f0.map to_Reply) (l1.map to_Call) = pv at him hsp hb
   obtain ⟨pl, pb⟩ := pv
   have hb2 : pl.length ≤ 1048576 := hb
   have heq := eqIntS_ev pl (by omega)
   have hed : Ev (fun k => laws_eqDouble.f k (x0.f0.map to_Reply) (x0.f0.map to_Reply)) true := Ev.bind (eqReplyS_ev _ (by omega) s2) (Ev.iteT rfl (Ev.some_ rfl))
   obtain ⟨v, hv, hv2, hv3⟩ := markDouble_ev (x0.f0.map to_Reply) (by omega) s2
   obtain ⟨v1, hv1, hv4⟩ := markCallS2_ev (l1.map to_Call) (by omega) s4 v (by omega) hv3
   obtain ⟨m, hm, hm2, hm3⟩ := markIntS_ev pl 1 (by omega) (by omega)
   have hh := heldIntS_ev m 1 (by omega) (by omega) hm3
   rw [hm2] at hh
   refine Ev.bind hd (Ev.iteF c (Ev.bind hr1 (Ev.iteF c1 (Ev.bind ht (Ev.bind ht1 (Ev.bind hsp (Ev.bind ht (Ev.bind ht1 (Ev.bind him (Ev.bind heq (Ev.iteT rfl ?_)))))))))))
   refine Ev.step (fun k => by rw [laws_FnExactPlayCalls.j0]) ?_
   refine Ev.iteF (by simp) (Ev.bind ht (Ev.bind hed (Ev.iteT rfl (Ev.bind ht1 (Ev.bind (eqCallS_ev _ (by omega) s4) (Ev.iteT rfl (Ev.bind hv (Ev.bind hv1 (Ev.iteF (by omega) (Ev.bind heq (Ev.iteT rfl ?_)))))))))))
   refine Ev.step (fun k => by rw [laws_FnExactPlayCalls.j1]) ?_
   refine Ev.iteF (by simp) (Ev.bind hm (Ev.bind hh (Ev.iteF (by omega) (Ev.iteT rfl (Ev.bind ht (Ev.bind ht1 (Ev.bind him (Ev.bind heq (Ev.iteT rfl ?_)))))))))
   refine Ev.step (fun k => by rw [laws_FnExactPlayCalls.j2]) ?_
   exact Ev.iteF (by simp) (Ev.bind hh (Ev.iteF (by omega) (Ev.iteT rfl (Ev.some_ rfl))))

end Go.Proofs.Ytcbkpdgbijdbbaa.Pure
