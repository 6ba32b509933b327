/- The law FnExactFlakyIds answers true for every list of reports: FlakyIds of the program is that of the reference, its argument stays, and its result is memory of its own. Its one condition: the argument is data that fits into memory. -/
import Derived.Test.YtieghkchhjailaaVx9
import Derived.Test.YtieghkchhjailaaLFnExactFlakyIds
import Derived.Test.YtieghkchhjailaaPuFnExactFlakyIds
namespace Go.Proofs.Ytieghkchhjailaa.Pure
open Go.RowKit Go.Proofs.Ytieghkchhjailaa.V Go.Proofs.YtieghkchhjailaaW.PrintWords Go.Proofs.YtieghkchhjailaaW.PrintLast

theorem FnExactFlakyIds : laws_FnExactFlakyIds.Pure := by
 intro l hlen hok
 refine Ev.rounds ?_
 have hraw : ∀ q ∈ l, RawReport q := fun q hq => ⟨⟨(hok q hq).1.1, fun y hy => ⟨((hok q hq).1.2 y hy).1⟩⟩, (hok q hq).2⟩
 obtain ⟨r, hr, hr2, hf⟩ := szReportS_ev l hlen hraw 1048576 (by omega) (by omega)
 unfold laws_FnExactFlakyIds.f
 by_cases c : r < 0
 ·exact Ev.bind hr (Ev.iteT c (Ev.some_ rfl))
 ·have hfew := hf (by omega)
  obtain ⟨s1, s2⟩ := hfew.small
  have ht := toReportS_ev l hfew
  have hz : ∀ q ∈ l.map to_Report, q.f0.length ≤ 1048576 := fun q hq => (s2 q hq).r0
  have him := implFl_ev _ hz
  have hsp := specFl_ev _ hz
  have hb := flakyR_length (l.map to_Report) hz
  have heq := eqStringS_ev (flakyR (l.map to_Report)) (by omega)
  obtain ⟨v, hv, hv2⟩ := markReportS_ev (l.map to_Report) s1 s2
  obtain ⟨m, hm, hm2, hm3⟩ := markStringS_ev (flakyR (l.map to_Report)) 1 (by omega) (by omega)
  have hh := heldStringS_ev m 1 (by omega) (by omega) hm3
  rw [hm2] at hh
  refine Ev.bind hr (Ev.iteF c (Ev.bind ht (Ev.bind hsp (Ev.bind ht (Ev.bind him (Ev.bind heq (Ev.iteT rfl (Ev.bind ht (Ev.bind (eqReportS_ev _ (by omega) s2) (Ev.iteT rfl (Ev.bind hv (Ev.iteF (by omega) (Ev.bind heq ?_)))))))))))))
  refine Ev.step (fun k => by rw [laws_FnExactFlakyIds.j0]) ?_
  exact (Ev.iteF (by simp) (Ev.bind hm (Ev.bind hh (Ev.iteF (by omega) (Ev.iteT rfl (Ev.bind ht (Ev.bind him (Ev.bind heq (Ev.iteT rfl (Ev.bind hh (Ev.iteF (by omega) (Ev.iteT rfl (Ev.some_ rfl)))))))))))))

end Go.Proofs.Ytieghkchhjailaa.Pure
