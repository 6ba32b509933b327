/- The law FnStrayCalls answers true for every code: stray calls are of no expectation. Its one condition: the code's bytes are bytes. -/
import Derived.Test.YtcbkpdgbijdbbaaKx9
import Derived.Test.YtcbkpdgbijdbbaaLFnStrayCalls
namespace Go.Proofs.Ytcbkpdgbijdbbaa.Pure
open Go.RowKit Go.Proofs.Ytcbkpdgbijdbbaa.K Go.Proofs.YtcbkpdgbijdbbaaW.PrintWords Go.Proofs.YtcbkpdgbijdbbaaW.PrintLast

theorem FnStrayCalls : laws_FnStrayCalls.Pure := by
  intro c hlen _ hwf
  refine Ev.rounds ?_
  unfold laws_FnStrayCalls.f
  by_cases c0 : (c.length : Int) > 1048576
  · exact Ev.iteT c0 (Ev.some_ rfl)
  · refine Ev.iteF c0 ?_
    obtain ⟨l, m, hd, hs, hs2⟩ := drawStray_ev c (fun x hx => wfByte (hwf x hx))
    have hz := hs.sizes
    have hz2 := hs2.sizes
    have h1 := hs.len
    have him := implStray_ev l hz m hz2
    have hsp := specStray_ev l hz m hz2
    have hb := strayV_length l m
    have heq := equalIntsR_ev (strayV l m) (by omega)
    refine Ev.bind hd (Ev.bind him (Ev.bind hsp (Ev.bind heq (Ev.iteT rfl (Ev.bind (validCallsI_ev l hz) ?_)))))
    by_cases d : callsS l = true
    · refine Ev.step (fun k => by rw [laws_FnStrayCalls.j0]) ?_
      refine Ev.iteF (by simp [d]) ?_
      by_cases d2 : expectsS m = true
      · have ev : strayV l m = placesF (strayB m) l 0 := by unfold strayV; rw [if_pos ⟨d, d2⟩]
        have hpl := placesF_length (strayB m) l 0
        have hfew : CSzS (l.filter fun q => !strayB m q) := ⟨by have := List.length_filter_le (fun q => !strayB m q) l; have := hz.len; omega, fun q hq => hz.one q ((List.mem_filter.1 hq).1)⟩
        rw [ev]
        refine strayFew_loop l m h1 true (fun i i1 i2 => ?_) l 0 [] rfl (Nat.zero_le _) (Nat.le_refl _) (by simp)
        have hu := implUnmet_ev (l.filter fun q => !strayB m q) hfew m hz2
        rw [unmet_few l m d] at hu
        have hst := implStray_ev (l.filter fun q => !strayB m q) hfew m hz2
        rw [stray_few l m] at hst
        have hul := unmetV_length l m
        have h2 := hs2.len
        exact Ev.step (fun k => rfl) (Ev.iteF (by omega) (Ev.bind hu (Ev.bind (implUnmet_ev l hz m hz2) (Ev.bind (equalIntsR_ev _ (by omega)) (Ev.iteT rfl (Ev.bind hst (Ev.iteT rfl (Ev.bind (ascends_ev _ (by omega) _ (placesF_asc (strayB m) l 0)) (Ev.some_ rfl)))))))))
      · have ev : strayV l m = [] := by unfold strayV; rw [if_neg (fun q => d2 q.2)]
        rw [ev]
        refine strayFew0_loop l m h1 true (fun i i1 i2 => ?_) l 0 [] rfl (Nat.zero_le _) (Nat.le_refl _) (by simp)
        have hst := implStray_ev l hz m hz2
        rw [ev] at hst
        have hul := unmetV_length l m
        have h2 := hs2.len
        exact Ev.step (fun k => rfl) (Ev.iteF (by omega) (Ev.bind (implUnmet_ev l hz m hz2) (Ev.bind (implUnmet_ev l hz m hz2) (Ev.bind (equalIntsR_ev _ (by omega)) (Ev.iteT rfl (Ev.bind hst (Ev.iteT rfl (Ev.bind (ascends_ev [] (by simp) 0 trivial) (Ev.some_ rfl)))))))))
    · refine Ev.step (fun k => by rw [laws_FnStrayCalls.j0]) ?_
      exact Ev.iteT (by simpa using d) (Ev.bind hsp (Ev.bind heq (Ev.some_ rfl)))

end Go.Proofs.Ytcbkpdgbijdbbaa.Pure
