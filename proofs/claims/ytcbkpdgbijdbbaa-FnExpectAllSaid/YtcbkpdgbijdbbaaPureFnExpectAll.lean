/- The law FnExpectAll answers true for every code: what calls there are can be expected. Its one condition: the code's bytes are bytes. -/
import Derived.Test.YtcbkpdgbijdbbaaKx0
import Derived.Test.YtcbkpdgbijdbbaaKx14
import Derived.Test.YtcbkpdgbijdbbaaLFnExpectAll
namespace Go.Proofs.Ytcbkpdgbijdbbaa.Pure
open Go.RowKit Go.Proofs.Ytcbkpdgbijdbbaa.K Go.Proofs.YtcbkpdgbijdbbaaW.PrintWords Go.Proofs.YtcbkpdgbijdbbaaW.PrintLast

theorem FnExpectAll : laws_FnExpectAll.Pure := by
  intro c hlen _ hwf
  refine Ev.rounds ?_
  unfold laws_FnExpectAll.f
  by_cases c0 : (c.length : Int) > 1048576
  · exact Ev.iteT c0 (Ev.some_ rfl)
  · refine Ev.iteF c0 ?_
    obtain ⟨l, hd, hs⟩ := drawExpectAll_ev c (fun x hx => wfByte (hwf x hx))
    have hz := hs.sizes
    have him := implExp_ev l hz
    have hsp := specExp_ev l hz
    by_cases d : callsS l = true ∧ (expF l l 0).length ≤ 6
    · have ev : expV l = (expF l l 0, true) := by unfold expV; rw [if_pos d.1, if_pos d.2]
      rw [ev] at him hsp
      have hez := expF_sizes l hz l 0 (fun _ h => h) (Nat.le_refl _)
      refine Ev.bind hd (Ev.bind him (Ev.bind hsp (Ev.bind (equalExpectsR_ev _ hez) (Ev.iteT rfl (Ev.iteF (by simp) ?_)))))
      refine Ev.step (fun k => by rw [laws_FnExpectAll.j0]) ?_
      have hu := implUnmet_ev l hz _ hez
      rw [unmet_all l] at hu
      have hst := implStray_ev l hz _ hez
      rw [stray_all l] at hst
      refine Ev.iteF (by simp) (Ev.bind hu (Ev.iteF (by simp) (Ev.bind hst (Ev.iteF (by simp) ?_))))
      cases l with
      | nil => exact Ev.iteT rfl (Ev.some_ rfl)
      | cons h tl =>
        have htl : CSzS tl := ⟨by have := hz.len; simp only [List.length_cons] at this; omega, fun q hq => hz.one q (by simp [hq])⟩
        have ht := implUnmet_ev tl htl _ hez
        have hone := unmet_tail h tl d.1 d.2
        refine Ev.iteF (by simp; omega) (Ev.iteT (by simp; omega) (Ev.bind ht (Ev.some_ ?_)))
        rw [hone]
        rfl
    · have ev : expV l = ([], false) := by
        unfold expV
        by_cases d1 : callsS l = true
        · rw [if_pos d1, if_neg (fun q => d ⟨d1, q⟩)]
        · rw [if_neg d1]
      rw [ev] at him hsp
      have hen : Ev (fun k => laws_equalExpects.f k ([] : List S73) []) true := equalExpectsR_ev [] ⟨by simp, fun _ h => by cases h⟩
      refine Ev.bind hd (Ev.bind him (Ev.bind hsp (Ev.bind hen (Ev.iteT rfl (Ev.iteF (by simp) ?_)))))
      refine Ev.step (fun k => by rw [laws_FnExpectAll.j0]) ?_
      exact Ev.iteT rfl (Ev.bind hen (Ev.iteT rfl (Ev.some_ rfl)))

end Go.Proofs.Ytcbkpdgbijdbbaa.Pure
