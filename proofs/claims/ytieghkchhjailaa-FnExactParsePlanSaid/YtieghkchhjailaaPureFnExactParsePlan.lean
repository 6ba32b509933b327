/- The law FnExactParsePlan answers true for every text: ParsePlan of the program is that of the reference, and its result is memory of its own. Its one condition: the text fits into memory. -/
import Derived.Test.YtieghkchhjailaaPx8
import Derived.Test.YtieghkchhjailaaPx19
import Derived.Test.YtieghkchhjailaaLFnExactParsePlan
namespace Go.Proofs.Ytieghkchhjailaa.Pure
open Go.RowKit Go.Proofs.Ytieghkchhjailaa.P Go.Proofs.YtieghkchhjailaaW.PrintWords Go.Proofs.YtieghkchhjailaaW.PrintLast

theorem FnExactParsePlan : laws_FnExactParsePlan.Pure := by
  intro a0 hz
  refine Ev.rounds ?_
  obtain ⟨s, rfl⟩ : ∃ s, a0 = ofL s := ⟨_, (ofL_data a0).symm⟩
  have hsz := ofL_size s
  unfold laws_FnExactParsePlan.f
  by_cases c : ((ofL s).size : Int) > 1048576
  · exact Ev.iteT c (Ev.some_ rfl)
  · refine Ev.iteF c ?_
    have hl : s.length ≤ 1048576 := by omega
    have hsp := specParse_ev s hl
    have him := implParse_ev s hl
    refine Ev.bind hsp (Ev.bind him ?_)
    have hlen : (resP s).1.length ≤ 1048577 := by
      unfold resP
      split
      · have := pieces_len s
        show (readP s).length ≤ _
        omega
      · exact Nat.zero_le _
    have heq : Ev (fun k => laws_eqEventS.f k (resP s).1 (resP s).1) true := eqEventS_ev _ (by omega) (fun q _ => ⟨trivial⟩)
    refine Ev.bind heq (Ev.iteT rfl ?_)
    obtain ⟨m, b, h1, h2, h3⟩ := markEventS_ev (resP s).1 1 (by omega) (by omega) (by omega)
    refine Ev.step (fun k => rfl) (Ev.iteF (by simp) (Ev.bind h1 (Ev.bind h2 (Ev.iteF (by omega) (Ev.iteT rfl (Ev.bind him (Ev.bind heq (Ev.iteT rfl ?_))))))))
    exact Ev.step (fun k => rfl) (Ev.iteF (by simp) (Ev.bind h2 (Ev.iteF (by omega) (Ev.iteT rfl (Ev.some_ rfl)))))

end Go.Proofs.Ytieghkchhjailaa.Pure
