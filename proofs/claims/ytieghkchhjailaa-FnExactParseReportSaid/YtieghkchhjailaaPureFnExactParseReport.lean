/- The law FnExactParseReport answers true for every text: ParseReport of the program is that of the reference, and its result is memory of its own. Its one condition: the text fits into memory. -/
import Derived.Test.YtieghkchhjailaaPx15
import Derived.Test.YtieghkchhjailaaPx26
import Derived.Test.YtieghkchhjailaaLFnExactParseReport
namespace Go.Proofs.Ytieghkchhjailaa.Pure
open Go.RowKit Go.Proofs.Ytieghkchhjailaa.P Go.Proofs.YtieghkchhjailaaW.PrintWords Go.Proofs.YtieghkchhjailaaW.PrintLast

theorem FnExactParseReport : laws_FnExactParseReport.Pure := by
  intro a0 hz
  refine Ev.rounds ?_
  obtain ⟨s, rfl⟩ : ∃ s, a0 = ofL s := ⟨_, (ofL_data a0).symm⟩
  have hsz := ofL_size s
  unfold laws_FnExactParseReport.f
  by_cases c : ((ofL s).size : Int) > 1048576
  · exact Ev.iteT c (Ev.some_ rfl)
  · refine Ev.iteF c ?_
    have hl : s.length ≤ 1048576 := by omega
    have hsp := specParseR_ev s hl
    have him := implParseR_ev s hl
    refine Ev.bind hsp (Ev.bind him ?_)
    obtain ⟨l1, l2⟩ := resR_length s
    have heq : Ev (fun k => laws_eqReport.f k (resR s).1 (resR s).2.1 (resR s).1 (resR s).2.1) true := by
      unfold laws_eqReport.f
      exact Ev.bind (eqResultS_ev _ (by omega) (fun q _ => ⟨trivial⟩)) (Ev.iteT rfl (Ev.bind (eqStringS_ev _ (by omega)) (Ev.iteT rfl (Ev.some_ rfl))))
    refine Ev.bind heq (Ev.iteT rfl ?_)
    obtain ⟨m, n, b, h1, h2, h3⟩ := markReport_ev (resR s).1 (resR s).2.1 1 (by omega) (by omega) (by omega) (by omega)
    refine Ev.step (fun k => rfl) (Ev.iteF (by simp) (Ev.bind h1 (Ev.bind h2 (Ev.iteF (by omega) (Ev.iteT rfl (Ev.bind him (Ev.bind heq (Ev.iteT rfl ?_))))))))
    exact Ev.step (fun k => rfl) (Ev.iteF (by simp) (Ev.bind h2 (Ev.iteF (by omega) (Ev.iteT rfl (Ev.some_ rfl)))))

end Go.Proofs.Ytieghkchhjailaa.Pure
