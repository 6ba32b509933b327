/- The law FnSummaryText answers true for every code: summaries are of counts. Its one condition: the code's bytes are bytes. -/
import Derived.Test.YtieghkchhjailaaDoorZx5
import Derived.Test.YtieghkchhjailaaDoorLFnSummaryText
namespace Go.Proofs.YtieghkchhjailaaDoor.Pure
open Go.RowKit Go.Proofs.YtieghkchhjailaaDoor.Z Go.Proofs.YtieghkchhjailaaDoorW.PrintWords Go.Proofs.YtieghkchhjailaaDoorW.PrintLast

theorem FnSummaryText : laws_FnSummaryText.Pure := by
 intro c hlen _ hwf
 refine Ev.rounds ?_
 unfold laws_FnSummaryText.f
 by_cases c0 : (c.length : Int) > 1048576
 ·exact Ev.iteT c0 (Ev.some_ rfl)
 ·refine Ev.iteF c0 ?_
  obtain ⟨rs, ds, hd, h1, h2⟩ := drawSumm_ev c (fun x hx => wfByte (hwf x hx))
  have l1 := h1.len
  have l2 := h2.len
  have hgo := summLaw_loop rs l1 ds l2 rs.length (Nat.le_refl _)
  rw [List.drop_length] at hgo
  refine Ev.bind hd (Ev.bind (implSumm_ev rs l1 ds l2) (Ev.bind (specSumm_ev rs l1 ds l2) (Ev.iteT rfl ?_)))
  have ew : wrap64 ((rs.length : Int) - 1) = (rs.length : Int) - 1 := wrapI (by omega)
  show Ev (fun k => laws_FnSummaryText.l0 k (summV rs ds) 0 (wrap64 ((rs.length : Int) - 1)) rs ds [] ds) true
  rw [ew]
  exact hgo

end Go.Proofs.YtieghkchhjailaaDoor.Pure
