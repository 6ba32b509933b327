/- The law FnTotalSetups answers true for every code: setups are counted in parts. Its one condition: the code's bytes are bytes. -/
import Derived.Test.YtieghkchhjailaaSx19
import Derived.Test.YtieghkchhjailaaLFnTotalSetups
namespace Go.Proofs.Ytieghkchhjailaa.Pure
open Go.RowKit Go.Proofs.Ytieghkchhjailaa.S Go.Proofs.YtieghkchhjailaaW.PrintWords Go.Proofs.YtieghkchhjailaaW.PrintLast

theorem FnTotalSetups : laws_FnTotalSetups.Pure := by
 intro l0 _ _ h3
 refine Ev.rounds ?_
 unfold laws_FnTotalSetups.f
 by_cases c1 : (l0.length : Int) > 1048576
 ·exact Ev.iteT c1 (Ev.some_ rfl)
 ·refine Ev.iteF c1 ?_
  obtain ⟨E, hd, hl⟩ := drawTotal_ev l0 (fun x hx => wfByte (h3 x hx))
  refine Ev.bind hd (Ev.bind (implTotalS_ev E hl) (Ev.bind (specTotalS_ev E hl) (Ev.iteT rfl ?_)))
  have ew : wrap64 ((E.length : Int) / 2) = ((E.length / 2 : Nat) : Int) := by rw [wrapI (by omega)]; omega
  have ht := implTotalS_ev (E.take (E.length / 2)) (by rw [List.length_take]; omega)
  have hr := implTotalS_ev (E.drop (E.length / 2)) (by rw [List.length_drop]; omega)
  refine Ev.iteT (by rw [ew]; omega) (Ev.iteT (by rw [ew]; show ((E.length / 2 : Nat) : Int) ≤ (E.length : Int); omega) ?_)
  rw [ew, Int.toNat_natCast]
  refine Ev.bind ht (Ev.bind hr (Ev.some_ ?_))
  have ha := upsV_append (E.take (E.length / 2)) (E.drop (E.length / 2))
  rw [List.take_append_drop] at ha
  have hb := upsV_length E
  rw [wrapI (by omega)]
  simp only [beq_iff_eq]
  omega

end Go.Proofs.Ytieghkchhjailaa.Pure
