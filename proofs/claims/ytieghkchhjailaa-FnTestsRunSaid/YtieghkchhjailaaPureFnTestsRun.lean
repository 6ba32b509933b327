/- The law FnTestsRun answers true for every code: the tests of two parts are one after the other those of all. Its one condition: the code's bytes are bytes. -/
import Derived.Test.YtieghkchhjailaaSx20
import Derived.Test.YtieghkchhjailaaSx21
import Derived.Test.YtieghkchhjailaaLFnTestsRun
namespace Go.Proofs.Ytieghkchhjailaa.Pure
open Go.RowKit Go.Proofs.Ytieghkchhjailaa.S Go.Proofs.YtieghkchhjailaaW.PrintWords Go.Proofs.YtieghkchhjailaaW.PrintLast

theorem FnTestsRun : laws_FnTestsRun.Pure := by
 intro l0 _ _ h3
 refine Ev.rounds ?_
 unfold laws_FnTestsRun.f
 by_cases c1 : (l0.length : Int) > 1048576
 ·exact Ev.iteT c1 (Ev.some_ rfl)
 ·refine Ev.iteF c1 ?_
  obtain ⟨E, hd, hl⟩ := drawTotal_ev l0 (fun x hx => wfByte (h3 x hx))
  have hd2 : Ev (fun k => spec_DrawTestsRun.f k l0) E := Ev.bind hd (Ev.some_ rfl)
  have hr := runV_length E
  have ht := runV_length (E.take (E.length / 2))
  have hu := runV_length (E.drop (E.length / 2))
  rw [List.length_take] at ht
  rw [List.length_drop] at hu
  refine Ev.bind hd2 (Ev.bind (implRun_ev E hl) (Ev.bind (specRun_ev E hl) (Ev.bind (equalTexts_ev _ (by omega)) (Ev.iteT rfl (Ev.bind0 rfl ?_)))))
  have ew : wrap64 ((E.length : Int) / 2) = ((E.length / 2 : Nat) : Int) := by rw [wrapI (by omega)]; omega
  refine Ev.iteT (by rw [ew]; omega) (Ev.iteT (by rw [ew]; show ((E.length / 2 : Nat) : Int) ≤ (E.length : Int); omega) ?_)
  rw [ew, Int.toNat_natCast]
  refine Ev.bind (implRun_ev (E.take (E.length / 2)) (by rw [List.length_take]; omega)) (Ev.iteT (by simp only [List.length_nil]; omega) (Ev.bind0 rfl (Ev.bind (implRun_ev (E.drop (E.length / 2)) (by rw [List.length_drop]; omega)) (Ev.iteT (by simp only [List.nil_append]; omega) ?_))))
  rw [List.nil_append, ← runV_append, List.take_append_drop]
  exact Ev.bind (equalTexts_ev _ (by omega)) (Ev.some_ rfl)

end Go.Proofs.Ytieghkchhjailaa.Pure
