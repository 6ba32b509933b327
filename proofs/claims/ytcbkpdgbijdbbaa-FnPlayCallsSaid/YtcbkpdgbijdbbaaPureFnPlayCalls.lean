/- The law FnPlayCalls answers true for every code: doubles answer one after the other. Its one condition: the code's bytes are bytes. -/
import Derived.Test.YtcbkpdgbijdbbaaMx12
import Derived.Test.YtcbkpdgbijdbbaaLFnPlayCalls
namespace Go.Proofs.Ytcbkpdgbijdbbaa.Pure
open Go.RowKit Go.Proofs.Ytcbkpdgbijdbbaa.M Go.Proofs.YtcbkpdgbijdbbaaW.PrintWords Go.Proofs.YtcbkpdgbijdbbaaW.PrintLast

theorem FnPlayCalls : laws_FnPlayCalls.Pure := by
 intro c hlen _ hwf
 refine Ev.rounds ?_
 unfold laws_FnPlayCalls.f
 by_cases c0 : (c.length : Int) > 1048576
 ·exact Ev.iteT c0 (Ev.some_ rfl)
 ·refine Ev.iteF c0 ?_
  obtain ⟨rs, l, hd, hr, hl⟩ := drawPlay_ev c (fun x hx => wfByte (hwf x hx))
  have h1 := hl.len
  have him := implPlay_ev rs hr.sizes l hl.sizes
  have hsp := specPlay_ev rs hr.sizes l hl.sizes
  have hpl := playL_length rs l []
  by_cases q : doubleS rs = true ∧ callsS l = true ∧ l.all (hasR rs) = true
  ·rw [play_true rs l q.1 q.2.1 q.2.2] at him hsp
   refine Ev.bind hd (Ev.bind him (Ev.bind hsp (Ev.bind (equalIntsR_ev _ (show (playL rs [] l).length ≤ 4611686018427387903 by omega)) (Ev.iteT rfl (Ev.iteF (by simp) ?_)))))
   refine Ev.step (fun k => by rw [laws_FnPlayCalls.j0]) ?_
   exact Ev.iteF (by simp) (law_l0 l hl rs hr q.1 q.2.1 q.2.2 (l.length + 1) 0 (by omega))
  ·have e : playV rs l = ([], false) := if_neg q
   rw [e] at him hsp
   refine Ev.bind hd (Ev.bind him (Ev.bind hsp (Ev.bind (equalIntsR_ev _ (by simp)) (Ev.iteT rfl (Ev.iteF (by simp) ?_)))))
   refine Ev.step (fun k => by rw [laws_FnPlayCalls.j0]) ?_
   exact Ev.iteT rfl (Ev.bind (equalIntsR_ev _ (by simp)) (Ev.iteT rfl (Ev.some_ rfl)))

end Go.Proofs.Ytcbkpdgbijdbbaa.Pure
