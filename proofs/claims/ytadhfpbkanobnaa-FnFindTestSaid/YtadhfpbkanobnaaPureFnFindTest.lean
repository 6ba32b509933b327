/- The law FnFindTest answers true for every code: tests are found by their ids. Its one condition: the code's bytes are bytes. -/
import Derived.Test.YtadhfpbkanobnaaGx9
import Derived.Test.YtadhfpbkanobnaaLFnFindTest
namespace Go.Proofs.Ytadhfpbkanobnaa.Pure
open Go.RowKit Go.Proofs.Ytadhfpbkanobnaa.G Go.Proofs.YtadhfpbkanobnaaW.PrintWords Go.Proofs.YtadhfpbkanobnaaW.PrintLast

theorem FnFindTest : laws_FnFindTest.Pure := by
 intro c hlen _ hwf
 refine Ev.rounds ?_
 unfold laws_FnFindTest.f
 by_cases c0 : (c.length : Int) > 1048576
 ·exact Ev.iteT c0 (Ev.some_ rfl)
 ·refine Ev.iteF c0 ?_
  obtain ⟨l, s, hd, hl⟩ := drawFind_ev c (fun x hx => wfByte (hwf x hx))
  refine Ev.bind hd (Ev.bind (implFind_ev l hl.sizes s) (Ev.bind (specFind_ev l hl.sizes s) (Ev.iteT rfl (Ev.bind (validTestsI_ev l hl.sizes) ?_))))
  refine Ev.step (fun k => by rw [laws_FnFindTest.j0]) ?_
  by_cases v : testsS l = true
  ·refine Ev.iteF (by simp [v]) ?_
   have e : findS l s = findV s l 0 := if_pos v
   rw [e]
   exact findLaw_loop l hl.sizes v s l.length 0 (by omega)
  ·exact Ev.iteT (by simpa using v) (Ev.bind (specFind_ev l hl.sizes s) (Ev.some_ (by simp)))

end Go.Proofs.Ytadhfpbkanobnaa.Pure
