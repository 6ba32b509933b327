/- The law FnExactMatches answers true for all arguments: Matches of the program is that of the reference, and the test stays. Its one condition: the arguments are data that fit into memory. -/
import Derived.Test.YtdllommmccgleaaEx0
import Derived.Test.YtdllommmccgleaaEx16
import Derived.Test.YtdllommmccgleaaEx20
import Derived.Test.YtdllommmccgleaaEx21
import Derived.Test.YtdllommmccgleaaLFnExactMatches
import Derived.Test.YtdllommmccgleaaPuFnExactMatches
namespace Go.Proofs.Ytdllommmccgleaa.Pure
open Go.RowKit Go.Proofs.Ytdllommmccgleaa.E Go.Proofs.YtdllommmccgleaaW.PrintWords Go.Proofs.YtdllommmccgleaaW.PrintLast

theorem matches_same (s : List UInt8) (q : S28) (hq : TSz q) : ∃ r, Ev (fun k => spec_Matches.f k (BA s) q.f0 q.f1 q.f2 q.f3) r ∧ Ev (fun k => impl_Matches.f k (BA s) q.f0 q.f1 q.f2 q.f3) r := by
 have hl := hq.r2.1
 have ht := testOk_ev q hq
 have hv := validTest_ev q hq
 unfold spec_Matches.f impl_Matches.f
 by_cases h : ExprOk s
 ·obtain ⟨h1, e, h2⟩ := h
  have he := evaluate_yes h2 h1 q.f0 q.f1 q.f2 q.f3 (by omega)
  have hr := readExpr_yes h2 h1
  have hh := holds_ev q.f0 q.f2 (by omega) e h2.wf
  cases hc : testS q with
  | true =>
   rw [hc] at ht hv
   exact ⟨_, Ev.bind he (Ev.bind hv (Ev.iteT rfl (Ev.iteT rfl (Ev.some_ rfl)))), Ev.bind hr (Ev.iteT rfl (Ev.bind ht (Ev.iteT rfl (Ev.bind hh (Ev.some_ rfl)))))⟩
  | false =>
   rw [hc] at ht hv
   exact ⟨false, Ev.bind he (Ev.bind hv (Ev.iteF (by simp) (Ev.some_ rfl))), Ev.bind hr (Ev.iteT rfl (Ev.bind ht (Ev.iteF (by simp) (Ev.some_ rfl))))⟩
 ·obtain ⟨b, he⟩ := evaluate_no h q.f0 q.f1 q.f2 q.f3 (by omega)
  obtain ⟨x, y, hr⟩ := readExpr_no h
  refine ⟨false, Ev.bind he (Ev.bind hv ?_), Ev.bind hr (Ev.iteF (by simp) (Ev.some_ rfl))⟩
  cases testS q with
  | true => exact Ev.iteT rfl (Ev.iteF (by simp) (Ev.some_ rfl))
  | false => exact Ev.iteF (by simp) (Ev.some_ rfl)
theorem FnExactMatches : laws_FnExactMatches.Pure := by
 intro a x ha hx
 refine Ev.rounds ?_
 obtain ⟨s, rfl⟩ : ∃ s, a = BA s := ⟨_, (BA_of a).symm⟩
 obtain ⟨r, hr, _, hf⟩ := szTest_ev x ⟨hx.1, hx.2.1, hx.2.2.1, hx.2.2.2⟩ 1048576 (by omega) (by omega)
 unfold laws_FnExactMatches.f
 by_cases c1 : ((BA s).size : Int) > 1048576
 ·exact Ev.iteT c1 (Ev.some_ rfl)
 ·refine Ev.iteF c1 (Ev.bind hr ?_)
  by_cases c : r < 0
  ·exact Ev.iteT c (Ev.some_ rfl)
  ·have hfew := hf (by omega)
   have ht := toTest_ev x hfew
   have hq : TSz (to_Test x) := ⟨hfew.r0, hfew.r1, ⟨hfew.r2.len, hfew.r2.sizes⟩, ⟨hfew.r3.len, hfew.r3.sizes⟩⟩
   obtain ⟨b, h1, h2⟩ := matches_same s (to_Test x) hq
   have he := eqTest_ev (to_Test x) ⟨trivial, hfew.r2.len, hfew.r3.len⟩
   exact Ev.iteF c (Ev.bind ht (Ev.bind h1 (Ev.bind ht (Ev.bind h2 (Ev.iteF (by simp) (Ev.bind ht (Ev.bind he (Ev.iteT rfl (Ev.some_ rfl)))))))))

end Go.Proofs.Ytdllommmccgleaa.Pure
