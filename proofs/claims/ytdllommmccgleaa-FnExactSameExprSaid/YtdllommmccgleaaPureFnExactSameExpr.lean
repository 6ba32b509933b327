/- The law FnExactSameExpr answers true for all arguments: SameExpr of the program is that of the reference. Its one condition: the arguments are data that fit into memory. -/
import Derived.Test.YtdllommmccgleaaYx5
import Derived.Test.YtdllommmccgleaaYx8
import Derived.Test.YtdllommmccgleaaYx9
import Derived.Test.YtdllommmccgleaaLFnExactSameExpr
namespace Go.Proofs.Ytdllommmccgleaa.Pure
open Go.RowKit Go.Proofs.Ytdllommmccgleaa.Y Go.Proofs.YtdllommmccgleaaW.PrintWords Go.Proofs.YtdllommmccgleaaW.PrintLast

theorem same_both (a b : List UInt8) : ∃ r, Ev (fun k => spec_SameExpr.f k (BA a) (BA b)) r ∧ Ev (fun k => impl_SameExpr.f k (BA a) (BA b)) r := by
 by_cases h : ExprOk a ∧ ExprOk b
 ·obtain ⟨⟨h1, e1, g1⟩, h2, e2, g2⟩ := h
  exact ⟨_, specSame_yes g1 g2 h1 h2, implSame_yes g1 g2 h1 h2⟩
 ·exact ⟨_, specSame_no h, implSame_no h⟩
theorem FnExactSameExpr : laws_FnExactSameExpr.Pure := by
 intro a b ha hb
 refine Ev.rounds ?_
 obtain ⟨s, rfl⟩ : ∃ s, a = BA s := ⟨_, (BA_of a).symm⟩
 obtain ⟨t, rfl⟩ : ∃ t, b = BA t := ⟨_, (BA_of b).symm⟩
 obtain ⟨r, h1, h2⟩ := same_both s t
 unfold laws_FnExactSameExpr.f
 by_cases c1 : ((BA s).size : Int) > 1048576
 ·exact Ev.iteT c1 (Ev.some_ rfl)
 ·refine Ev.iteF c1 ?_
  by_cases c2 : ((BA t).size : Int) > 1048576
  ·exact Ev.iteT c2 (Ev.some_ rfl)
  ·exact Ev.iteF c2 (Ev.bind h1 (Ev.bind h2 (Ev.iteF (by simp) (Ev.some_ rfl))))

end Go.Proofs.Ytdllommmccgleaa.Pure
