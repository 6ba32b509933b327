/- The law FnValidExpr answers true for every code: expressions may stand in brackets. Its one condition: the code is data that fits into memory. -/
import Derived.Test.YtdllommmccgleaaEx22
import Derived.Test.YtdllommmccgleaaLFnValidExpr
namespace Go.Proofs.Ytdllommmccgleaa.Pure
open Go.RowKit Go.Proofs.Ytdllommmccgleaa.E Go.Proofs.YtdllommmccgleaaW.PrintWords Go.Proofs.YtdllommmccgleaaW.PrintLast

theorem drawValid_ev (c : List Int) (h : ∀ x ∈ c, 0 ≤ x ∧ x ≤ 255) : ∃ s, Ev (fun k => spec_DrawValidExpr.f k c) s ∧ s.size ≤ 400 := by
 obtain ⟨b, hb, hc⟩ := newReader_ev c h
 obtain ⟨t, q, ht, hs, hq, hz⟩ := someExpr_ev hc 0 (by omega) (by omega)
 obtain ⟨v, hv, _, _⟩ := pick_ev hc q 3 hq (by omega) (by omega)
 unfold spec_DrawValidExpr.f
 by_cases e : v = 0
 ·obtain ⟨u, r, hu, us, _, _⟩ := mutx_ev hc (q + 1) (by omega) (by omega) t (by omega)
  exact ⟨u, Ev.bind0 hb (Ev.bind ht (Ev.bind hv (Ev.iteT e (Ev.bind hu (Ev.some_ rfl))))), by omega⟩
 ·exact ⟨t, Ev.bind0 hb (Ev.bind ht (Ev.bind hv (Ev.iteF e (Ev.some_ rfl)))), by omega⟩
theorem FnValidExpr : laws_FnValidExpr.Pure := by
 intro l hlen hlen2 hok
 refine Ev.rounds ?_
 obtain ⟨t, ht, hs⟩ := drawValid_ev l (fun x hx => wfByte (hok x hx))
 obtain ⟨s, rfl⟩ : ∃ s, t = BA s := ⟨_, (BA_of t).symm⟩
 have hz : (BA s).size = s.length := rfl
 unfold laws_FnValidExpr.f
 by_cases c1 : (l.length : Int) > 1048576
 ·exact Ev.iteT c1 (Ev.some_ rfl)
 ·refine Ev.iteF c1 (Ev.bind ht ?_)
  by_cases h : ExprOk s
  ·obtain ⟨h1, e, h2⟩ := h
   have hsp : Ev (fun k => spec_ValidExpr.f k (BA s)) true := by
    unfold spec_ValidExpr.f
    exact Ev.bind (specValid_yes h2 h1) (Ev.some_ rfl)
   refine Ev.bind (implValid_yes h2 h1) (Ev.bind hsp (Ev.iteF (by simp) ?_))
   refine Ev.step (fun k => by rw [laws_FnValidExpr.j0]) ?_
   refine Ev.iteF (by simp) (Ev.iteT (by omega) (Ev.iteT (by omega) ?_))
   by_cases c2 : (1 + ((BA s).size : Int) + 1) > 60
   ·exact Ev.iteT c2 (Ev.some_ rfl)
   ·refine Ev.iteF c2 ?_
    rw [paren_text]
    have h3 : (40 :: (s ++ [41])).length ≤ 60 := by simp; omega
    have h4 := parses_paren h2
    refine Ev.bind (implValid_yes h4 h3) (Ev.iteT rfl (Ev.bind (implAtoms_yes h2 h1) ?_))
    by_cases c3 : ((e.at_ []).length : Int) > 6
    ·exact Ev.iteT c3 (Ev.some_ rfl)
    ·refine Ev.iteF c3 (Ev.bind (implSame_yes h2 h4 h1 h3) (Ev.some_ ?_))
     exact same_true (fun _ _ => rfl) (by rw [at_old e _ (ws_in e [])]; omega)
  ·have hsp : Ev (fun k => spec_ValidExpr.f k (BA s)) false := by
    unfold spec_ValidExpr.f
    exact Ev.bind (specValid_no h) (Ev.some_ rfl)
   refine Ev.bind (implValid_no h) (Ev.bind hsp (Ev.iteF (by simp) ?_))
   refine Ev.step (fun k => by rw [laws_FnValidExpr.j0]) ?_
   exact Ev.iteT rfl (Ev.bind hsp (Ev.some_ rfl))

end Go.Proofs.Ytdllommmccgleaa.Pure
