/- The law FnOrExpr answers true for every code: one of both must hold. Its one condition: the code is data that fits into memory. -/
import Derived.Test.YtdllommmccgleaaEx24
import Derived.Test.YtdllommmccgleaaLFnOrExpr
namespace Go.Proofs.Ytdllommmccgleaa.Pure
open Go.RowKit Go.Proofs.Ytdllommmccgleaa.E Go.Proofs.YtdllommmccgleaaW.PrintWords Go.Proofs.YtdllommmccgleaaW.PrintLast

theorem drawOr_ev (c : List Int) (h : ∀ x ∈ c, 0 ≤ x ∧ x ≤ 255) : ∃ s t, Ev (fun k => spec_DrawOrExpr.f k c) (s, t) ∧ s.size ≤ 400 ∧ t.size ≤ 400 := by
 obtain ⟨s, t, h1, h2, h3⟩ := drawAnd_ev c h
 unfold spec_DrawOrExpr.f
 exact ⟨s, t, Ev.bind h1 (Ev.some_ rfl), h2, h3⟩
theorem FnOrExpr : laws_FnOrExpr.Pure := by
 intro l hlen hlen2 hok
 refine Ev.rounds ?_
 obtain ⟨ta, tb, ht, hsa, hsb⟩ := drawOr_ev l (fun x hx => wfByte (hok x hx))
 obtain ⟨a, rfl⟩ : ∃ s, ta = BA s := ⟨_, (BA_of ta).symm⟩
 obtain ⟨b, rfl⟩ : ∃ s, tb = BA s := ⟨_, (BA_of tb).symm⟩
 have hza : (BA a).size = a.length := rfl
 have hzb : (BA b).size = b.length := rfl
 unfold laws_FnOrExpr.f
 by_cases c1 : (l.length : Int) > 1048576
 ·exact Ev.iteT c1 (Ev.some_ rfl)
 ·obtain ⟨r, hr1, hr2, hr⟩ := orExpr_ev a b (by omega) (by omega)
  refine Ev.iteF c1 (Ev.bind ht (Ev.bind hr1 (Ev.bind hr2 (Ev.iteT rfl ?_))))
  rcases hr with ⟨⟨h1, ea, h2⟩, ⟨h3, eb, h4⟩, ⟨h5, _⟩, rfl⟩ | ⟨_, rfl⟩
  ·have h6 : Parses (orT a b) (.or ea eb) := parses_or h2 h4
   refine Ev.iteF BA_ne (Ev.bind (implAtoms_yes h6 h5) ?_)
   refine Ev.step (fun k => by rw [laws_FnOrExpr.j0]) ?_
   by_cases c2 : (((Ex.or ea eb).at_ []).length : Int) > 6
   ·exact Ev.iteT (decide_eq_true c2) (Ev.bind hr2 (Ev.some_ (by simp)))
   ·refine Ev.iteF (by simpa using c2) ?_
    have hAB : ((Ex.or ea eb).at_ []) = eb.at_ (ea.at_ []) := rfl
    have hsz := orT_length a b
    have hsz2 := orT_length b a
    have hsz3 := orT_length a a
    obtain ⟨u, hu1, _, hu⟩ := orExpr_ev a a (by omega) (by omega)
    obtain ⟨v, hv1, _, hv⟩ := orExpr_ev b a (by omega) (by omega)
    have h7 : Parses (orT b a) (.or eb ea) := parses_or h4 h2
    have hv2 : v = BA (orT b a) := by
     rcases hv with ⟨_, _, _, e⟩ | ⟨n, _⟩
     ·exact e
     ·exact absurd ⟨⟨h3, eb, h4⟩, ⟨h1, ea, h2⟩, ⟨by omega, _, h7⟩⟩ n
    subst hv2
    have hws : ∀ x ∈ (Ex.or eb ea).ws, x ∈ (Ex.or ea eb).at_ [] := by
     intro x hx
     refine ws_in _ _ x ?_
     rcases List.mem_append.1 hx with hx | hx
     ·exact List.mem_append_right _ hx
     ·exact List.mem_append_left _ hx
    have hsame := implSame_yes h6 h7 h5 (by omega)
    rw [same_true (ea := .or ea eb) (eb := .or eb ea) (fun m l => Bool.or_comm _ _) (by rw [at_old (.or eb ea) _ hws]; omega)] at hsame
    refine Ev.bind hu1 (Ev.bind hv1 (Ev.bind hsame (Ev.iteT rfl ?_)))
    rcases hu with ⟨_, _, ⟨h8, _⟩, rfl⟩ | ⟨_, rfl⟩
    ·have h9 : Parses (orT a a) (.or ea ea) := parses_or h2 h2
     have hg := at_grows eb (ea.at_ [])
     have hs2 := implSame_yes h9 h2 h8 h1
     have he : ea.at_ ((Ex.or ea ea).at_ []) = ea.at_ [] := by
      show ea.at_ (ea.at_ (ea.at_ [])) = ea.at_ []
      rw [at_old ea (ea.at_ []) (ws_in ea []), at_old ea (ea.at_ []) (ws_in ea [])]
     rw [same_true (ea := .or ea ea) (eb := ea) (fun m l => Bool.or_self _) (by rw [he]; rw [hAB] at c2; omega)] at hs2
     exact Ev.iteF BA_ne (Ev.bind hs2 (Ev.some_ rfl))
    ·exact Ev.iteT (toList_BA []) (Ev.some_ rfl)
  ·refine Ev.iteT (toList_BA []) ?_
   refine Ev.step (fun k => by rw [laws_FnOrExpr.j0]) ?_
   exact Ev.iteT rfl (Ev.bind hr2 (Ev.some_ (by simp)))

end Go.Proofs.Ytdllommmccgleaa.Pure
