/- The law FnNotExpr answers true for every code: not twice is as before. Its one condition: the code is data that fits into memory. -/
import Derived.Test.YtdllommmccgleaaEx8
import Derived.Test.YtdllommmccgleaaEx23
import Derived.Test.YtdllommmccgleaaLFnNotExpr
namespace Go.Proofs.Ytdllommmccgleaa.Pure
open Go.RowKit Go.Proofs.Ytdllommmccgleaa.E Go.Proofs.YtdllommmccgleaaW.PrintWords Go.Proofs.YtdllommmccgleaaW.PrintLast

theorem drawNot_ev (c : List Int) (h : ∀ x ∈ c, 0 ≤ x ∧ x ≤ 255) : ∃ s, Ev (fun k => spec_DrawNotExpr.f k c) s ∧ s.size ≤ 400 := by
 obtain ⟨b, hb, hc⟩ := newReader_ev c h
 obtain ⟨t, q, ht, hs, hq, hz⟩ := someExpr_ev hc 0 (by omega) (by omega)
 unfold spec_DrawNotExpr.f
 exact ⟨t, Ev.bind0 hb (Ev.bind ht (Ev.some_ rfl)), by omega⟩
theorem FnNotExpr : laws_FnNotExpr.Pure := by
 intro l hlen hlen2 hok
 refine Ev.rounds ?_
 obtain ⟨t, ht, hs⟩ := drawNot_ev l (fun x hx => wfByte (hok x hx))
 obtain ⟨s, rfl⟩ : ∃ s, t = BA s := ⟨_, (BA_of t).symm⟩
 have hz : (BA s).size = s.length := rfl
 unfold laws_FnNotExpr.f
 by_cases c1 : (l.length : Int) > 1048576
 ·exact Ev.iteT c1 (Ev.some_ rfl)
 ·obtain ⟨r, hr1, hr2, hr⟩ := notExpr_ev s (by omega)
  refine Ev.iteF c1 (Ev.bind ht (Ev.bind hr1 (Ev.bind hr2 (Ev.iteT rfl ?_))))
  refine Ev.step (fun k => by rw [laws_FnNotExpr.j0]) ?_
  rcases hr with ⟨⟨h1, e, h2⟩, ⟨h3, _⟩, rfl⟩ | ⟨_, rfl⟩
  ·have h4 : Parses (notT s) (.not e) := parses_not h2
   have hlen3 := notT_length s
   obtain ⟨q, hq1, _, hq⟩ := notExpr_ev (notT s) (by omega)
   have hsame : Ev (fun k => impl_SameExpr.f k (BA (notT s)) (BA s)) false := by
    have := implSame_yes h4 h2 h3 h1
    rwa [same_false (fun m l => by show (!(e.ev m l)) ≠ e.ev m l; cases e.ev m l <;> decide)] at this
   refine Ev.iteF (by rw [beq_iff_eq]; exact BA_ne) (Ev.bind hq1 (Ev.bind (implAtoms_yes h2 h1) (Ev.bind (implValid_yes h4 h3) (Ev.iteT rfl ?_))))
   rcases hq with ⟨_, ⟨h5, _⟩, rfl⟩ | ⟨_, rfl⟩
   ·have h6 : Parses (notT (notT s)) (.not (.not e)) := parses_not h4
    refine Ev.iteF BA_ne ?_
    by_cases c2 : ((e.at_ []).length : Int) ≤ 6
    ·refine Ev.iteT c2 ?_
     have hs2 := implSame_yes h6 h2 h5 h1
     rw [same_true (ea := .not (.not e)) (eb := e) (fun m l => by show (!(!(e.ev m l))) = e.ev m l; rw [Bool.not_not]) (by show (e.at_ (e.at_ [])).length ≤ 6; rw [at_old e _ (ws_in e [])]; omega)] at hs2
     exact Ev.bind hs2 (Ev.iteT rfl (Ev.bind hsame (Ev.some_ rfl)))
    ·exact Ev.iteF c2 (Ev.some_ rfl)
   ·refine Ev.iteT (toList_BA []) ?_
    by_cases c2 : ((e.at_ []).length : Int) ≤ 6
    ·exact Ev.iteT c2 (Ev.bind hsame (Ev.some_ rfl))
    ·exact Ev.iteF c2 (Ev.some_ rfl)
  ·exact Ev.iteT (by rw [toList_BA]; rfl) (Ev.bind hr2 (Ev.some_ (by simp)))

end Go.Proofs.Ytdllommmccgleaa.Pure
