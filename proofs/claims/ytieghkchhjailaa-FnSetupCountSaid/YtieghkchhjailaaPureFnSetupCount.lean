/- The law FnSetupCount answers true for every code: setups of all names together are all setups. Its one condition: the code's bytes are bytes. -/
import Derived.Test.YtieghkchhjailaaSx22
import Derived.Test.YtieghkchhjailaaLFnSetupCount
namespace Go.Proofs.Ytieghkchhjailaa.Pure
open Go.RowKit Go.Proofs.Ytieghkchhjailaa.S Go.Proofs.YtieghkchhjailaaW.PrintWords Go.Proofs.YtieghkchhjailaaW.PrintLast

theorem drawSetup_ev (c : List Int) (h : ∀ x ∈ c, 0 ≤ x ∧ x ≤ 255) : ∃ o s, Ev (fun k => spec_DrawSetupCount.f k c) (o, s) ∧ o.length ≤ 2000000 := by
 obtain ⟨b, hb, hc⟩ := newReader_ev c h
 obtain ⟨l, T, o, q, h1, h2, h3, h4⟩ := someEvents_ev hc
 obtain ⟨y, hy, he⟩ := of_ev hc q h3 (by omega) [(⟨#[100, 98]⟩ : ByteArray), (⟨#[116, 109, 112]⟩ : ByteArray), (⟨#[110, 101, 116]⟩ : ByteArray), (⟨#[110, 111]⟩ : ByteArray)] (by decide) (by decide)
 exact ⟨o, y, Ev.bind0 hb (Ev.bind h1 (Ev.bind he (Ev.some_ rfl))), h2⟩

theorem FnSetupCount : laws_FnSetupCount.Pure := by
 intro l0 _ _ h3
 refine Ev.rounds ?_
 unfold laws_FnSetupCount.f
 by_cases c1 : (l0.length : Int) > 1048576
 ·exact Ev.iteT c1 (Ev.some_ rfl)
 ·refine Ev.iteF c1 ?_
  obtain ⟨E, s, hd, hl⟩ := drawSetup_ev l0 (fun x hx => wfByte (h3 x hx))
  refine Ev.bind hd (Ev.bind (implCnt_ev E s hl) (Ev.bind (specCnt_ev E s hl) (Ev.iteT rfl ?_)))
  have := setupLaw_loop E hl E.length 0 [s] (by omega) (by simp) (fun e he => by simp at he)
  rw [ofV_one] at this
  exact this

end Go.Proofs.Ytieghkchhjailaa.Pure
