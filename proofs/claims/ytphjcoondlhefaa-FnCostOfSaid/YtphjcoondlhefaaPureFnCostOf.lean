/- The law FnCostOf answers true for every code: CostOf is what the reference says, TotalCost of the test alone, and 1 where nothing is known. Its one condition: the code is a slice of bytes that fits into memory. -/
import Derived.Test.YtphjcoondlhefaaQx0
import Derived.Test.YtphjcoondlhefaaQx23
import Derived.Test.YtphjcoondlhefaaLFnCostOf
namespace Go.Proofs.Ytphjcoondlhefaa.Pure
open Go.RowKit Go.Proofs.Ytphjcoondlhefaa.Q Go.Proofs.YtphjcoondlhefaaW.PrintWords Go.Proofs.YtphjcoondlhefaaW.PrintLast

theorem drawCostOf_ev (c : List Int) (h : ∀ x ∈ c, 0 ≤ x ∧ x ≤ 255) : ∃ l x, Ev (fun k => spec_DrawCostOf.f k c) (l, x) ∧ SmallPast l ∧ x.size = 3 := by
  obtain ⟨b, hb, hc⟩ := newReader_ev c h
  obtain ⟨l, p', hl, hs, h0, h1⟩ := somePast_ev hc 0 (by omega) (by omega)
  obtain ⟨x, hx, he⟩ := anId_ev hc p' h0 (by omega)
  refine ⟨l, x, ?_, hs, hx⟩
  unfold spec_DrawCostOf.f
  exact Ev.bind0 hb (Ev.bind hl (Ev.bind he (Ev.some_ rfl)))

theorem FnCostOf : laws_FnCostOf.Pure := by
  intro l0 h1 h2 h3
  have hw : ∀ x ∈ l0, 0 ≤ x ∧ x ≤ 255 := fun x hx => wfByte (h3 x hx)
  refine Ev.rounds ?_
  unfold laws_FnCostOf.f
  by_cases c1 : (l0.length : Int) > 1048576
  · exact Ev.iteT c1 (Ev.some_ rfl)
  · refine Ev.iteF c1 ?_
    obtain ⟨l, x, hl, hs, hx⟩ := drawCostOf_ev l0 hw
    have hlen := hs.len
    have hi := implCost_ev l (by omega) hs.sizes x
    have hp := specCost_ev l (by omega) hs.sizes x
    refine Ev.bind hl (Ev.bind hi (Ev.bind hp (Ev.iteT rfl (Ev.step (fun k => rfl) ?_))))
    by_cases c2 : decide (costR l x < 0) = true
    · exact Ev.iteT c2 (Ev.bind hp (Ev.some_ (by simp)))
    · have hv : pastS l = true := by
        by_cases h : pastS l = true
        · exact h
        · rw [costR_no h] at c2
          simp at c2
      have ht := implTotal_ev [x] l (by simp) (fun y hy => by rw [List.mem_singleton.1 hy]; show x.size ≤ _; omega) (by omega) hs.sizes
      have hn := implCost_ev [] (by simp) (fun y hy => by cases hy) x
      have e0 : costR ([] : List S54) x = 1 := costR_yes (by rfl) x
      rw [e0] at hn
      refine Ev.iteF c2 (Ev.bind ht ?_)
      by_cases c3 : totalS [x] l < 0
      · exact Ev.iteT c3 (Ev.bind hn (Ev.some_ rfl))
      · have hg : goodS [x] l = true := by
          by_cases h : goodS [x] l = true
          · exact h
          · rw [totalS_no h] at c3
            omega
        refine Ev.iteF c3 (Ev.iteT ?_ (Ev.bind hn (Ev.some_ rfl)))
        rw [totalS_yes hg, costR_yes hv]
        simp [totalV]

end Go.Proofs.Ytphjcoondlhefaa.Pure
