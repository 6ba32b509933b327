/- The law FnValidCovers answers true for every code: ValidCovers is what the reference says, and less than a valid list is valid. Its one condition: the code is a slice of bytes that fits into memory. -/
import Derived.Test.YtlnaejkbanpcjaaCx12
import Derived.Test.YtlnaejkbanpcjaaLFnValidCovers
namespace Go.Proofs.Ytlnaejkbanpcjaa.Pure
open Go.RowKit Go.Proofs.Ytlnaejkbanpcjaa.C Go.Proofs.YtlnaejkbanpcjaaW.PrintWords Go.Proofs.YtlnaejkbanpcjaaW.PrintLast

theorem drawValidCovers_ev (c : List Int) (h : ∀ x ∈ c, 0 ≤ x ∧ x ≤ 255) : ∃ l, Ev (fun k => spec_DrawValidCovers.f k c) l ∧ SmallCovers l := by
  obtain ⟨b, hb, hc⟩ := newReader_ev c h
  obtain ⟨R, p', hl, hs, _, _⟩ := someCovers_ev hc 0 (by omega) (by omega)
  refine ⟨R, ?_, hs⟩
  unfold spec_DrawValidCovers.f
  exact Ev.bind0 hb (Ev.bind hl (Ev.some_ rfl))

theorem FnValidCovers : laws_FnValidCovers.Pure := by
  intro l0 h1 h2 h3
  have hw : ∀ x ∈ l0, 0 ≤ x ∧ x ≤ 255 := fun x hx => wfByte (h3 x hx)
  refine Ev.rounds ?_
  unfold laws_FnValidCovers.f
  by_cases c1 : (l0.length : Int) > 1048576
  · exact Ev.iteT c1 (Ev.some_ rfl)
  · refine Ev.iteF c1 ?_
    obtain ⟨l, hd, hs⟩ := drawValidCovers_ev l0 hw
    have hi := implCovers_ev l hs.sizes
    have hp := SpecCovers_ev l hs.sizes
    have hlen := hs.len
    refine Ev.bind hd (Ev.bind hi (Ev.bind hp (Ev.iteF (by simp) (Ev.step (fun k => rfl) ?_))))
    by_cases c2 : (!coversS l) = true
    · exact Ev.iteT c2 (Ev.bind hp (Ev.some_ (by simp)))
    · refine Ev.iteF c2 ?_
      by_cases c3 : (l.length : Int) = 0
      · exact Ev.iteT c3 (Ev.some_ rfl)
      · have ew : wrap64 ((l.length : Int) - 1) = ((l.length - 1 : Nat) : Int) := by rw [wrapI (by omega)]; omega
        have ht := implCovers_ev (l.take (l.length - 1)) (hs.sizes.take _)
        rw [coversS_take (by simpa using c2)] at ht
        refine Ev.iteF c3 ?_
        rw [ew]
        refine Ev.iteT (by omega) (Ev.iteT (by omega) ?_)
        rw [Int.toNat_natCast]
        exact Ev.bind ht (Ev.some_ rfl)

end Go.Proofs.Ytlnaejkbanpcjaa.Pure
