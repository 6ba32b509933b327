/- The law FnTotalCost answers true for every code: TotalCost is what the reference says, and those of two parts add up. Its one condition: the code is a slice of bytes that fits into memory. -/
import Derived.Test.YtphjcoondlhefaaQx28
import Derived.Test.YtphjcoondlhefaaLFnTotalCost
namespace Go.Proofs.Ytphjcoondlhefaa.Pure
open Go.RowKit Go.Proofs.Ytphjcoondlhefaa.Q Go.Proofs.YtphjcoondlhefaaW.PrintWords Go.Proofs.YtphjcoondlhefaaW.PrintLast

theorem drawTotalCost_ev (c : List Int) (h : ∀ x ∈ c, 0 ≤ x ∧ x ≤ 255) : ∃ l q, Ev (fun k => spec_DrawTotalCost.f k c) (l, q) ∧ SmallIds l ∧ SmallPast q := by
  obtain ⟨b, hb, hc⟩ := newReader_ev c h
  obtain ⟨l, q, p', hl, hs, hq, _, _⟩ := orderPast_ev hc 0 (by omega) (by omega)
  refine ⟨l, q, ?_, hs, hq⟩
  unfold spec_DrawTotalCost.f
  exact Ev.bind0 hb (Ev.bind hl (Ev.some_ rfl))
theorem idsS_take {l : List ByteArray} (h : idsS l = true) (n : Nat) : idsS (l.take n) = true := by
  unfold idsS at *
  simp only [Bool.and_eq_true, decide_eq_true_eq, List.all_eq_true] at *
  exact ⟨fun x hx => h.1 x (List.mem_of_mem_take hx), by rw [List.length_take]; omega, h.2.2.sublist (List.take_sublist _ _)⟩
theorem idsS_drop {l : List ByteArray} (h : idsS l = true) (n : Nat) : idsS (l.drop n) = true := by
  unfold idsS at *
  simp only [Bool.and_eq_true, decide_eq_true_eq, List.all_eq_true] at *
  exact ⟨fun x hx => h.1 x (List.mem_of_mem_drop hx), by rw [List.length_drop]; omega, h.2.2.sublist (List.drop_sublist _ _)⟩

theorem FnTotalCost : laws_FnTotalCost.Pure := by
  intro l0 h1 h2 h3
  have hw : ∀ x ∈ l0, 0 ≤ x ∧ x ≤ 255 := fun x hx => wfByte (h3 x hx)
  refine Ev.rounds ?_
  unfold laws_FnTotalCost.f
  by_cases c1 : (l0.length : Int) > 1048576
  · exact Ev.iteT c1 (Ev.some_ rfl)
  · refine Ev.iteF c1 ?_
    obtain ⟨l, q, hd, hs, hq⟩ := drawTotalCost_ev l0 hw
    have hlen := hs.len
    have hqlen := hq.len
    have hi := implTotal_ev l q (by omega) hs.sizes (by omega) hq.sizes
    have hp := specTotal_ev l q (by omega) hs.sizes (by omega) hq.sizes
    refine Ev.bind hd (Ev.bind hi (Ev.bind hp (Ev.iteT rfl (Ev.step (fun k => rfl) ?_))))
    by_cases c2 : decide (totalS l q < 0) = true
    · exact Ev.iteT c2 (Ev.bind hp (Ev.some_ (by simp)))
    · have hg : goodS l q = true := by
        by_cases h : goodS l q = true
        · exact h
        · rw [totalS_no h] at c2
          simp at c2
      have hg2 := hg
      unfold goodS at hg2
      simp only [Bool.and_eq_true] at hg2
      have ew : wrap64 ((l.length : Int) / 2) = ((l.length / 2 : Nat) : Int) := by rw [wrapI (by omega)]; omega
      have ht := implTotal_ev (l.take (l.length / 2)) q (by rw [List.length_take]; omega) (fun x hx => hs.sizes x (List.mem_of_mem_take hx)) (by omega) hq.sizes
      have hr := implTotal_ev (l.drop (l.length / 2)) q (by rw [List.length_drop]; omega) (fun x hx => hs.sizes x (List.mem_of_mem_drop hx)) (by omega) hq.sizes
      have g1 : goodS (l.take (l.length / 2)) q = true := by simp [goodS, idsS_take hg2.1, hg2.2]
      have g2 : goodS (l.drop (l.length / 2)) q = true := by simp [goodS, idsS_drop hg2.1, hg2.2]
      refine Ev.iteF c2 (Ev.iteT (by rw [ew]; omega) (Ev.iteT (by rw [ew]; show ((l.length / 2 : Nat) : Int) ≤ (l.length : Int); omega) ?_))
      rw [ew, Int.toNat_natCast]
      refine Ev.bind ht (Ev.bind hr (Ev.some_ ?_))
      rw [totalS_yes g1, totalS_yes g2, totalS_yes hg, ← totalV_append, List.take_append_drop]
      have := totalV_bound hg2.2 l
      have := idsS_len hg2.1
      rw [wrapI (by omega)]
      simp

end Go.Proofs.Ytphjcoondlhefaa.Pure
