/- The law FnValidCauses answers true for every code: ValidCauses is what the reference says, each cause of a valid list fails, and less than a valid list is valid. Its one condition: the code is a slice of bytes that fits into memory. -/
import Derived.Test.YtlnaejkbanpcjaaDx6
import Derived.Test.YtlnaejkbanpcjaaDx7
import Derived.Test.YtlnaejkbanpcjaaLFnValidCauses
namespace Go.Proofs.Ytlnaejkbanpcjaa.Pure
open Go.RowKit Go.Proofs.Ytlnaejkbanpcjaa.D Go.Proofs.YtlnaejkbanpcjaaW.PrintWords Go.Proofs.YtlnaejkbanpcjaaW.PrintLast

theorem drawValidCauses_ev (c : List Int) (h : ∀ x ∈ c, 0 ≤ x ∧ x ≤ 255) : ∃ l, Ev (fun k => spec_DrawValidCauses.f k c) l ∧ SmallCauses l := by
  obtain ⟨b, hb, hc⟩ := newReader_ev c h
  obtain ⟨R, p', hl, hs, _, _⟩ := someCauses_ev hc 0 (by omega) (by omega)
  refine ⟨R, ?_, hs⟩
  unfold spec_DrawValidCauses.f
  exact Ev.bind0 hb (Ev.bind hl (Ev.some_ rfl))
theorem causesS_take {l : List (List ByteArray)} (h : causesS l = true) (n : Nat) : causesS (l.take n) = true := by
  unfold causesS at *
  simp only [Bool.and_eq_true, decide_eq_true_eq, List.all_eq_true] at *
  exact ⟨fun c hc => h.1 c (List.mem_of_mem_take hc), by rw [List.length_take]; omega⟩
theorem validCauses_l0 (l : List (List ByteArray)) (hs : SmallCauses l) (h : causesS l = true) (hfin : ∀ i : Int, ¬ i < (l.length : Int) → Ev (fun k => laws_FnValidCauses.l0 k l i) true) : ∀ (d i : Nat), i + d = l.length → Ev (fun k => laws_FnValidCauses.l0 k l (i : Int)) true := by
  have hlen := hs.len
  intro d
  induction d with
  | zero => intro i hd; exact hfin _ (by omega)
  | succ d ih =>
    intro i hd
    have hi : i < l.length := by omega
    have hm := List.getElem_mem hi
    have hsm := hs.all _ hm
    have hf := implFailsWith_ev l l[i] hs.sizes (by have := hsm.1; omega) hsm.sizes
    have hcs := h
    unfold causesS causeS at hcs
    simp only [Bool.and_eq_true, decide_eq_true_eq, List.all_eq_true] at hcs
    have e : failsS l l[i] = true := by
      unfold failsS
      rw [h, (hcs.1 _ hm).2]
      simp only [Bool.and_self, Bool.true_and]
      rw [List.any_eq_true]
      refine ⟨_, hm, ?_⟩
      rw [List.all_eq_true]
      exact fun x hx => memB_iff.2 hx
    refine Ev.step (fun k => rfl) (Ev.iteT (by omega) (Ev.iteT (by omega) ?_))
    rw [rdL_nat _ _ hi, wrapN (by omega)]
    exact Ev.bind hf (Ev.iteT e (ih (i + 1) (by omega)))

theorem FnValidCauses : laws_FnValidCauses.Pure := by
  intro l0 h1 h2 h3
  have hw : ∀ x ∈ l0, 0 ≤ x ∧ x ≤ 255 := fun x hx => wfByte (h3 x hx)
  refine Ev.rounds ?_
  unfold laws_FnValidCauses.f
  by_cases c1 : (l0.length : Int) > 1048576
  · exact Ev.iteT c1 (Ev.some_ rfl)
  · refine Ev.iteF c1 ?_
    obtain ⟨l, hd, hs⟩ := drawValidCauses_ev l0 hw
    have hi := implCauses_ev l hs.sizes
    have hp := SpecCauses_ev l hs.sizes
    have hlen := hs.len
    refine Ev.bind hd (Ev.bind hi (Ev.bind hp (Ev.iteF (by simp) (Ev.step (fun k => rfl) ?_))))
    by_cases c2 : (!causesS l) = true
    · exact Ev.iteT c2 (Ev.bind hp (Ev.some_ (by simp)))
    · refine Ev.iteF c2 ?_
      have hg : causesS l = true := by simpa using c2
      refine validCauses_l0 l hs hg (fun i hi => Ev.step (fun k => rfl) (Ev.iteF hi ?_)) l.length 0 (by omega)
      by_cases c3 : (l.length : Int) = 0
      · exact Ev.iteT c3 (Ev.some_ rfl)
      · have ew : wrap64 ((l.length : Int) - 1) = ((l.length - 1 : Nat) : Int) := by rw [wrapI (by omega)]; omega
        have hst : SmallCauses (l.take (l.length - 1)) := ⟨by rw [List.length_take]; omega, fun c hc => hs.all c (List.mem_of_mem_take hc)⟩
        have ht := implCauses_ev (l.take (l.length - 1)) hst.sizes
        rw [causesS_take hg] at ht
        refine Ev.iteF c3 ?_
        rw [ew]
        refine Ev.iteT (by omega) (Ev.iteT (by omega) ?_)
        rw [Int.toNat_natCast]
        exact Ev.bind ht (Ev.some_ rfl)

end Go.Proofs.Ytlnaejkbanpcjaa.Pure
