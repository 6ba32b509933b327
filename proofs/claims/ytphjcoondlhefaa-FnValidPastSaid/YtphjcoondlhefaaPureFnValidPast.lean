/- The law FnValidPast answers true for every code: what program and reference ask of a past is the same, and it can be cut. Its one condition: the code is a slice of bytes that fits into memory. -/
import Derived.Test.YtphjcoondlhefaaQx7
import Derived.Test.YtphjcoondlhefaaLibA
import Derived.Test.YtphjcoondlhefaaLibD
import Derived.Test.YtphjcoondlhefaaLibP
import Derived.Test.YtphjcoondlhefaaLibPD
import Derived.Test.YtphjcoondlhefaaDrawValidPast
namespace Go.Proofs.Ytphjcoondlhefaa.Pure
open Go.RowKit Go.Proofs.Ytphjcoondlhefaa.Q Go.Proofs.YtphjcoondlhefaaW.PrintWords Go.Proofs.YtphjcoondlhefaaW.PrintLast

theorem FnValidPast : laws_FnValidPast.Pure := by
  intro l0 h1 h2 h3
  have hw : ∀ x ∈ l0, 0 ≤ x ∧ x ≤ 255 := fun x hx => wfByte (h3 x hx)
  refine Ev.rounds ?_
  unfold laws_FnValidPast.f
  by_cases c1 : (l0.length : Int) > 1048576
  · exact Ev.iteT c1 (Ev.some_ rfl)
  · refine Ev.iteF c1 ?_
    obtain ⟨l, hl, hs⟩ := drawValidPast_ev l0 hw
    have hlen := hs.len
    have hi := validPastI_ev l (by omega) hs.sizes
    have hp := ValidPastS_ev l (by omega) hs.sizes
    refine Ev.bind hl (Ev.bind hi (Ev.bind hp (Ev.iteF (by simp) ?_)))
    refine Ev.step (fun k => rfl) ?_
    by_cases c2 : (!pastS l) = true
    · refine Ev.iteT c2 (Ev.bind hp (Ev.some_ ?_))
      simp
    · refine Ev.iteF c2 ?_
      have hv : pastS l = true := by simpa using c2
      by_cases c2 : (l.length : Int) = 0
      · exact Ev.iteT c2 (Ev.some_ rfl)
      · have ew : wrap64 ((l.length : Int) - 1) = ((l.length - 1 : Nat) : Int) := by rw [wrapI (by omega)]; omega
        rw [ew]
        refine Ev.iteF c2 (Ev.iteT (by omega) (Ev.iteT (by omega) ?_))
        rw [Int.toNat_natCast]
        have := validPastI_ev (l.take (l.length - 1)) (by rw [List.length_take]; omega) (fun q hq => hs.sizes q (List.mem_of_mem_take hq))
        exact Ev.bind this (Ev.some_ (pastS_take l _ hv))

end Go.Proofs.Ytphjcoondlhefaa.Pure
