/- The law FnExactFailedFirst answers true for all arguments: FailedFirst of the program is that of the reference, and the arguments stay. Its one condition: the arguments are data that fit into memory. -/
import Derived.Test.YtphjcoondlhefaaQx26
import Derived.Test.YtphjcoondlhefaaLFnExactFailedFirst
import Derived.Test.YtphjcoondlhefaaPuFnExactFailedFirst
namespace Go.Proofs.Ytphjcoondlhefaa.Pure
open Go.RowKit Go.Proofs.Ytphjcoondlhefaa.Q Go.Proofs.YtphjcoondlhefaaW.PrintWords Go.Proofs.YtphjcoondlhefaaW.PrintLast

theorem FnExactFailedFirst : laws_FnExactFailedFirst.Pure := by
  intro ids l0 i1 i2 h1 h2
  refine Ev.rounds ?_
  unfold laws_FnExactFailedFirst.f
  obtain ⟨r, hr, hr2, hf⟩ := szStringS_ev ids i1 i2 1048576 (by omega) (by omega)
  refine Ev.bind hr ?_
  by_cases c : r < 0
  · exact Ev.iteT c (Ev.some_ rfl)
  · refine Ev.iteF c ?_
    have few := hf (by omega)
    obtain ⟨r2, hr2, _, hf2⟩ := szPastS_ev l0 h1 (fun q hq => (h2 q hq).1) r (by omega) hr2
    refine Ev.bind hr2 ?_
    by_cases c2 : r2 < 0
    · exact Ev.iteT c2 (Ev.some_ rfl)
    · refine Ev.iteF c2 ?_
      have hfew := hf2 (by omega)
      have ht := toPastS_ev l0 hfew.len
      have hts := toStringS_ev ids few.len
      obtain ⟨s1, s2⟩ := hfew.small
      have hlen := few.len
      have hlen2 := hfew.len
      have hs : PastSizes (l0.map toP) := fun q hq => by have := s2 q hq; omega
      have e1 := eqStringS_ev ids (by omega)
      have hsp := specFailedFirst_ev ids (l0.map toP) (by omega) few.sizes (by omega) hs
      have him := implFailedFirst_ev ids (l0.map toP) (by omega) few.sizes (by omega) hs
      have hfl : (firstS (failedQ (l0.map toP)) ids (l0.map toP)).length ≤ ids.length := by
        unfold firstS
        split
        · rw [partS_len]; exact Nat.le_refl _
        · exact Nat.zero_le _
      have e2 := eqStringS_ev (firstS (failedQ (l0.map toP)) ids (l0.map toP)) (by omega)
      obtain ⟨m1, hm1, _, _⟩ := markStringS_ev ids 1 (by omega) (by omega)
      obtain ⟨m2, hm2⟩ := markPastS_ev (l0.map toP) (1 + ids.length) (by omega) (by rw [List.length_map]; omega)
      obtain ⟨m3, hm3, hm3l, hm3h⟩ := markStringS_ev (firstS (failedQ (l0.map toP)) ids (l0.map toP)) 1 (by omega) (by omega)
      have hh3 := heldStringS_ev m3 1 (by omega) (by omega) hm3h
      rw [hm3l] at hh3
      have hj : ∀ b : Bool, b = true → Ev (fun k => laws_FnExactFailedFirst.j0 k ids l0 (firstS (failedQ (l0.map toP)) ids (l0.map toP)) (firstS (failedQ (l0.map toP)) ids (l0.map toP)) (!b)) true := by
        intro b hb
        refine Ev.step (fun k => rfl) (Ev.iteF (by simp [hb]) ?_)
        exact (Ev.bind hm3 (Ev.bind hh3 (Ev.iteF (by omega) (Ev.iteT rfl (Ev.bind hts (Ev.bind ht (Ev.bind him (Ev.bind e2 (Ev.iteT rfl (Ev.bind hh3 (Ev.iteF (by omega) (Ev.iteT rfl (Ev.some_ rfl)))))))))))))
      refine Ev.bind hts (Ev.bind ht (Ev.bind hsp (Ev.bind hts (Ev.bind ht (Ev.bind him (Ev.bind e2 (Ev.iteT rfl (Ev.bind hts (Ev.bind e1 (Ev.iteT rfl (Ev.bind ht (Ev.bind (eqPastS_ev _ s1) (Ev.iteT rfl (Ev.bind hm1 (Ev.bind hm2 (Ev.iteF (by simp only; omega) (Ev.bind e2 ?_)))))))))))))))))
      exact hj true rfl

end Go.Proofs.Ytphjcoondlhefaa.Pure
