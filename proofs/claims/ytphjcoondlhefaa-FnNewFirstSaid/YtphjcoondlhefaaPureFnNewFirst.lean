/- The law FnNewFirst answers true for every code: NewFirst is what the reference says, no test of a name in the past stands ahead of a new one, and nothing is lost. Its one condition: the code is a slice of bytes that fits into memory. -/
import Derived.Test.YtphjcoondlhefaaQx0
import Derived.Test.YtphjcoondlhefaaQx33
import Derived.Test.YtphjcoondlhefaaLFnNewFirst
namespace Go.Proofs.Ytphjcoondlhefaa.Pure
open Go.RowKit Go.Proofs.Ytphjcoondlhefaa.Q Go.Proofs.YtphjcoondlhefaaW.PrintWords Go.Proofs.YtphjcoondlhefaaW.PrintLast

theorem drawNewFirst_ev (c : List Int) (h : ∀ x ∈ c, 0 ≤ x ∧ x ≤ 255) : ∃ l q, Ev (fun k => spec_DrawNewFirst.f k c) (l, q) ∧ SmallIds l ∧ SmallPast q := by
  obtain ⟨b, hb, hc⟩ := newReader_ev c h
  obtain ⟨l, q, p', hl, hs, hq, _, _⟩ := orderPast_ev hc 0 (by omega) (by omega)
  refine ⟨l, q, ?_, hs, hq⟩
  unfold spec_DrawNewFirst.f
  exact Ev.bind0 hb (Ev.bind hl (Ev.some_ rfl))
theorem newFirst_l1 (l : List ByteArray) (p : List S54) (r : List ByteArray) (hr : r = partS (newQ p) l) (hn : r.length ≤ 1000) (hp : p.length ≤ 4611686018427387903) (hfin : ∀ i : Int, ¬ i < (r.length : Int) → Ev (fun k => laws_FnNewFirst.l1 k l p r (p.map (·.f0)) i) true) : ∀ (d i : Nat), i + d = r.length → Ev (fun k => laws_FnNewFirst.l1 k l p r (p.map (·.f0)) ((i : Int) + 1)) true := by
  intro d
  induction d with
  | zero =>
    intro i hd
    exact hfin _ (by omega)
  | succ d ih =>
    intro i hd
    by_cases hi : i + 1 < r.length
    · have hl : (p.map (·.f0)).length ≤ 4611686018427387903 := by rw [List.length_map]; exact hp
      have h1 := lawHasText_ev (p.map (·.f0)) r[i] hl
      have h2 := lawHasText_ev (p.map (·.f0)) r[i + 1] hl
      have ew : wrap64 ((i : Int) + 1 - 1) = (i : Int) := by rw [wrapI (by omega)]; omega
      have en : (i : Int) + 1 = ((i + 1 : Nat) : Int) := by omega
      have ep : wrap64 ((i : Int) + 1 + 1) = ((i + 1 : Nat) : Int) + 1 := by rw [wrapI (by omega)]; omega
      have := ih (i + 1) (by omega)
      refine Ev.step (fun k => rfl) (Ev.iteT (by omega) ?_)
      rw [ew]
      refine Ev.iteT (by omega) (Ev.iteT (by omega) ?_)
      rw [rdOf_nat _ _ _ (by omega)]
      refine Ev.bind h1 ?_
      by_cases hq : memB (p.map (·.f0)) r[i] = true
      · refine Ev.iteT hq (Ev.iteT (by omega) ?_)
        rw [ep]
        rw [en, rdOf_nat _ _ _ hi]
        refine Ev.bind h2 (Ev.iteT ?_ this)
        rw [newQ_mem] at hq ⊢
        subst hr
        rw [partS_falls (newQ p) l i hi (by simpa using hq)]
        rfl
      · refine Ev.iteF hq ?_
        rw [ep]
        exact this
    · exact hfin _ (by omega)
theorem newFirst_l0 (l : List ByteArray) (p : List S54) (r : List ByteArray) (hp : p.length ≤ 100000) (h1 : Ev (fun k => laws_FnNewFirst.l1 k l p r (p.map (·.f0)) 1) true) : ∀ (d i : Nat), i + d = p.length →
    Ev (fun k => laws_FnNewFirst.l0 k l p r ((p.take i).map (·.f0)) (i : Int)) true := by
  intro d
  induction d with
  | zero =>
    intro i hd
    rw [List.take_of_length_le (by omega)]
    exact Ev.step (fun k => rfl) (Ev.iteF (by omega) h1)
  | succ d ih =>
    intro i hd
    have hi : i < p.length := by omega
    refine Ev.step (fun k => rfl) (Ev.iteT (by omega) (Ev.iteT (by omega) (Ev.iteT (by rw [List.length_map, List.length_take]; omega) ?_)))
    rw [wrapN (by omega), rdP_nat p i hi]
    have := ih (i + 1) (by omega)
    rw [List.take_succ_eq_append_getElem hi, List.map_append] at this
    exact this

theorem FnNewFirst : laws_FnNewFirst.Pure := by
  intro l0 h1 h2 h3
  have hw : ∀ x ∈ l0, 0 ≤ x ∧ x ≤ 255 := fun x hx => wfByte (h3 x hx)
  refine Ev.rounds ?_
  unfold laws_FnNewFirst.f
  by_cases c1 : (l0.length : Int) > 1048576
  · exact Ev.iteT c1 (Ev.some_ rfl)
  · refine Ev.iteF c1 ?_
    obtain ⟨l, q, hd, hs, hq⟩ := drawNewFirst_ev l0 hw
    have hlen := hs.len
    have hqlen := hq.len
    have hi := implNewFirst_ev l q (by omega) hs.sizes (by omega) hq.sizes
    have hp := specNewFirst_ev l q (by omega) hs.sizes (by omega) hq.sizes
    have hfl : (firstS (newQ q) l q).length ≤ l.length := by
      unfold firstS
      split
      · rw [partS_len]; exact Nat.le_refl _
      · exact Nat.zero_le _
    have he := equalTexts_ev (firstS (newQ q) l q) (by omega)
    refine Ev.bind hd (Ev.bind hi (Ev.bind hp (Ev.bind he (Ev.iteT rfl (Ev.step (fun k => rfl) ?_)))))
    by_cases c2 : (((firstS (newQ q) l q).length : Int) == 0) = true
    · exact Ev.iteT c2 (Ev.bind hp (Ev.bind he (Ev.some_ rfl)))
    · refine Ev.iteF c2 ?_
      have hg : goodS l q = true := by
        by_cases h : goodS l q = true
        · exact h
        · rw [firstS_no h] at c2
          exact absurd rfl c2
      have hg2 := hg
      unfold goodS at hg2
      simp only [Bool.and_eq_true] at hg2
      have hbig := idsS_len hg2.1
      have hi2 := implNewFirst_ev (firstS (newQ q) l q) q (by omega) (fun x hx => by rw [firstS_yes hg] at hx; exact hs.sizes x (partS_mem.1 hx)) (by omega) hq.sizes
      have hi3 := implNewFirst_ev l [] (by omega) hs.sizes (by simp) (fun q hq => by cases hq)
      have hfe := firstS_yes (q := newQ q) hg
      have hg3 : goodS (firstS (newQ q) l q) q = true := by
        rw [hfe]
        unfold goodS
        rw [idsS_partS hg2.1, hg2.2]
        rfl
      have hg4 : goodS l [] = true := by
        unfold goodS
        rw [hg2.1]
        rfl
      rw [firstS_yes hg3, hfe, partS_partS] at hi2
      rw [firstS_yes hg4, partS_all (q := newQ []) (fun x _ => rfl)] at hi3
      rw [hfe] at he hfl ⊢
      have hl1 := newFirst_l1 l q _ rfl (by omega) (by omega) (fun i hi => Ev.step (fun k => rfl) (Ev.iteF hi
        (Ev.bind (sameTexts_ev (partS (newQ q) l) l (by omega) (partS_len _ _) (fun x => partS_mem)) (Ev.iteT rfl (Ev.bind hi2 (Ev.bind he (Ev.iteT rfl (Ev.bind hi3 (Ev.bind (equalTexts_ev l (by omega)) (Ev.some_ rfl)))))))))) (partS (newQ q) l).length 0 (by omega)
      exact newFirst_l0 l q _ (by omega) hl1 q.length 0 (by omega)

end Go.Proofs.Ytphjcoondlhefaa.Pure
