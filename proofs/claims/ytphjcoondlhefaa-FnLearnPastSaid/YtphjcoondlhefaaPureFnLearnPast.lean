/- The law FnLearnPast answers true for every code: LearnPast is what the reference says, keeps ids and costs, and knows the last result. Its one condition: the code is a slice of bytes that fits into memory. -/
import Derived.Test.YtphjcoondlhefaaXx0
import Derived.Test.YtphjcoondlhefaaXx7
import Derived.Test.YtphjcoondlhefaaXx10
import Derived.Test.YtphjcoondlhefaaLFnLearnPast
namespace Go.Proofs.Ytphjcoondlhefaa.Pure
open Go.RowKit Go.Proofs.Ytphjcoondlhefaa.X Go.Proofs.YtphjcoondlhefaaW.PrintWords Go.Proofs.YtphjcoondlhefaaW.PrintLast

theorem drawLearnPast_ev (c : List Int) (h : ∀ x ∈ c, 0 ≤ x ∧ x ≤ 255) : ∃ q rs ds, Ev (fun k => spec_DrawLearnPast.f k c) (q, rs, ds) ∧ SmallPast q ∧ SmallRes rs := by
  obtain ⟨b, hb, hc⟩ := newReader_ev c h
  obtain ⟨q, p', hq, hs, g0, g1⟩ := somePast_ev hc 0 (by omega) (by omega)
  obtain ⟨rs, ds, p2, hr, hs2, _, _, _⟩ := someReport_ev hc p' g0 (by omega)
  refine ⟨q, rs, ds, ?_, hs, hs2⟩
  unfold spec_DrawLearnPast.f
  exact Ev.bind0 hb (Ev.bind hq (Ev.bind hr (Ev.some_ rfl)))
theorem learnPast_l1 (out : List S54) (rs : List S56) (ds : List ByteArray) (n : Nat) (hn : n < rs.length) (hl : out.length ≤ 4611686018427387903) : ∀ (t : List S54) (i : Nat), out.drop i = t → i ≤ out.length → failedV (rs[n]).f0 t = badO (rs[n]).f1 → (∃ q ∈ t, q.f0 = (rs[n]).f0) →
    Ev (fun k => laws_FnLearnPast.l1 k out (n : Int) (i : Int) rs ds) true := by
  intro t
  induction t with
  | nil => intro i _ _ _ h; obtain ⟨q, hq, _⟩ := h; cases hq
  | cons a t ih =>
    intro i h hi h1 h2
    obtain ⟨hl2, hb, ht⟩ := drop_cons h
    refine Ev.step (fun k => rfl) (Ev.iteT (by omega) (Ev.iteT (by omega) (Ev.iteT (by omega) (Ev.iteT (by omega) ?_))))
    rw [rdP_nat _ _ hl2, hb, rdR_nat _ _ hn, wrapN (by omega)]
    have h1' : (if a.f0 = (rs[n]).f0 then a.f1 else failedV (rs[n]).f0 t) = badO (rs[n]).f1 := h1
    by_cases c : a.f0 = (rs[n]).f0
    · rw [if_pos c] at h1'
      refine Ev.iteT (by rw [c]) ?_
      unfold badO at h1'
      by_cases c2 : (rs[n]).f1 = 1
      · rw [if_pos c2] at h1'
        exact Ev.iteT c2 (Ev.some_ (by rw [h1']; rfl))
      · rw [if_neg c2] at h1'
        exact Ev.iteF c2 (Ev.some_ (by rw [h1']; simp))
    · rw [if_neg c] at h1'
      refine Ev.iteF (by rw [toList_iff]; exact c) (ih (i + 1) ht (by omega) h1' ?_)
      obtain ⟨q, hq, e⟩ := h2
      rcases List.mem_cons.1 hq with rfl | hq
      · exact absurd e c
      · exact ⟨q, hq, e⟩
theorem learnPast_l0 (p out : List S54) (rs : List S56) (ds : List ByteArray) (hp : p.length ≤ 1000) (hk : ∀ (i : Nat) (h : i < p.length), ∃ h' : i < out.length, (out[i]).f0 = (p[i]).f0 ∧ (out[i]).f2 = (p[i]).f2)
    (hfin : ∀ i : Int, ¬ i < (p.length : Int) → Ev (fun k => laws_FnLearnPast.l0 k p out i rs ds) true) : ∀ (d i : Nat), i + d = p.length → Ev (fun k => laws_FnLearnPast.l0 k p out (i : Int) rs ds) true := by
  intro d
  induction d with
  | zero => intro i hd; exact hfin _ (by omega)
  | succ d ih =>
    intro i hd
    have hi : i < p.length := by omega
    obtain ⟨h', e1, e2⟩ := hk i hi
    refine Ev.step (fun k => rfl) (Ev.iteT (by omega) (Ev.iteT (by omega) (Ev.iteT (by omega) ?_)))
    rw [rdP_nat _ _ h', rdP_nat _ _ hi, wrapN (by omega)]
    exact Ev.iteT (by rw [e1]) (Ev.iteT e2 (ih (i + 1) (by omega)))

theorem FnLearnPast : laws_FnLearnPast.Pure := by
  intro l0 h1 h2 h3
  have hw : ∀ x ∈ l0, 0 ≤ x ∧ x ≤ 255 := fun x hx => wfByte (h3 x hx)
  refine Ev.rounds ?_
  unfold laws_FnLearnPast.f
  by_cases c1 : (l0.length : Int) > 1048576
  · exact Ev.iteT c1 (Ev.some_ rfl)
  · refine Ev.iteF c1 ?_
    obtain ⟨q, rs, ds, hd, hs, hr⟩ := drawLearnPast_ev l0 hw
    have hi := implLearn_ev q rs ds hr.len hr.ids hs.len hs.ids
    have hp := specLearn_ev q rs ds hr.len hr.ids hs.len hs.ids
    have hrlen := hr.len
    have hslen := hs.len
    have hll := learnV_len rs q
    have hout : (learnS q rs).1.length ≤ 2000 := by
      unfold learnS learnR
      split
      · split
        · show (learnV q rs).length ≤ 2000
          omega
        · exact Nat.zero_le _
      · exact Nat.zero_le _
    have he := equalPast_ev (learnS q rs).1 (by omega)
    refine Ev.bind hd (Ev.bind hi (Ev.bind hp (Ev.bind he (Ev.iteT rfl (Ev.iteF (by simp) ?_)))))
    have hyes : ∀ b : Bool, b = true → Ev (fun k => laws_FnLearnPast.j0 k q (learnS q rs).1 (learnS q rs).2 (learnS q rs).1 (learnS q rs).2 b rs ds) true := by
      intro b hb
      exact Ev.step (fun k => rfl) (Ev.iteT hb (Ev.bind he (Ev.iteT rfl (Ev.some_ (by simp)))))
    by_cases c2 : (learnS q rs).2 = true
    · have hg : pastS q = true ∧ pastS (learnV q rs) = true := by
        unfold learnS learnR at c2
        split at c2
        · rename_i g
          split at c2
          · rename_i g2
            exact ⟨g, g2⟩
          · cases c2
        · cases c2
      have hl : learnS q rs = (learnV q rs, true) := by
        unfold learnS learnR
        rw [if_pos hg.1, if_pos hg.2]
      have hj2 : ∀ (n : Int) (b : Bool), b = true → Ev (fun k => laws_FnLearnPast.j2 k (learnV q rs) n b rs ds) true := by
        intro n b hb
        have hv := validPastI_ev (learnV q rs) (by omega) (fun x hx => by have := learnV_sizes rs hr.ids q hs.ids x hx; omega)
        exact Ev.step (fun k => rfl) (Ev.iteT hb (Ev.bind hv (Ev.some_ hg.2)))
      have hj : ∀ b : Bool, b = false → Ev (fun k => laws_FnLearnPast.j0 k q (learnV q rs) true (learnV q rs) true b rs ds) true := by
        intro b hb
        refine Ev.step (fun k => rfl) (Ev.iteF (by simp [hb]) ?_)
        refine learnPast_l0 q (learnV q rs) rs ds (by omega) (learnV_keeps rs q) (fun i hi => ?_) q.length 0 (by omega)
        have ew : wrap64 ((rs.length : Int) - 1) = (rs.length : Int) - 1 := wrapI (by omega)
        refine Ev.step (fun k => rfl) (Ev.iteF hi ?_)
        rw [ew]
        by_cases c3 : (rs.length : Int) - 1 < 0
        · exact Ev.iteT c3 (hj2 _ _ rfl)
        · obtain ⟨n, hn⟩ : ∃ n : Nat, (rs.length : Int) - 1 = (n : Int) := ⟨rs.length - 1, by omega⟩
          rw [hn]
          rw [hn] at c3
          have hn2 : n < rs.length := by omega
          refine Ev.iteF c3 (Ev.iteT (by omega) (Ev.iteT (by omega) ?_))
          rw [rdR_nat _ _ hn2]
          by_cases c4 : (rs[n]).f1 = 3
          · exact hj2 _ _ (by rw [c4]; rfl)
          · have c5 : ((rs[n]).f1 == 3) = false := beq_eq_false_iff_ne.2 c4
            rw [c5]
            have hlast : learnV q rs = insP rs[n] (learnV q (rs.take n)) := by
              rw [learnV_last q rs n (by omega), learn1, if_neg c4]
            have hh := insP_has rs[n] (learnV q (rs.take n))
            rw [← hlast] at hh
            have hfin := learnPast_l1 (learnV q rs) rs ds n hn2 (by omega) (learnV q rs) 0 rfl (Nat.zero_le _) hh.1 hh.2
            have hk : ∀ b : Bool, b = false → Ev (fun k => laws_FnLearnPast.j2 k (learnV q rs) (n : Int) b rs ds) true := by
              intro b hb
              exact Ev.step (fun k => rfl) (Ev.iteF (by simp [hb]) hfin)
            exact hk false rfl
      rw [hl]
      exact hj _ rfl
    · exact hyes _ (by simpa using c2)

end Go.Proofs.Ytphjcoondlhefaa.Pure
