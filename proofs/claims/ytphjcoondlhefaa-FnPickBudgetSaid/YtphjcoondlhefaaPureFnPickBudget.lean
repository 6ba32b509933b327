/- The law FnPickBudget answers true for every code: PickBudget is what the reference says, it stays within the budget, and what it leaves out did not fit. Its one condition: the code is a slice of bytes that fits into memory. -/
import Derived.Test.YtphjcoondlhefaaQx0
import Derived.Test.YtphjcoondlhefaaQx37
import Derived.Test.YtphjcoondlhefaaQx38
import Derived.Test.YtphjcoondlhefaaLFnPickBudget
namespace Go.Proofs.Ytphjcoondlhefaa.Pure
open Go.RowKit Go.Proofs.Ytphjcoondlhefaa.Q Go.Proofs.YtphjcoondlhefaaW.PrintWords Go.Proofs.YtphjcoondlhefaaW.PrintLast

theorem drawPickBudget_ev (c : List Int) (h : ∀ x ∈ c, 0 ≤ x ∧ x ≤ 255) : ∃ l q m, Ev (fun k => spec_DrawPickBudget.f k c) (l, q, m) ∧ SmallIds l ∧ SmallPast q := by
  obtain ⟨b, hb, hc⟩ := newReader_ev c h
  obtain ⟨l, q, p', hl, hs, hq, g0, g1⟩ := orderPast_ev hc 0 (by omega) (by omega)
  obtain ⟨y, hy, he⟩ := one_ev hc p' g0 (by omega) [10, 5, 20, 0, 999, 1000, -1] (by decide) (by decide)
  refine ⟨l, q, y, ?_, hs, hq⟩
  unfold spec_DrawPickBudget.f
  exact Ev.bind0 hb (Ev.bind hl (Ev.bind he (Ev.some_ rfl)))
theorem pickBudget_l0 (l : List ByteArray) (p : List S54) (m : Int) (r : List ByteArray) (hl : l.length ≤ 1000) (hp : p.length ≤ 8796093022207) (hzp : PastSizes p) (h : pastS p = true) (hnd : l.Nodup) (hm : m ≤ 999) (hr : r.length ≤ 1000)
    (hfin : ∀ i : Int, ¬ i < (l.length : Int) → Ev (fun k => laws_FnPickBudget.l0 k l p m r (totalV p r) i) true) : ∀ (t : List ByteArray) (i : Nat) (u : Int) (acc : List ByteArray), l.drop i = t → i ≤ l.length → 0 ≤ u → u ≤ m → (∀ x ∈ acc, x ∈ l.take i) → r = acc ++ pickV p (m - u) t → u + totalV p (pickV p (m - u) t) = totalV p r →
    Ev (fun k => laws_FnPickBudget.l0 k l p m r u (i : Int)) true := by
  intro t
  induction t with
  | nil =>
    intro i u acc hd hi h0 h1 ha he hs
    have hl2 := drop_nil hd
    rw [show u = totalV p r by rw [← hs]; simp [pickV, totalV]]
    exact hfin _ (by omega)
  | cons b t ih =>
    intro i u acc hd hi h0 h1 ha he hs
    obtain ⟨hl2, hb, ht⟩ := drop_cons hd
    have hc := costV_bound h b
    have hcost := implCost_ev p hp hzp b
    rw [costR_yes h] at hcost
    have ew : wrap64 (u + costV b p) = u + costV b p := wrapI (by omega)
    have hnd2 : b ∉ t ∧ b ∉ l.take i := by
      have e : l = l.take i ++ b :: t := by rw [← hd, List.take_append_drop]
      rw [e, List.nodup_append] at hnd
      exact ⟨(List.nodup_cons.1 hnd.2.1).1, fun hm => hnd.2.2 b hm b List.mem_cons_self rfl⟩
    have ha2 : ∀ x ∈ acc, x ∈ l.take (i + 1) := fun x hx => by
      rw [List.take_succ_eq_append_getElem hl2]
      exact List.mem_append_left _ (ha x hx)
    refine Ev.step (fun k => rfl) (Ev.iteT (by omega) (Ev.iteT (by omega) ?_))
    rw [rdOf_nat _ _ _ hl2, hb, wrapN (by omega)]
    refine Ev.bind hcost (Ev.bind (lawHasText_ev r b (by omega)) ?_)
    rw [ew]
    unfold pickV at he hs
    by_cases c : costV b p ≤ m - u
    · rw [if_pos c] at he hs
      have e2 : m - (u + costV b p) = m - u - costV b p := by omega
      refine Ev.iteT (memB_iff.2 (by rw [he]; simp)) ?_
      refine ih (i + 1) (u + costV b p) (acc ++ [b]) ht (by omega) (by omega) (by omega) (fun x hx => ?_) (by rw [e2, he]; simp) ?_
      · rcases List.mem_append.1 hx with hx | hx
        · exact ha2 x hx
        · rw [List.mem_singleton] at hx
          rw [hx, List.take_succ_eq_append_getElem hl2, hb]
          simp
      · rw [e2]
        simp only [totalV] at hs
        omega
    · rw [if_neg c] at he hs
      refine Ev.iteF (fun hx => ?_) (Ev.iteF (by omega) (ih (i + 1) u acc ht (by omega) h0 h1 ha2 he hs))
      have hx := memB_iff.1 hx
      rw [he] at hx
      rcases List.mem_append.1 hx with hx | hx
      · exact hnd2.2 (ha b hx)
      · exact hnd2.1 ((pickV_sub p t _).subset hx)

theorem FnPickBudget : laws_FnPickBudget.Pure := by
  intro l0 h1 h2 h3
  have hw : ∀ x ∈ l0, 0 ≤ x ∧ x ≤ 255 := fun x hx => wfByte (h3 x hx)
  refine Ev.rounds ?_
  unfold laws_FnPickBudget.f
  by_cases c1 : (l0.length : Int) > 1048576
  · exact Ev.iteT c1 (Ev.some_ rfl)
  · refine Ev.iteF c1 ?_
    obtain ⟨l, q, m, hd, hs, hq⟩ := drawPickBudget_ev l0 hw
    have hlen := hs.len
    have hqlen := hq.len
    have hi := implPick_ev l q m (by omega) hs.sizes (by omega) hq.sizes
    have hp := specPick_ev l q m (by omega) hs.sizes (by omega) hq.sizes
    have ht := implTotal_ev l q (by omega) hs.sizes (by omega) hq.sizes
    have hsub : (pickS l q m).Sublist l := by
      unfold pickS
      split
      · exact pickV_sub _ _ _
      · exact List.nil_sublist _
    have hfl := hsub.length_le
    have he := equalTexts_ev (pickS l q m) (by omega)
    have hyes : ∀ b : Bool, b = true → Ev (fun k => laws_FnPickBudget.j0 k l q m (pickS l q m) b) true := by
      intro b hb
      exact Ev.step (fun k => rfl) (Ev.iteT hb (Ev.bind hp (Ev.bind he (Ev.some_ rfl))))
    refine Ev.bind hd (Ev.bind hi (Ev.bind hp (Ev.bind he (Ev.iteT rfl (Ev.bind ht ?_)))))
    by_cases c2 : totalS l q < 0
    · exact Ev.iteT c2 (hyes _ rfl)
    refine Ev.iteF c2 ?_
    by_cases c3 : m < 0
    · exact Ev.iteT c3 (hyes _ rfl)
    refine Ev.iteF c3 ?_
    by_cases c4 : m > 999
    · exact hyes _ (decide_eq_true c4)
    have hg : goodS l q = true := by
      by_cases h : goodS l q = true
      · exact h
      · rw [totalS_no h] at c2
        exact absurd (by omega) c2
    have hg2 := hg
    unfold goodS at hg2
    simp only [Bool.and_eq_true] at hg2
    have hbig := idsS_len hg2.1
    have hps : pickS l q m = pickV q m l := if_pos ⟨hg, by omega, by omega⟩
    have hids : idsS (pickS l q m) = true := by
      have := hg2.1
      unfold idsS at *
      simp only [Bool.and_eq_true, decide_eq_true_eq, List.all_eq_true] at *
      exact ⟨fun x hx => this.1 x (hsub.subset hx), by omega, this.2.2.sublist hsub⟩
    have hnd : l.Nodup := by
      have := hg2.1
      unfold idsS at this
      simp only [Bool.and_eq_true, decide_eq_true_eq] at this
      exact this.2.2
    have ht2 := implTotal_ev (pickS l q m) q (by omega) (fun x hx => hs.sizes x (hsub.subset hx)) (by omega) hq.sizes
    rw [totalS_yes (show goodS (pickS l q m) q = true by simp [goodS, hids, hg2.2])] at ht2
    have hle : totalV q (pickS l q m) ≤ m := by rw [hps]; exact pickV_cost l m (by omega)
    have hw2 := within2_ev (pickS l q m) l (by omega) (by omega) (fun x hx => hsub.subset hx)
    refine Ev.step (fun k => rfl) (Ev.iteF (by simpa using c4) ?_)
    exact pickBudget_l0 l q m _ (by omega) (by omega) hq.sizes hg2.2 hnd (by omega) (by omega) (fun i hi => Ev.step (fun k => rfl) (Ev.iteF hi (Ev.bind ht2 (Ev.iteT rfl (Ev.iteT hle (Ev.bind hw2 (Ev.some_ rfl))))))) l 0 0 [] rfl (Nat.zero_le _) (by omega) (by omega) (fun x hx => by cases hx) (by rw [hps, Int.sub_zero]; rfl) (by rw [hps, Int.sub_zero]; omega)

end Go.Proofs.Ytphjcoondlhefaa.Pure
