/- The law FnFailedFirst answers true for every code: FailedFirst is what the reference says, no failed test stands behind another one, and nothing is lost. Its one condition: the code is a slice of bytes that fits into memory. -/
import Derived.Test.YtphjcoondlhefaaQx0
import Derived.Test.YtphjcoondlhefaaQx25
import Derived.Test.YtphjcoondlhefaaQx36
import Derived.Test.YtphjcoondlhefaaLFnFailedFirst
namespace Go.Proofs.Ytphjcoondlhefaa.Pure
open Go.RowKit Go.Proofs.Ytphjcoondlhefaa.Q Go.Proofs.YtphjcoondlhefaaW.PrintWords Go.Proofs.YtphjcoondlhefaaW.PrintLast

theorem drawFailedFirst_ev (c : List Int) (h : ∀ x ∈ c, 0 ≤ x ∧ x ≤ 255) : ∃ l q, Ev (fun k => spec_DrawFailedFirst.f k c) (l, q) ∧ SmallIds l ∧ SmallPast q := by
  obtain ⟨b, hb, hc⟩ := newReader_ev c h
  obtain ⟨l, q, p', hl, hs, hq, _, _⟩ := orderPast_ev hc 0 (by omega) (by omega)
  refine ⟨l, q, ?_, hs, hq⟩
  unfold spec_DrawFailedFirst.f
  exact Ev.bind0 hb (Ev.bind hl (Ev.some_ rfl))
theorem failedQ_rd (p : List S54) (x : ByteArray) : failedQ p x = failedV x p := by
  have h := findP_failed x p 0
  unfold failedQ impl_FailedFirst.p
  rcases h with ⟨h1, h2⟩ | ⟨j, hj, h1, h2⟩
  · rw [h2]
    simp
    omega
  · rw [h1, Nat.zero_add, rdP_nat p j hj, h2]
    simp
theorem failedFirst_l1 (l : List ByteArray) (p : List S54) (r : List ByteArray) (x6 : Bool) (x7 : Nat) (h7 : x7 < r.length) (hp : p.length ≤ 4611686018427387903) (hnd : (p.map (·.f0)).Nodup)
    (hfin : ∀ i : Int, ¬ i < (p.length : Int) → Ev (fun k => laws_FnFailedFirst.l1 k l p r x6 x7 (failedV r[x7] p) i) true) :
    ∀ (t : List S54) (i : Nat) (b : Bool), p.drop i = t → i ≤ p.length → (b = true → failedV r[x7] p = true ∧ ∀ q ∈ t, q.f0 ≠ r[x7]) → (b = false → failedV r[x7] t = failedV r[x7] p) →
    Ev (fun k => laws_FnFailedFirst.l1 k l p r x6 x7 b (i : Int)) true := by
  intro t
  induction t with
  | nil =>
    intro i b h hi h1 h2
    have hl2 := drop_nil h
    cases b with
    | true =>
      have hf := hfin (i : Int) (by omega)
      rw [(h1 rfl).1] at hf
      exact hf
    | false =>
      have hf := hfin (i : Int) (by omega)
      rw [← h2 rfl] at hf
      exact hf
  | cons q t ih =>
    intro i b h hi h1 h2
    obtain ⟨hl2, hb, ht⟩ := drop_cons h
    cases b with
    | true =>
      refine Ev.step (fun k => rfl) (Ev.iteT (by omega) (Ev.iteT rfl ?_))
      rw [wrapN (by omega)]
      exact ih (i + 1) true ht (by omega) (fun _ => ⟨(h1 rfl).1, fun q hq => (h1 rfl).2 q (List.mem_cons_of_mem _ hq)⟩) (fun h => by cases h)
    | false =>
      refine Ev.step (fun k => rfl) (Ev.iteT (by omega) (Ev.iteF Bool.false_ne_true (Ev.iteT (by omega) (Ev.iteT (by omega) (Ev.iteT (by omega) ?_)))))
      rw [rdP_nat p i hl2, hb, rdOf_nat _ _ _ h7, wrapN (by omega)]
      have h2' : (if q.f0 = r[x7] then q.f1 else failedV r[x7] t) = failedV r[x7] p := h2 rfl
      by_cases hq : q.f0 = r[x7]
      · rw [if_pos hq] at h2'
        have hno : ∀ q' ∈ t, q'.f0 ≠ r[x7] := by
          intro q' hq' e
          have hnd2 : ((p.drop i).map (·.f0)).Nodup := (List.map_drop (f := fun (q : S54) => q.f0) (l := p) (i := i)) ▸ hnd.sublist (List.drop_sublist _ _)
          rw [h, List.map_cons, List.nodup_cons] at hnd2
          exact hnd2.1 (List.mem_map.2 ⟨q', hq', by rw [e, hq]⟩)
        refine Ev.iteT (by rw [hq]) ?_
        refine ih (i + 1) q.f1 ht (by omega) (fun e => ⟨by rw [← h2', e], hno⟩) (fun e => ?_)
        rw [← h2', e]
        exact failedV_no hno
      · rw [if_neg hq] at h2'
        exact Ev.iteF (by rw [toList_iff]; exact hq) (ih (i + 1) false ht (by omega) (fun e => by cases e) (fun _ => h2'))
theorem failedFirst_l0 (l : List ByteArray) (p : List S54) (r : List ByteArray) (hr : r = partS (failedQ p) l) (hn : r.length ≤ 1000) (hp : p.length ≤ 4611686018427387903) (hnd : (p.map (·.f0)).Nodup)
    (hfin : ∀ (b : Bool) (i : Int), ¬ i < (r.length : Int) → Ev (fun k => laws_FnFailedFirst.l0 k l p r b i) true) : ∀ (d i : Nat) (b : Bool), i + d = r.length → (b = true → ∀ (j : Nat) (h : j < r.length), i ≤ j → failedV r[j] p = false) →
    Ev (fun k => laws_FnFailedFirst.l0 k l p r b (i : Int)) true := by
  intro d
  induction d with
  | zero =>
    intro i b hd _
    exact hfin b _ (by omega)
  | succ d ih =>
    intro i b hd hb
    have hi : i < r.length := by omega
    have ew : wrap64 ((i : Int) + 1) = ((i + 1 : Nat) : Int) := wrapN (by omega)
    refine Ev.step (fun k => rfl) (Ev.iteT (by omega) ?_)
    refine failedFirst_l1 l p r b i hi hp hnd (fun n hn2 => Ev.step (fun k => rfl) (Ev.iteF hn2 ?_)) p 0 false rfl (Nat.zero_le _) (fun e => by cases e) (fun _ => rfl)
    rw [ew]
    cases hf : failedV r[i] p with
    | true =>
      refine Ev.iteT rfl ?_
      cases b with
      | true => rw [hb rfl i hi (Nat.le_refl _)] at hf; cases hf
      | false => exact Ev.iteF Bool.false_ne_true (ih (i + 1) false (by omega) (fun e => by cases e))
    | false =>
      have hnext : ∀ (j : Nat) (h : j < r.length), i + 1 ≤ j → failedV r[j] p = false := by
        intro j
        induction j with
        | zero => intro _ h; omega
        | succ j ihj =>
          intro hj h
          have hj2 : failedV (r[j]'(by omega)) p = false := by
            by_cases e : j = i
            · subst e; exact hf
            · exact ihj (by omega) (by omega)
          subst hr
          rw [← failedQ_rd] at hj2 ⊢
          exact partS_falls (failedQ p) l j hj hj2
      refine Ev.iteF Bool.false_ne_true ?_
      cases b with
      | true => exact Ev.iteT rfl (ih (i + 1) true (by omega) (fun _ j hj h => hnext j hj h))
      | false => exact Ev.iteF Bool.false_ne_true (ih (i + 1) true (by omega) (fun _ j hj h => hnext j hj h))

theorem FnFailedFirst : laws_FnFailedFirst.Pure := by
  intro l0 h1 h2 h3
  have hw : ∀ x ∈ l0, 0 ≤ x ∧ x ≤ 255 := fun x hx => wfByte (h3 x hx)
  refine Ev.rounds ?_
  unfold laws_FnFailedFirst.f
  by_cases c1 : (l0.length : Int) > 1048576
  · exact Ev.iteT c1 (Ev.some_ rfl)
  · refine Ev.iteF c1 ?_
    obtain ⟨l, q, hd, hs, hq⟩ := drawFailedFirst_ev l0 hw
    have hlen := hs.len
    have hqlen := hq.len
    have hi := implFailedFirst_ev l q (by omega) hs.sizes (by omega) hq.sizes
    have hp := specFailedFirst_ev l q (by omega) hs.sizes (by omega) hq.sizes
    have hfl : (firstS (failedQ q) l q).length ≤ l.length := by
      unfold firstS
      split
      · rw [partS_len]; exact Nat.le_refl _
      · exact Nat.zero_le _
    have he := equalTexts_ev (firstS (failedQ q) l q) (by omega)
    refine Ev.bind hd (Ev.bind hi (Ev.bind hp (Ev.bind he (Ev.iteT rfl (Ev.step (fun k => rfl) ?_)))))
    by_cases c2 : (((firstS (failedQ q) l q).length : Int) == 0) = true
    · exact Ev.iteT c2 (Ev.bind hp (Ev.bind he (Ev.some_ rfl)))
    · refine Ev.iteF c2 ?_
      have hg : goodS l q = true := by
        by_cases h : goodS l q = true
        · exact h
        · rw [firstS_no h] at c2
          exact absurd rfl c2
      have hg2 := hg
      unfold goodS at hg2
      simp only [Bool.and_eq_true] at hg2
      have hbig := idsS_len hg2.1
      have hi2 := implFailedFirst_ev (firstS (failedQ q) l q) q (by omega) (fun x hx => by rw [firstS_yes hg] at hx; exact hs.sizes x (partS_mem.1 hx)) (by omega) hq.sizes
      have hfe := firstS_yes (q := failedQ q) hg
      have hg3 : goodS (firstS (failedQ q) l q) q = true := by
        rw [hfe]
        unfold goodS
        rw [idsS_partS hg2.1, hg2.2]
        rfl
      rw [firstS_yes hg3, hfe, partS_partS] at hi2
      rw [hfe] at he hfl ⊢
      have hl1 := failedFirst_l0 l q _ rfl (by omega) (by omega) (pastS_nodup hg2.2) (fun b i hi => Ev.step (fun k => rfl) (Ev.iteF hi
        (Ev.bind (sameTexts_ev (partS (failedQ q) l) l (by omega) (partS_len _ _) (fun x => partS_mem)) (Ev.iteT rfl (Ev.bind hi2 (Ev.bind he (Ev.some_ rfl))))))) (partS (failedQ q) l).length 0 false (by omega) (fun e => by cases e)
      exact hl1

end Go.Proofs.Ytphjcoondlhefaa.Pure
