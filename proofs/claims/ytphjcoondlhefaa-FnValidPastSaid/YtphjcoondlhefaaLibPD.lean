/- Plain laws, without Go: what is drawn where the past of tests is asked. No condition. -/
import Derived.Test.YtphjcoondlhefaaQx0
import Derived.Test.YtphjcoondlhefaaQx3
import Derived.Test.YtphjcoondlhefaaLibA
import Derived.Test.YtphjcoondlhefaaLibD
import Derived.Test.YtphjcoondlhefaaLibP
namespace Go.Proofs.Ytphjcoondlhefaa.Q
open Go.RowKit Go.Proofs.YtphjcoondlhefaaW.PrintWords Go.Proofs.YtphjcoondlhefaaW.PrintLast Go.Proofs.YtphjcoondlhefaaW.PrintMore

theorem wfByte {x : Int} (h : (Lit.int .u8 x).wf = true) : 0 ≤ x ∧ x ≤ 255 := by
  simp [Lit.wf, IntKind.min, IntKind.max, IntKind.signed, IntKind.bits] at h
  omega
/-- Drawn pasts are short, and their ids too. -/
structure SmallPast (l : List S54) : Prop where
  len : l.length ≤ 1000
  ids : ∀ q ∈ l, q.f0.size ≤ 1000
theorem SmallPast.sizes {l : List S54} (h : SmallPast l) : PastSizes l := fun q hq => by have := h.ids q hq; omega
theorem somePast_loop {b : List Int} (hb : Code_ b) : ∀ (n : Nat) (x3 : List S54) (p : Int), n ≤ 50 → x3.length + n ≤ 50 → (∀ q ∈ x3, q.f0.size = 3) → 0 ≤ p → p + 4 * n ≤ 1000000 →
    ∃ l p', Ev (fun k => spec_somePast.l0 k x3 (n : Int) b p) (l, p') ∧ SmallPast l ∧ 0 ≤ p' ∧ p' ≤ p + 4 * n + 2 := by
  intro n
  induction n with
  | zero =>
    intro x3 p hn hl hq h0 h1
    have small : SmallPast x3 := ⟨by omega, fun q hm => by rw [hq q hm]; omega⟩
    by_cases c1 : (x3.length : Int) > 0
    · obtain ⟨v, hv, v0, v1⟩ := pick_ev hb p 20 h0 (by omega) (by omega)
      by_cases c2 : v = 0
      · obtain ⟨y, hy, he⟩ := one_ev hb (p + 1) (by omega) (by omega) [(-1), 100] (by decide) (by decide)
        refine ⟨_, _, Ev.step (fun k => rfl) (Ev.iteF (by omega) (Ev.iteT c1 (Ev.bind hv (Ev.iteT c2 (Ev.bind he (Ev.iteT c1 (Ev.some_ rfl))))))), ⟨by rw [List.length_set]; omega, fun q hm => ?_⟩, by dsimp only; omega, by dsimp only; omega⟩
        rcases List.mem_or_eq_of_mem_set hm with hm | rfl
        · rw [hq q hm]; omega
        · have e := rdP_nat x3 0 (by omega)
          simp only [Int.natCast_zero] at e
          show (rd_T54 x3 0).f0.size ≤ 1000
          rw [e, hq _ (List.getElem_mem _)]
          omega
      · exact ⟨x3, p + 1, Ev.step (fun k => rfl) (Ev.iteF (by omega) (Ev.iteT c1 (Ev.bind hv (Ev.iteF c2 (Ev.some_ rfl))))), small, by omega, by omega⟩
    · exact ⟨x3, p, Ev.step (fun k => rfl) (Ev.iteF (by omega) (Ev.iteF c1 (Ev.some_ rfl))), small, h0, by omega⟩
  | succ n ih =>
    intro x3 p hn hl hq h0 h1
    obtain ⟨x, hx, he⟩ := anId_ev hb p h0 (by omega)
    obtain ⟨v, hv, v0, v1⟩ := pick_ev hb (p + 2) 3 (by omega) (by omega) (by omega)
    obtain ⟨y, hy, he2⟩ := one_ev hb (p + 2 + 1) (by omega) (by omega) [1, 5, 9, 2, 0, 30] (by decide) (by decide)
    have hp := pastAt_ev x3 x (by omega)
    have ew : wrap64 (((n + 1 : Nat) : Int) - 1) = (n : Int) := by rw [wrapI (by omega)]; omega
    by_cases c1 : findP x x3 0 < 0
    · obtain ⟨l, p', hr, hs, g0, g1⟩ := ih (x3 ++ [(⟨x, (v == 0), y⟩ : S54)]) (p + 2 + 1 + 1) (by omega) (by rw [List.length_append, List.length_singleton]; omega) (fun q hm => by
        rcases List.mem_append.1 hm with hm | hm
        · exact hq q hm
        · rw [List.mem_singleton.1 hm]; exact hx) (by omega) (by omega)
      refine ⟨l, p', Ev.step (fun k => rfl) (Ev.iteT (by omega) (Ev.bind he (Ev.bind hv (Ev.bind he2 (Ev.bind hp (Ev.iteT c1 (Ev.iteT (by omega) ?_))))))), hs, g0, by omega⟩
      rw [ew]
      exact hr
    · obtain ⟨l, p', hr, hs, g0, g1⟩ := ih x3 (p + 2 + 1 + 1) (by omega) (by omega) hq (by omega) (by omega)
      refine ⟨l, p', Ev.step (fun k => rfl) (Ev.iteT (by omega) (Ev.bind he (Ev.bind hv (Ev.bind he2 (Ev.bind hp (Ev.iteF c1 ?_)))))), hs, g0, by omega⟩
      rw [ew]
      exact hr
theorem somePast_ev {b : List Int} (hb : Code_ b) (p : Int) (h0 : 0 ≤ p) (h1 : p ≤ 100000) :
    ∃ l p', Ev (fun k => spec_somePast.f k b p) (l, p') ∧ SmallPast l ∧ 0 ≤ p' ∧ p' ≤ p + 100 := by
  obtain ⟨y, hy, he⟩ := one_ev hb p h0 (by omega) [4, 3, 5, 2, 0, 7] (by decide) (by decide)
  have hy2 : 0 ≤ y ∧ y ≤ 7 := by
    simp only [List.mem_cons, List.not_mem_nil, or_false] at hy
    omega
  obtain ⟨n, rfl⟩ := Int.eq_ofNat_of_zero_le hy2.1
  obtain ⟨l, p', hr, hs, g0, g1⟩ := somePast_loop hb n [] (p + 1) (by omega) (by simp; omega) (fun q hq => by cases hq) (by omega) (by omega)
  exact ⟨l, p', Ev.bind he hr, hs, g0, by omega⟩

end Go.Proofs.Ytphjcoondlhefaa.Q
