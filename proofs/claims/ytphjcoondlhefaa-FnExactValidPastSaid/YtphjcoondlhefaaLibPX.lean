/- Plain laws, without Go: the exact laws' helpers over pasts. No condition. -/
import Derived.Test.YtphjcoondlhefaaQx0
import Derived.Test.YtphjcoondlhefaaQx7
import Derived.Test.YtphjcoondlhefaaQx8
import Derived.Test.YtphjcoondlhefaaQx9
import Derived.Test.YtphjcoondlhefaaLibA
import Derived.Test.YtphjcoondlhefaaLibP
import Derived.Test.YtphjcoondlhefaaLibM
namespace Go.Proofs.Ytphjcoondlhefaa.Q
open Go.RowKit Go.Proofs.YtphjcoondlhefaaW.PrintWords Go.Proofs.YtphjcoondlhefaaW.PrintLast Go.Proofs.YtphjcoondlhefaaW.PrintMore

theorem rdPL_nat (l : List S66) (i : Nat) (h : i < l.length) : rd_T66 l (i : Int) = l[i] := by
  unfold rd_T66
  exact getD_nat _ _ _ h
/-- A list that a law lets by: short, and of short texts. -/
structure FewPast (l : List S66) : Prop where
  len : l.length ≤ 1048576
  ids : ∀ q ∈ l, q.f0.size ≤ 1048576
theorem szPastS_loop (l : List S66) (hl : l.length ≤ 1048576) (hz : ∀ q ∈ l, q.f0.size ≤ maxLen) : ∀ (t : List S66) (i : Nat) (left : Int), l.drop i = t → i ≤ l.length → 0 ≤ left → left ≤ 1048576 →
    ∃ r, Ev (fun k => laws_szPastS.l0 k l left (i : Int)) r ∧ r ≤ 1048576 ∧ (0 ≤ r → ∀ q ∈ t, q.f0.size ≤ 1048576) := by
  intro t
  induction t with
  | nil =>
    intro i left h hi h0 h1
    have hl2 := drop_nil h
    exact ⟨left, Ev.step (fun k => rfl) (Ev.iteF (by omega) (Ev.some_ rfl)), h1, fun _ q hq => by cases hq⟩
  | cons q t ih =>
    intro i left h hi h0 h1
    obtain ⟨hl2, hb, ht⟩ := drop_cons h
    have hq : q.f0.size ≤ maxLen := hz q (hb ▸ List.getElem_mem hl2)
    unfold maxLen at hq
    have ew : wrap64 (left - (q.f0.size : Int)) = left - q.f0.size := wrapI (by omega)
    by_cases c : left - q.f0.size < 0
    · refine ⟨-1, Ev.step (fun k => rfl) (Ev.iteT (by omega) (Ev.iteT (by omega) ?_)), by omega, fun h => by omega⟩
      rw [rdPL_nat _ _ hl2, hb]
      refine Ev.bind0 (show laws_szPast.f _ _ _ _ = some (-1) from by unfold laws_szPast.f; rw [ew, if_pos c]) (Ev.iteT (by omega) (Ev.some_ rfl))
    · obtain ⟨r, hr, h2, h3⟩ := ih (i + 1) (left - q.f0.size) ht (by omega) (by omega) (by omega)
      refine ⟨r, Ev.step (fun k => rfl) (Ev.iteT (by omega) (Ev.iteT (by omega) ?_)), h2, fun h0 p hp => ?_⟩
      · rw [rdPL_nat _ _ hl2, hb]
        refine Ev.bind0 (show laws_szPast.f _ _ _ _ = some (left - q.f0.size) from by unfold laws_szPast.f; rw [ew, if_neg c]) (Ev.iteF (by omega) ?_)
        rw [wrapN (by omega)]
        exact hr
      · rcases List.mem_cons.1 hp with rfl | hp
        · omega
        · exact h3 h0 p hp
theorem szPastS_ev (l : List S66) (hl : l.length ≤ maxLen) (hz : ∀ q ∈ l, q.f0.size ≤ maxLen) (left : Int) (h0 : 0 ≤ left) (h1 : left ≤ 1048576) :
    ∃ r, Ev (fun k => laws_szPastS.f k l left) r ∧ r ≤ 1048576 ∧ (0 ≤ r → FewPast l) := by
  unfold maxLen at hl
  have ew : wrap64 (left - (l.length : Int)) = left - l.length := wrapI (by omega)
  unfold laws_szPastS.f
  rw [ew]
  by_cases c : left - l.length < 0
  · exact ⟨-1, Ev.iteT c (Ev.some_ rfl), by omega, fun h => by omega⟩
  · obtain ⟨r, hr, h2, h3⟩ := szPastS_loop l (by omega) hz l 0 (left - l.length) rfl (Nat.zero_le _) (by omega) (by omega)
    exact ⟨r, Ev.iteF c hr, h2, fun h => ⟨by omega, h3 h⟩⟩

def toP (q : S66) : S54 := ⟨q.f0, q.f1, q.f2⟩
theorem toPastS_loop (l : List S66) (hl : l.length ≤ 1048576) : ∀ (d i : Nat), i + d = l.length →
    Ev (fun k => laws_toPastS.l0 k l (half toP z54 l i) (i : Int)) (l.map toP) := by
  intro d
  induction d with
  | zero =>
    intro i hd
    obtain rfl : i = l.length := by omega
    exact Ev.step (fun k => rfl) (Ev.iteF (by omega) (Ev.some_ (half_full _ _ _)))
  | succ d ih =>
    intro i hd
    have hi : i < l.length := by omega
    refine Ev.step (fun k => rfl) (Ev.iteT (by omega) (Ev.iteT (by omega) ?_))
    rw [rdPL_nat _ _ hi]
    refine Ev.bind0 rfl (Ev.iteT (by rw [half_length _ _ _ _ (by omega)]; omega) ?_)
    rw [wrapN (by omega), Int.toNat_natCast]
    have := ih (i + 1) (by omega)
    rw [← half_set toP _ l i hi] at this
    exact this
theorem toPastS_ev (l : List S66) (hl : l.length ≤ 1048576) : Ev (fun k => laws_toPastS.f k l) (l.map toP) := by
  unfold laws_toPastS.f
  rw [Int.toNat_natCast]
  have := toPastS_loop l hl l.length 0 (by omega)
  rw [half_zero] at this
  exact Ev.iteT (by omega) (Ev.iteT (by omega) this)
theorem FewPast.small {l : List S66} (h : FewPast l) : (l.map toP).length ≤ 1048576 ∧ ∀ q ∈ l.map toP, q.f0.size ≤ 1048576 :=
  ⟨by rw [List.length_map]; exact h.len, fun q hq => by obtain ⟨p, hp, rfl⟩ := List.mem_map.1 hq; exact h.ids p hp⟩

theorem eqPast_self (q : S54) : laws_eqPast.f q.f0 q.f1 q.f2 q.f0 q.f1 q.f2 = some true := by
  unfold laws_eqPast.f
  rw [if_pos rfl, if_neg (by simp), if_pos rfl]
theorem eqPastS_loop (l : List S54) (hl : l.length ≤ 1048576) : ∀ (d i : Nat), i + d = l.length → Ev (fun k => laws_eqPastS.l0 k l l (i : Int)) true := by
  intro d
  induction d with
  | zero =>
    intro i hd
    exact Ev.step (fun k => rfl) (Ev.iteF (by omega) (Ev.some_ rfl))
  | succ d ih =>
    intro i hd
    refine Ev.step (fun k => rfl) (Ev.iteT (by omega) (Ev.iteT (by omega) (Ev.iteT (by omega) (Ev.bind0 (eqPast_self _) (Ev.iteT rfl ?_)))))
    rw [wrapN (by omega)]
    exact ih (i + 1) (by omega)
theorem eqPastS_ev (l : List S54) (hl : l.length ≤ 1048576) : Ev (fun k => laws_eqPastS.f k l l) true := by
  unfold laws_eqPastS.f
  exact Ev.iteT rfl (eqPastS_loop l hl l.length 0 (by omega))

end Go.Proofs.Ytphjcoondlhefaa.Q
