/- Plain laws, without Go: what is known of tests (Past). No condition. -/
import Derived.Test.YtphjcoondlhefaaQx0
import Derived.Test.YtphjcoondlhefaaQx2
import Derived.Test.YtphjcoondlhefaaQx5
import Derived.Test.YtphjcoondlhefaaQx7
import Derived.Test.YtphjcoondlhefaaLibA
import Derived.Test.YtphjcoondlhefaaLibD
namespace Go.Proofs.Ytphjcoondlhefaa.Q
open Go.RowKit Go.Proofs.YtphjcoondlhefaaW.PrintWords Go.Proofs.YtphjcoondlhefaaW.PrintLast Go.Proofs.YtphjcoondlhefaaW.PrintMore

theorem rdP_nat (l : List S54) (i : Nat) (h : i < l.length) : rd_T54 l (i : Int) = l[i] := by
  unfold rd_T54
  exact getD_nat _ _ _ h
/-- Where an id first stands, from place i on; -1 if nowhere. -/
def findP (x : ByteArray) : List S54 → Nat → Int
  | [], _ => -1
  | q :: t, i => if q.f0 = x then (i : Int) else findP x t (i + 1)
theorem findP_ge (x : ByteArray) (t : List S54) : ∀ i, -1 ≤ findP x t i := by
  induction t with
  | nil => intro i; simp [findP]
  | cons q t ih =>
    intro i
    unfold findP
    split
    · omega
    · exact ih _
theorem findP_iff (x : ByteArray) (t : List S54) : ∀ i, 0 ≤ findP x t i ↔ x ∈ t.map (·.f0) := by
  induction t with
  | nil => intro i; simp [findP]
  | cons q t ih =>
    intro i
    unfold findP
    by_cases h : q.f0 = x
    · rw [if_pos h]
      simp [h]
    · rw [if_neg h, ih]
      simp only [List.map_cons, List.mem_cons]
      exact ⟨fun h2 => .inr h2, fun h2 => h2.elim (fun e => absurd e.symm h) id⟩
theorem pastAt_loop (l : List S54) (x : ByteArray) (hl : l.length ≤ 4611686018427387903) : ∀ (t : List S54) (i : Nat), l.drop i = t → i ≤ l.length →
    Ev (fun k => spec_pastAt.l0 k l x (i : Int)) (findP x t i) := by
  intro t
  induction t with
  | nil =>
    intro i h hi
    have hl2 := drop_nil h
    exact Ev.step (fun k => rfl) (Ev.iteF (by omega) (Ev.some_ rfl))
  | cons q t ih =>
    intro i h hi
    obtain ⟨hl2, hb, ht⟩ := drop_cons h
    refine Ev.step (fun k => rfl) (Ev.iteT (by omega) (Ev.iteT (by omega) ?_))
    rw [rdP_nat _ _ hl2, hb]
    unfold findP
    by_cases h1 : q.f0 = x
    · rw [if_pos h1]
      exact Ev.iteT (by rw [h1]) (Ev.some_ rfl)
    · rw [if_neg h1, wrapN (by omega)]
      exact Ev.iteF (by rw [toList_iff]; exact h1) (ih (i + 1) ht (by omega))
theorem pastAt_ev (l : List S54) (x : ByteArray) (hl : l.length ≤ 4611686018427387903) : Ev (fun k => spec_pastAt.f k l x) (findP x l 0) :=
  pastAt_loop l x hl l 0 rfl (Nat.zero_le _)

def PastSizes (l : List S54) : Prop := ∀ q ∈ l, q.f0.size ≤ 4611686018427387903
def costS (q : S54) : Bool := decide (0 ≤ q.f2) && decide (q.f2 ≤ 99)
/-- What is asked of what is known. -/
def pastS (l : List S54) : Bool := l.all costS && idsS (l.map (·.f0))

theorem validPastI_loop (l : List S54) (hl : l.length ≤ 8796093022207) (hz : PastSizes l) : ∀ (t : List S54) (i : Nat), l.drop i = t → i ≤ l.length →
    Ev (fun k => impl_ValidPast.l0 k ((l.take i).map (·.f0)) l (l.length : Int) (i : Int)) (t.all costS && idsS (l.map (·.f0))) := by
  intro t
  induction t with
  | nil =>
    intro i h hi
    have hl2 := drop_nil h
    have e : l.take i = l := List.take_of_length_le hl2
    rw [e]
    refine Ev.step (fun k => rfl) (Ev.iteF (by omega) ?_)
    exact Ev.bind (idsOk_ev (l.map (·.f0)) (by rw [List.length_map]; omega) (fun x hx => by obtain ⟨q, hq, rfl⟩ := List.mem_map.1 hx; exact hz q hq)) (Ev.bool (by simp))
  | cons q t ih =>
    intro i h hi
    obtain ⟨hl2, hb, ht⟩ := drop_cons h
    refine Ev.step (fun k => rfl) (Ev.iteT (by omega) (Ev.iteT (by omega) (Ev.iteT (by omega) ?_)))
    rw [rdP_nat _ _ hl2, hb]
    by_cases h1 : q.f2 < 0
    · exact Ev.iteT h1 (Ev.bool (by simp [costS]; omega))
    · refine Ev.iteF h1 ?_
      by_cases h2 : q.f2 > 99
      · exact Ev.iteT h2 (Ev.bool (by simp [costS]; omega))
      · refine Ev.iteF h2 (Ev.iteT (by rw [List.length_map, List.length_take]; omega) ?_)
        rw [wrapN (by omega)]
        have e : (l.take i).map (·.f0) ++ [q.f0] = (l.take (i + 1)).map (·.f0) := by
          rw [List.take_succ_eq_append_getElem hl2, List.map_append, hb]
          rfl
        rw [e]
        have ec : costS q = true := by simp [costS]; omega
        simpa [List.all_cons, ec] using ih (i + 1) ht (by omega)
theorem validPastI_ev (l : List S54) (hl : l.length ≤ 8796093022207) (hz : PastSizes l) : Ev (fun k => impl_ValidPast.f k l) (pastS l) := by
  have := validPastI_loop l hl hz l 0 rfl (Nat.zero_le _)
  exact this

/-- The same, told place by place. -/
theorem validPastS_loop (l : List S54) (hl : l.length ≤ 8796093022207) (hz : PastSizes l) : ∀ (d i : Nat), i + d = l.length → (l.take i).all costS = true → ((l.take i).map (·.f0)).all idS = true → ((l.take i).map (·.f0)).Nodup →
    Ev (fun k => spec_validPast.l0 k l (i : Int)) (pastS l) := by
  intro d
  induction d with
  | zero =>
    intro i hd h1 h2 h3
    have e : l.take i = l := List.take_of_length_le (by omega)
    rw [e] at h1 h2 h3
    exact Ev.step (fun k => rfl) (Ev.iteF (by omega) (Ev.some_ (by unfold pastS idsS; rw [h1, h2]; simp [h3]; omega)))
  | succ d ih =>
    intro i hd h1 h2 h3
    have hi : i < l.length := by omega
    have hmem : l[i] ∈ l := List.getElem_mem hi
    have hmap : (l.map (·.f0))[i]'(by rw [List.length_map]; exact hi) = l[i].f0 := by simp
    refine Ev.step (fun k => rfl) (Ev.iteT (by omega) (Ev.iteT (by omega) ?_))
    rw [rdP_nat _ _ hi]
    refine Ev.bind (validId_ev l[i].f0 (hz _ hmem)) ?_
    cases e1 : idS l[i].f0 with
    | false =>
      refine Ev.iteF (by simp) (Ev.bool ?_)
      have : (l.map (·.f0)).all idS = false := by
        rw [List.all_eq_false]
        exact ⟨_, List.mem_map.2 ⟨_, hmem, rfl⟩, by simp [e1]⟩
      unfold pastS idsS
      rw [this]
      simp
    | true =>
      refine Ev.iteT rfl (Ev.iteT (by omega) ?_)
      rw [Int.toNat_natCast]
      refine Ev.bind (pastAt_ev (l.take i) l[i].f0 (by rw [List.length_take]; omega)) ?_
      have hf := findP_iff l[i].f0 (l.take i) 0
      by_cases e2 : 0 ≤ findP l[i].f0 (l.take i) 0
      · refine Ev.iteT e2 (Ev.bool ?_)
        have hm := hf.1 e2
        have : ¬ (l.map (·.f0)).Nodup := by
          refine nodup_of_take _ (i + 1) (fun h => ?_)
          have := ((nodup_take_succ (l.map (·.f0)) i (by rw [List.length_map]; exact hi)).1 h).2
          rw [hmap, ← List.map_take] at this
          exact this hm
        unfold pastS idsS
        simp [this]
      · refine Ev.iteF (by omega) (Ev.bind0 (inRange_ev _ _ _) ?_)
        by_cases e3 : 0 ≤ l[i].f2 ∧ l[i].f2 ≤ 99
        · refine Ev.iteT (by simpa using e3) ?_
          rw [wrapN (by omega)]
          have hx : l.take (i + 1) = l.take i ++ [l[i]] := List.take_succ_eq_append_getElem hi
          refine ih (i + 1) (by omega) ?_ ?_ ?_
          · rw [hx, List.all_append, h1]
            simp [costS, e3]
          · rw [hx, List.map_append, List.all_append, h2]
            simp [e1]
          · have hn := nodup_take_succ (l.map (·.f0)) i (by rw [List.length_map]; exact hi)
            rw [← List.map_take, ← List.map_take, hmap] at hn
            exact hn.2 ⟨h3, fun hm => e2 (hf.2 hm)⟩
        · refine Ev.iteF (by simpa using e3) (Ev.bool ?_)
          have : l.all costS = false := by
            rw [List.all_eq_false]
            exact ⟨_, hmem, by simp [costS]; omega⟩
          unfold pastS
          rw [this]
          simp
theorem validPastS_ev (l : List S54) (hl : l.length ≤ 8796093022207) (hz : PastSizes l) : Ev (fun k => spec_validPast.f k l) (pastS l) :=
  validPastS_loop l hl hz l.length 0 (by omega) (by simp) (by simp) (by simp)
theorem ValidPastS_ev (l : List S54) (hl : l.length ≤ 8796093022207) (hz : PastSizes l) : Ev (fun k => spec_ValidPast.f k l) (pastS l) := by
  unfold spec_ValidPast.f
  exact Ev.bind (validPastS_ev l hl hz) (Ev.some_ rfl)

theorem pastS_take (l : List S54) (n : Nat) (h : pastS l = true) : pastS (l.take n) = true := by
  unfold pastS idsS at *
  simp only [Bool.and_eq_true, decide_eq_true_eq] at *
  obtain ⟨h1, h2, h3, h4⟩ := h
  refine ⟨?_, ?_, by rw [List.map_take, List.length_take]; omega, ?_⟩
  · rw [List.all_eq_true] at *
    exact fun x hx => h1 x (List.mem_of_mem_take hx)
  · rw [List.all_eq_true] at *
    intro x hx
    rw [List.map_take] at hx
    exact h2 x (List.mem_of_mem_take hx)
  · rw [List.map_take]
    exact h4.sublist (List.take_sublist _ _)

end Go.Proofs.Ytphjcoondlhefaa.Q
