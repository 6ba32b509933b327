/- Plain laws, without Go, that the law FnExactFlakyIds leans on. No condition. -/
import Derived.Test.YtieghkchhjailaaVx0
import Derived.Test.YtieghkchhjailaaVx2
import Derived.Test.YtieghkchhjailaaVx3
import Derived.Test.YtieghkchhjailaaVx4
import Derived.Test.YtieghkchhjailaaVx5
import Derived.Test.YtieghkchhjailaaVx6
import Derived.Test.YtieghkchhjailaaVx7
import Derived.Test.YtieghkchhjailaaVx8
import Derived.Test.YtieghkchhjailaaWMore
import Derived.IntWalk
import Derived.Lib.Bytealg
import Derived.Lib.Strings
set_option linter.unusedSimpArgs false
set_option linter.unusedVariables false
namespace Go.Proofs.Ytieghkchhjailaa.V
open Go.RowKit Go.Proofs.YtieghkchhjailaaW.PrintWords Go.Proofs.YtieghkchhjailaaW.PrintLast Go.Proofs.YtieghkchhjailaaW.PrintMore
theorem Ev.iteT {α : Type} {c : Prop} [Decidable c] {g f : Nat → Option α} {r : α} (h : c) (k : Ev g r) : Ev (fun n => if c then g n else f n) r := by
 simpa only [if_pos h] using k
theorem Ev.iteF {α : Type} {c : Prop} [Decidable c] {g f : Nat → Option α} {r : α} (h : ¬ c) (k : Ev f r) : Ev (fun n => if c then g n else f n) r := by
 simpa only [if_neg h] using k
/-- A callee without rounds. -/
theorem Ev.bind0 {α β : Type} {g : Option α} {f : Nat → α → Option β} {a : α} {r : β} (h : g = some a) (k : Ev (fun n => f n a) r) : Ev (fun n => g.bind (f n)) r := by
 subst h
 simpa only [Option.bind_some] using k
theorem Ev.some_ {α : Type} {x r : α} (h : x = r) : Ev (fun _ => some x) r := ⟨0, fun _ _ => by rw [h]⟩
theorem Ev.bool {b r : Bool} (h : b = r) : Ev (fun _ => some b) r := Ev.some_ h
theorem wrapN {i : Nat} (h : i < 4611686018427387904) : wrap64 ((i : Int) + 1) = ((i + 1 : Nat) : Int) := by
 unfold wrap64
 omega
theorem wrapI {x : Int} (h : -9223372036854775808 ≤ x ∧ x ≤ 9223372036854775807) : wrap64 x = x := by
 unfold wrap64
 omega
theorem rdOf_nat {α : Type} (d : α) (l : List α) (i : Nat) (h : i < l.length) : rdOf d l (i : Int) = l[i] := by
 simp [rdOf, List.getD_eq_getElem?_getD, List.getElem?_eq_getElem h]
theorem getD_nat {α : Type} (d : α) (l : List α) (i : Nat) (h : i < l.length) : l.getD (i : Int).toNat d = l[i] := by
 simp [List.getD_eq_getElem?_getD, List.getElem?_eq_getElem h]
/-- A list seen from place i on. -/
theorem drop_cons {α : Type} {l : List α} {i : Nat} {b : α} {t : List α} (h : l.drop i = b :: t) : ∃ hi : i < l.length, l[i] = b ∧ l.drop (i + 1) = t := by
 have hi : i < l.length := by
  rcases Nat.lt_or_ge i l.length with h1 | h1
  ·exact h1
  ·rw [List.drop_of_length_le h1] at h
   cases h
 refine ⟨hi, ?_, ?_⟩
 ·rw [List.drop_eq_getElem_cons hi] at h
  exact (List.cons.inj h).1
 ·rw [List.drop_eq_getElem_cons hi] at h
  exact (List.cons.inj h).2
theorem drop_nil {α : Type} {l : List α} {i : Nat} (h : l.drop i = []) : l.length ≤ i := by
 have := congrArg List.length h
 rw [List.length_drop] at this
 simpa using Nat.sub_eq_zero_iff_le.1 this
theorem toList_inj {a b : ByteArray} (h : a.toList = b.toList) : a = b := by
 rw [Lib.toList_data, Lib.toList_data] at h
 cases a with
 | mk x => cases b with
  | mk y =>
   have : x = y := Array.ext' h
   rw [this]
theorem toList_iff {a b : ByteArray} : a.toList = b.toList ↔ a = b := ⟨toList_inj, fun h => by rw [h]⟩
def memB (l : List ByteArray) (x : ByteArray) : Bool := l.any fun y => decide (y = x)
theorem memB_iff {l : List ByteArray} {x : ByteArray} : memB l x = true ↔ x ∈ l := by
 simp [memB]
theorem memB_eq {l : List ByteArray} {x : ByteArray} {p : Prop} [Decidable p] (h : p ↔ x ∈ l) : decide p = memB l x := by
 rw [Bool.eq_iff_iff, memB_iff]
 simpa using h
theorem index_loop (l : List ByteArray) (x : ByteArray) (hl : l.length ≤ 4611686018427387903) : ∀ (t : List ByteArray) (i : Nat), l.drop i = t → i ≤ l.length →
  ∃ r : Int, Ev (fun k => slices_Index_string_string.l0 k l x (l.length : Int) (i : Int)) r ∧ (0 ≤ r ↔ x ∈ t) := by
 intro t
 induction t with
 | nil =>
  intro i h hi
  have hl2 := drop_nil h
  exact ⟨-1, Ev.step (fun k => rfl) (Ev.iteF (by omega) (Ev.some_ rfl)), by simp⟩
 | cons b t ih =>
  intro i h hi
  obtain ⟨hl2, hb, ht⟩ := drop_cons h
  by_cases h1 : x = b
  ·refine ⟨(i : Int), Ev.step (fun k => rfl) (Ev.iteT (by omega) (Ev.iteT (by omega) (Ev.iteT (by omega) (Ev.iteT ?_ (Ev.some_ rfl))))), by simp [h1]⟩
   rw [rdOf_nat _ _ _ hl2, hb, h1]
  ·obtain ⟨r, hr, hm⟩ := ih (i + 1) ht (by omega)
   refine ⟨r, Ev.step (fun k => rfl) (Ev.iteT (by omega) (Ev.iteT (by omega) (Ev.iteT (by omega) (Ev.iteF ?_ ?_)))), by simp [h1, hm]⟩
   ·rw [rdOf_nat _ _ _ hl2, hb, toList_iff]
    exact h1
   ·rw [wrapN (by omega)]
    exact hr
theorem contains_ev (l : List ByteArray) (x : ByteArray) (hl : l.length ≤ 4611686018427387903) : Ev (fun k => slices_Contains_string_string.f k l x) (memB l x) := by
 obtain ⟨r, hr, hm⟩ := index_loop l x hl l 0 rfl (Nat.zero_le _)
 exact Ev.bind hr (Ev.bool (memB_eq hm))
theorem hasText_loop (l : List ByteArray) (x : ByteArray) (hl : l.length ≤ 4611686018427387903) : ∀ (t : List ByteArray) (i : Nat), l.drop i = t → i ≤ l.length →
  Ev (fun k => spec_hasText.l0 k l x (i : Int)) (memB t x) := by
 intro t
 induction t with
 | nil =>
  intro i h hi
  have hl2 := drop_nil h
  exact Ev.step (fun k => rfl) (Ev.iteF (by omega) (Ev.some_ rfl))
 | cons b t ih =>
  intro i h hi
  obtain ⟨hl2, hb, ht⟩ := drop_cons h
  refine Ev.step (fun k => rfl) (Ev.iteT (by omega) (Ev.iteT (by omega) ?_))
  rw [rdOf_nat _ _ _ hl2, hb]
  by_cases h1 : b = x
  ·exact Ev.iteT (by rw [h1]) (Ev.some_ (by simp [memB, h1]))
  ·refine Ev.iteF (by rw [toList_iff]; exact h1) ?_
   rw [wrapN (by omega)]
   have e : memB (b :: t) x = memB t x := by simp [memB, h1]
   rw [e]
   exact ih (i + 1) ht (by omega)
theorem hasText_ev (l : List ByteArray) (x : ByteArray) (hl : l.length ≤ 4611686018427387903) : Ev (fun k => spec_hasText.f k l x) (memB l x) :=
 hasText_loop l x hl l 0 rfl (Nat.zero_le _)
/-- What a copy holds after i rounds. -/
def half {α β : Type} (f : α → β) (z : β) (l : List α) (i : Nat) : List β := (l.take i).map f ++ List.replicate (l.length - i) z
theorem half_zero {α β : Type} (f : α → β) (z : β) (l : List α) : half f z l 0 = List.replicate l.length z := by simp [half]
theorem half_full {α β : Type} (f : α → β) (z : β) (l : List α) : half f z l l.length = l.map f := by simp [half]
theorem half_length {α β : Type} (f : α → β) (z : β) (l : List α) (i : Nat) (h : i ≤ l.length) : (half f z l i).length = l.length := by
 simp [half]
 omega
theorem half_set {α β : Type} (f : α → β) (z : β) (l : List α) (i : Nat) (h : i < l.length) : (half f z l i).set i (f l[i]) = half f z l (i + 1) := by
 have e : l.length - i = (l.length - (i + 1)) + 1 := by omega
 have hl : ((l.take i).map f).length = i := by
  rw [List.length_map, List.length_take]
  omega
 unfold half
 rw [List.set_append_right _ _ (by omega), hl, Nat.sub_self, e, List.replicate_succ, List.set_cons_zero, List.take_succ_eq_append_getElem h, List.map_append, List.append_assoc]
 rfl
theorem rdLResult_nat (l : List S123) (i : Nat) (h : i < l.length) : rd_T123 l (i : Int) = l[i] := by
 unfold rd_T123
 exact getD_nat _ _ _ h
theorem rdIResult_nat (l : List S87) (i : Nat) (h : i < l.length) : rd_T87 l (i : Int) = l[i] := by
 unfold rd_T87
 exact getD_nat _ _ _ h
structure RawResult (q : S123) : Prop where
 r0 : q.f0.size ≤ maxLen
structure FewResult (q : S123) : Prop where
 r0 : q.f0.size ≤ 1048576
theorem szResult_ev (q : S123) (h : RawResult q) (left : Int) (h0 : 0 ≤ left) (h1 : left ≤ 1048576) :
  ∃ r, Ev (fun k => laws_szResult.f q.f0 q.f1 left) r ∧ r ≤ 1048576 ∧ (0 ≤ r → FewResult q) := by
 unfold laws_szResult.f
 have hm0 := h.r0
 unfold maxLen at hm0
 have ew0 : wrap64 (left - (q.f0.size : Int)) = (left - (q.f0.size : Int)) := wrapI (by omega)
 rw [ew0]
 by_cases c0 : (left - (q.f0.size : Int)) < 0
 ·exact ⟨-1, Ev.iteT c0 (Ev.some_ rfl), by omega, fun h => by omega⟩
 exact ⟨(left - (q.f0.size : Int)), Ev.iteF c0 (Ev.some_ rfl), by omega, fun _ => ⟨by omega⟩⟩
structure FewResultS (l : List S123) : Prop where
 len : l.length ≤ 1048576
 one : ∀ q ∈ l, FewResult q
theorem szResultS_loop (l : List S123) (hl : l.length ≤ 1048576) (hz : ∀ q ∈ l, RawResult q) : ∀ (t : List S123) (i : Nat) (left : Int), l.drop i = t → i ≤ l.length → 0 ≤ left → left ≤ 1048576 →
  ∃ r, Ev (fun k => laws_szResultS.l0 k l left (i : Int)) r ∧ r ≤ 1048576 ∧ (0 ≤ r → ∀ q ∈ t, FewResult q) := by
 intro t
 induction t with
 | nil =>
  intro i left h hi h0 h1
  have hl2 := drop_nil h
  exact ⟨left, Ev.step (fun k => rfl) (Ev.iteF (by omega) (Ev.some_ rfl)), h1, fun _ q hq => by cases hq⟩
 | cons q t ih =>
  intro i left h hi h0 h1
  obtain ⟨hl2, hb, ht⟩ := drop_cons h
  have hq : RawResult q := hz q (hb ▸ List.getElem_mem hl2)
  obtain ⟨s, hs, hs2, hsf⟩ := szResult_ev q hq left h0 h1
  by_cases c : s < 0
  ·refine ⟨-1, Ev.step (fun k => rfl) (Ev.iteT (by omega) (Ev.iteT (by omega) ?_)), by omega, fun h => by omega⟩
   rw [rdLResult_nat _ _ hl2, hb]
   exact Ev.bind hs (Ev.iteT c (Ev.some_ rfl))
  ·obtain ⟨r, hr, h2, h3⟩ := ih (i + 1) s ht (by omega) (by omega) (by omega)
   refine ⟨r, Ev.step (fun k => rfl) (Ev.iteT (by omega) (Ev.iteT (by omega) ?_)), h2, fun h0 p hp => ?_⟩
   ·rw [rdLResult_nat _ _ hl2, hb]
    refine Ev.bind hs (Ev.iteF c ?_)
    rw [wrapN (by omega)]
    exact hr
   ·rcases List.mem_cons.1 hp with rfl | hp
    ·exact hsf (by omega)
    ·exact h3 h0 p hp
theorem szResultS_ev (l : List S123) (hl : l.length ≤ maxLen) (hz : ∀ q ∈ l, RawResult q) (left : Int) (h0 : 0 ≤ left) (h1 : left ≤ 1048576) :
  ∃ r, Ev (fun k => laws_szResultS.f k l left) r ∧ r ≤ 1048576 ∧ (0 ≤ r → FewResultS l) := by
 unfold maxLen at hl
 have ew : wrap64 (left - (l.length : Int)) = left - l.length := wrapI (by omega)
 unfold laws_szResultS.f
 rw [ew]
 by_cases c : left - l.length < 0
 ·exact ⟨-1, Ev.iteT c (Ev.some_ rfl), by omega, fun h => by omega⟩
 ·obtain ⟨r, hr, h2, h3⟩ := szResultS_loop l (by omega) hz l 0 (left - l.length) rfl (Nat.zero_le _) (by omega) (by omega)
  exact ⟨r, Ev.iteF c hr, h2, fun h => ⟨by omega, h3 h⟩⟩
def to_Result (q : S123) : S87 := ⟨q.f0, q.f1⟩
theorem toResult_ev (q : S123) (h : FewResult q) : Ev (fun k => laws_toResult.f q.f0 q.f1) (q.f0, q.f1) := by
 unfold laws_toResult.f
 exact Ev.some_ rfl
theorem toResultS_loop (l : List S123) (hl : FewResultS l) : ∀ (d i : Nat), i + d = l.length →
  Ev (fun k => laws_toResultS.l0 k l (half to_Result z87 l i) (i : Int)) (l.map to_Result) := by
 have hlen := hl.len
 intro d
 induction d with
 | zero =>
  intro i hd
  obtain rfl : i = l.length := by omega
  exact Ev.step (fun k => rfl) (Ev.iteF (by omega) (Ev.some_ (half_full _ _ _)))
 | succ d ih =>
  intro i hd
  have hi : i < l.length := by omega
  refine Ev.step (fun k => rfl) (Ev.iteT (by omega) (Ev.iteT (by omega) ?_))
  rw [rdLResult_nat _ _ hi]
  refine Ev.bind (toResult_ev l[i] (hl.one _ (List.getElem_mem hi))) (Ev.iteT (by rw [half_length _ _ _ _ (by omega)]; omega) ?_)
  rw [wrapN (by omega), Int.toNat_natCast]
  have := ih (i + 1) (by omega)
  rw [← half_set to_Result _ l i hi] at this
  exact this
theorem toResultS_ev (l : List S123) (hl : FewResultS l) : Ev (fun k => laws_toResultS.f k l) (l.map to_Result) := by
 have hlen := hl.len
 unfold laws_toResultS.f
 rw [Int.toNat_natCast]
 have := toResultS_loop l hl l.length 0 (by omega)
 rw [half_zero] at this
 exact Ev.iteT (by omega) (Ev.iteT (by omega) this)
structure SzResult (q : S87) : Prop where
 yes : True
theorem eqResult_ev (q : S87) (h : SzResult q) : Ev (fun k => laws_eqResult.f q.f0 q.f1 q.f0 q.f1) true := by
 unfold laws_eqResult.f
 exact Ev.iteT rfl (Ev.iteT rfl (Ev.some_ rfl))
theorem eqResultS_loop (l : List S87) (hl : l.length ≤ 4194304) (hz : ∀ q ∈ l, SzResult q) : ∀ (d i : Nat), i + d = l.length → Ev (fun k => laws_eqResultS.l0 k l l (i : Int)) true := by
 intro d
 induction d with
 | zero =>
  intro i hd
  exact Ev.step (fun k => rfl) (Ev.iteF (by omega) (Ev.some_ rfl))
 | succ d ih =>
  intro i hd
  have hi : i < l.length := by omega
  refine Ev.step (fun k => rfl) (Ev.iteT (by omega) (Ev.iteT (by omega) (Ev.iteT (by omega) ?_)))
  rw [rdIResult_nat _ _ hi]
  refine Ev.bind (eqResult_ev _ (hz _ (List.getElem_mem hi))) (Ev.iteT rfl ?_)
  rw [wrapN (by omega)]
  exact ih (i + 1) (by omega)
theorem eqResultS_ev (l : List S87) (hl : l.length ≤ 4194304) (hz : ∀ q ∈ l, SzResult q) : Ev (fun k => laws_eqResultS.f k l l) true := by
 unfold laws_eqResultS.f
 exact Ev.iteT rfl (eqResultS_loop l hl hz l.length 0 (by omega))
theorem FewResultS.small {l : List S123} (h : FewResultS l) : (l.map to_Result).length ≤ 1048576 ∧ ∀ q ∈ l.map to_Result, SzResult q := by
 refine ⟨by rw [List.length_map]; exact h.len, fun q hq => ?_⟩
 obtain ⟨p, hp, rfl⟩ := List.mem_map.1 hq
 have := h.one p hp
 exact ⟨trivial⟩
structure FewText (l : List ByteArray) : Prop where
 len : l.length ≤ 1048576
 ids : ∀ q ∈ l, q.size ≤ 1048576
theorem szStringS_loop (l : List ByteArray) (hl : l.length ≤ 1048576) (hz : ∀ q ∈ l, q.size ≤ maxLen) : ∀ (t : List ByteArray) (i : Nat) (left : Int), l.drop i = t → i ≤ l.length → 0 ≤ left → left ≤ 1048576 →
  ∃ r, Ev (fun k => laws_szStringS.l0 k l left (i : Int)) r ∧ r ≤ 1048576 ∧ (0 ≤ r → ∀ q ∈ t, q.size ≤ 1048576) := by
 intro t
 induction t with
 | nil =>
  intro i left h hi h0 h1
  have hl2 := drop_nil h
  exact ⟨left, Ev.step (fun k => rfl) (Ev.iteF (by omega) (Ev.some_ rfl)), h1, fun _ q hq => by cases hq⟩
 | cons q t ih =>
  intro i left h hi h0 h1
  obtain ⟨hl2, hb, ht⟩ := drop_cons h
  have hq : q.size ≤ maxLen := hz q (hb ▸ List.getElem_mem hl2)
  unfold maxLen at hq
  have ew : wrap64 (left - (q.size : Int)) = left - q.size := wrapI (by omega)
  by_cases c : left - q.size < 0
  ·refine ⟨-1, Ev.step (fun k => rfl) (Ev.iteT (by omega) (Ev.iteT (by omega) ?_)), by omega, fun h => by omega⟩
   rw [rdOf_nat _ _ _ hl2, hb, ew]
   exact Ev.iteT c (Ev.some_ rfl)
  ·obtain ⟨r, hr, h2, h3⟩ := ih (i + 1) (left - q.size) ht (by omega) (by omega) (by omega)
   refine ⟨r, Ev.step (fun k => rfl) (Ev.iteT (by omega) (Ev.iteT (by omega) ?_)), h2, fun h0 p hp => ?_⟩
   ·rw [rdOf_nat _ _ _ hl2, hb, ew, wrapN (by omega)]
    exact Ev.iteF c hr
   ·rcases List.mem_cons.1 hp with rfl | hp
    ·omega
    ·exact h3 h0 p hp
theorem szStringS_ev (l : List ByteArray) (hl : l.length ≤ maxLen) (hz : ∀ q ∈ l, q.size ≤ maxLen) (left : Int) (h0 : 0 ≤ left) (h1 : left ≤ 1048576) :
  ∃ r, Ev (fun k => laws_szStringS.f k l left) r ∧ r ≤ 1048576 ∧ (0 ≤ r → FewText l) := by
 unfold maxLen at hl
 have ew : wrap64 (left - (l.length : Int)) = left - l.length := wrapI (by omega)
 unfold laws_szStringS.f
 rw [ew]
 by_cases c : left - l.length < 0
 ·exact ⟨-1, Ev.iteT c (Ev.some_ rfl), by omega, fun h => by omega⟩
 ·obtain ⟨r, hr, h2, h3⟩ := szStringS_loop l (by omega) hz l 0 (left - l.length) rfl (Nat.zero_le _) (by omega) (by omega)
  exact ⟨r, Ev.iteF c hr, h2, fun h => ⟨by omega, h3 h⟩⟩
theorem toStringS_loop (l : List ByteArray) (hl : l.length ≤ 1048576) : ∀ (d i : Nat), i + d = l.length →
  Ev (fun k => laws_toStringS.l0 k l (half id (⟨#[]⟩ : ByteArray) l i) (i : Int)) l := by
 intro d
 induction d with
 | zero =>
  intro i hd
  obtain rfl : i = l.length := by omega
  exact Ev.step (fun k => rfl) (Ev.iteF (by omega) (Ev.some_ (by rw [half_full]; simp)))
 | succ d ih =>
  intro i hd
  have hi : i < l.length := by omega
  refine Ev.step (fun k => rfl) (Ev.iteT (by omega) (Ev.iteT (by omega) ?_))
  rw [rdOf_nat _ _ _ hi]
  refine Ev.iteT (by rw [half_length _ _ _ _ (by omega)]; omega) ?_
  rw [wrapN (by omega), Int.toNat_natCast]
  have := ih (i + 1) (by omega)
  rw [← half_set id _ l i hi] at this
  exact this
theorem toStringS_ev (l : List ByteArray) (hl : l.length ≤ 1048576) : Ev (fun k => laws_toStringS.f k l) l := by
 unfold laws_toStringS.f
 rw [Int.toNat_natCast]
 have := toStringS_loop l hl l.length 0 (by omega)
 rw [half_zero] at this
 exact Ev.iteT (by omega) (Ev.iteT (by omega) this)
theorem eqStringS_loop (l : List ByteArray) (hl : l.length ≤ 4611686018427387903) : ∀ (d i : Nat), i + d = l.length → Ev (fun k => laws_eqStringS.l0 k l l (i : Int)) true := by
 intro d
 induction d with
 | zero =>
  intro i hd
  exact Ev.step (fun k => rfl) (Ev.iteF (by omega) (Ev.some_ rfl))
 | succ d ih =>
  intro i hd
  refine Ev.step (fun k => rfl) (Ev.iteT (by omega) (Ev.iteT (by omega) (Ev.iteT (by omega) (Ev.iteT rfl ?_))))
  rw [wrapN (by omega)]
  exact ih (i + 1) (by omega)
theorem eqStringS_ev (l : List ByteArray) (hl : l.length ≤ 4611686018427387903) : Ev (fun k => laws_eqStringS.f k l l) true := by
 unfold laws_eqStringS.f
 exact Ev.iteT rfl (eqStringS_loop l hl l.length 0 (by omega))
theorem rdLReport_nat (l : List S57) (i : Nat) (h : i < l.length) : rd_T57 l (i : Int) = l[i] := by
 unfold rd_T57
 exact getD_nat _ _ _ h
theorem rdIReport_nat (l : List S47) (i : Nat) (h : i < l.length) : rd_T47 l (i : Int) = l[i] := by
 unfold rd_T47
 exact getD_nat _ _ _ h
structure RawReport (q : S57) : Prop where
 r0 : q.f0.length ≤ maxLen ∧ ∀ y ∈ q.f0, RawResult y
 r1 : q.f1.length ≤ maxLen ∧ ∀ y ∈ q.f1, y.size ≤ maxLen
structure FewReport (q : S57) : Prop where
 r0 : FewResultS q.f0
 r1 : FewText q.f1
theorem szReport_ev (q : S57) (h : RawReport q) (left : Int) (h0 : 0 ≤ left) (h1 : left ≤ 1048576) :
  ∃ r, Ev (fun k => laws_szReport.f k q.f0 q.f1 left) r ∧ r ≤ 1048576 ∧ (0 ≤ r → FewReport q) := by
 unfold laws_szReport.f
 obtain ⟨r0, hr0, hb0, hf0⟩ := szResultS_ev q.f0 h.r0.1 h.r0.2 left (by omega) (by omega)
 by_cases c0 : r0 < 0
 ·exact ⟨-1, Ev.bind hr0 (Ev.iteT c0 (Ev.some_ rfl)), by omega, fun h => by omega⟩
 obtain ⟨r1, hr1, hb1, hf1⟩ := szStringS_ev q.f1 h.r1.1 h.r1.2 r0 (by omega) (by omega)
 by_cases c1 : r1 < 0
 ·exact ⟨-1, Ev.bind hr0 (Ev.iteF c0 (Ev.bind hr1 (Ev.iteT c1 (Ev.some_ rfl)))), by omega, fun h => by omega⟩
 exact ⟨r1, Ev.bind hr0 (Ev.iteF c0 (Ev.bind hr1 (Ev.iteF c1 (Ev.some_ rfl)))), by omega, fun _ => ⟨hf0 (by omega), hf1 (by omega)⟩⟩
structure FewReportS (l : List S57) : Prop where
 len : l.length ≤ 1048576
 one : ∀ q ∈ l, FewReport q
theorem szReportS_loop (l : List S57) (hl : l.length ≤ 1048576) (hz : ∀ q ∈ l, RawReport q) : ∀ (t : List S57) (i : Nat) (left : Int), l.drop i = t → i ≤ l.length → 0 ≤ left → left ≤ 1048576 →
  ∃ r, Ev (fun k => laws_szReportS.l0 k l left (i : Int)) r ∧ r ≤ 1048576 ∧ (0 ≤ r → ∀ q ∈ t, FewReport q) := by
 intro t
 induction t with
 | nil =>
  intro i left h hi h0 h1
  have hl2 := drop_nil h
  exact ⟨left, Ev.step (fun k => rfl) (Ev.iteF (by omega) (Ev.some_ rfl)), h1, fun _ q hq => by cases hq⟩
 | cons q t ih =>
  intro i left h hi h0 h1
  obtain ⟨hl2, hb, ht⟩ := drop_cons h
  have hq : RawReport q := hz q (hb ▸ List.getElem_mem hl2)
  obtain ⟨s, hs, hs2, hsf⟩ := szReport_ev q hq left h0 h1
  by_cases c : s < 0
  ·refine ⟨-1, Ev.step (fun k => rfl) (Ev.iteT (by omega) (Ev.iteT (by omega) ?_)), by omega, fun h => by omega⟩
   rw [rdLReport_nat _ _ hl2, hb]
   exact Ev.bind hs (Ev.iteT c (Ev.some_ rfl))
  ·obtain ⟨r, hr, h2, h3⟩ := ih (i + 1) s ht (by omega) (by omega) (by omega)
   refine ⟨r, Ev.step (fun k => rfl) (Ev.iteT (by omega) (Ev.iteT (by omega) ?_)), h2, fun h0 p hp => ?_⟩
   ·rw [rdLReport_nat _ _ hl2, hb]
    refine Ev.bind hs (Ev.iteF c ?_)
    rw [wrapN (by omega)]
    exact hr
   ·rcases List.mem_cons.1 hp with rfl | hp
    ·exact hsf (by omega)
    ·exact h3 h0 p hp
theorem szReportS_ev (l : List S57) (hl : l.length ≤ maxLen) (hz : ∀ q ∈ l, RawReport q) (left : Int) (h0 : 0 ≤ left) (h1 : left ≤ 1048576) :
  ∃ r, Ev (fun k => laws_szReportS.f k l left) r ∧ r ≤ 1048576 ∧ (0 ≤ r → FewReportS l) := by
 unfold maxLen at hl
 have ew : wrap64 (left - (l.length : Int)) = left - l.length := wrapI (by omega)
 unfold laws_szReportS.f
 rw [ew]
 by_cases c : left - l.length < 0
 ·exact ⟨-1, Ev.iteT c (Ev.some_ rfl), by omega, fun h => by omega⟩
 ·obtain ⟨r, hr, h2, h3⟩ := szReportS_loop l (by omega) hz l 0 (left - l.length) rfl (Nat.zero_le _) (by omega) (by omega)
  exact ⟨r, Ev.iteF c hr, h2, fun h => ⟨by omega, h3 h⟩⟩
def to_Report (q : S57) : S47 := ⟨(q.f0.map to_Result), q.f1⟩
theorem toReport_ev (q : S57) (h : FewReport q) : Ev (fun k => laws_toReport.f k q.f0 q.f1) ((q.f0.map to_Result), q.f1) := by
 unfold laws_toReport.f
 exact Ev.bind (toResultS_ev q.f0 h.r0) (Ev.bind (toStringS_ev q.f1 h.r1.len) (Ev.some_ rfl))
theorem toReportS_loop (l : List S57) (hl : FewReportS l) : ∀ (d i : Nat), i + d = l.length →
  Ev (fun k => laws_toReportS.l0 k l (half to_Report z47 l i) (i : Int)) (l.map to_Report) := by
 have hlen := hl.len
 intro d
 induction d with
 | zero =>
  intro i hd
  obtain rfl : i = l.length := by omega
  exact Ev.step (fun k => rfl) (Ev.iteF (by omega) (Ev.some_ (half_full _ _ _)))
 | succ d ih =>
  intro i hd
  have hi : i < l.length := by omega
  refine Ev.step (fun k => rfl) (Ev.iteT (by omega) (Ev.iteT (by omega) ?_))
  rw [rdLReport_nat _ _ hi]
  refine Ev.bind (toReport_ev l[i] (hl.one _ (List.getElem_mem hi))) (Ev.iteT (by rw [half_length _ _ _ _ (by omega)]; omega) ?_)
  rw [wrapN (by omega), Int.toNat_natCast]
  have := ih (i + 1) (by omega)
  rw [← half_set to_Report _ l i hi] at this
  exact this
theorem toReportS_ev (l : List S57) (hl : FewReportS l) : Ev (fun k => laws_toReportS.f k l) (l.map to_Report) := by
 have hlen := hl.len
 unfold laws_toReportS.f
 rw [Int.toNat_natCast]
 have := toReportS_loop l hl l.length 0 (by omega)
 rw [half_zero] at this
 exact Ev.iteT (by omega) (Ev.iteT (by omega) this)
structure SzReport (q : S47) : Prop where
 yes : True
 r0 : q.f0.length ≤ 1048576
 r1 : q.f1.length ≤ 1048576
theorem eqReport_ev (q : S47) (h : SzReport q) : Ev (fun k => laws_eqReport.f k q.f0 q.f1 q.f0 q.f1) true := by
 unfold laws_eqReport.f
 exact Ev.bind (eqResultS_ev q.f0 (by have := h.r0; omega) (fun _ _ => ⟨trivial⟩)) (Ev.iteT rfl (Ev.bind (eqStringS_ev q.f1 (by have := h.r1; omega)) (Ev.iteT rfl (Ev.some_ rfl))))
theorem eqReportS_loop (l : List S47) (hl : l.length ≤ 4194304) (hz : ∀ q ∈ l, SzReport q) : ∀ (d i : Nat), i + d = l.length → Ev (fun k => laws_eqReportS.l0 k l l (i : Int)) true := by
 intro d
 induction d with
 | zero =>
  intro i hd
  exact Ev.step (fun k => rfl) (Ev.iteF (by omega) (Ev.some_ rfl))
 | succ d ih =>
  intro i hd
  have hi : i < l.length := by omega
  refine Ev.step (fun k => rfl) (Ev.iteT (by omega) (Ev.iteT (by omega) (Ev.iteT (by omega) ?_)))
  rw [rdIReport_nat _ _ hi]
  refine Ev.bind (eqReport_ev _ (hz _ (List.getElem_mem hi))) (Ev.iteT rfl ?_)
  rw [wrapN (by omega)]
  exact ih (i + 1) (by omega)
theorem eqReportS_ev (l : List S47) (hl : l.length ≤ 4194304) (hz : ∀ q ∈ l, SzReport q) : Ev (fun k => laws_eqReportS.f k l l) true := by
 unfold laws_eqReportS.f
 exact Ev.iteT rfl (eqReportS_loop l hl hz l.length 0 (by omega))
theorem FewReportS.small {l : List S57} (h : FewReportS l) : (l.map to_Report).length ≤ 1048576 ∧ ∀ q ∈ l.map to_Report, SzReport q := by
 refine ⟨by rw [List.length_map]; exact h.len, fun q hq => ?_⟩
 obtain ⟨p, hp, rfl⟩ := List.mem_map.1 hq
 have := h.one p hp
 exact ⟨trivial, (by show (List.map _ _).length ≤ _; rw [List.length_map]; exact this.r0.len), this.r1.len⟩
def memR (l : List S87) (x : ByteArray) (o : Int) : Bool := l.any fun e => decide (e.f0 = x) && decide (e.f1 = o)
theorem memR_loop (l : List S87) (x : ByteArray) (o : Int) (hl : l.length ≤ 4611686018427387903) : ∀ (t : List S87) (i : Nat), l.drop i = t → i ≤ l.length →
  ∃ r : Int, Ev (fun k => impl_Result_93.l0 k l (l.length : Int) (i : Int) x o) r ∧ decide (r ≥ 0) = memR t x o := by
 intro t
 induction t with
 | nil =>
  intro i h hi
  have hl2 := drop_nil h
  exact ⟨-1, Ev.step (fun k => rfl) (Ev.iteF (by omega) (Ev.some_ rfl)), rfl⟩
 | cons b t ih =>
  intro i h hi
  obtain ⟨hl2, hb, ht⟩ := drop_cons h
  have hd : (x.toList == b.f0.toList && o == b.f1) = (decide (b.f0 = x) && decide (b.f1 = o)) := by
   rw [Bool.eq_iff_iff, Bool.and_eq_true, Bool.and_eq_true, beq_iff_eq, beq_iff_eq, decide_eq_true_eq, decide_eq_true_eq, toList_iff]
   exact ⟨fun h => ⟨h.1.symm, h.2.symm⟩, fun h => ⟨h.1.symm, h.2.symm⟩⟩
  by_cases h1 : (decide (b.f0 = x) && decide (b.f1 = o)) = true
  ·refine ⟨(i : Int), Ev.step (fun k => rfl) (Ev.iteT (by omega) (Ev.iteT (by omega) (Ev.iteT (by omega) (Ev.iteT ?_ (Ev.some_ rfl))))), ?_⟩
   ·rw [rdIResult_nat _ _ hl2, hb, hd, h1]
   ·unfold memR
    rw [List.any_cons, h1]
    exact decide_eq_true (by omega)
  ·obtain ⟨r, hr, hm⟩ := ih (i + 1) ht (by omega)
   refine ⟨r, Ev.step (fun k => rfl) (Ev.iteT (by omega) (Ev.iteT (by omega) (Ev.iteT (by omega) (Ev.iteF ?_ ?_)))), ?_⟩
   ·rw [rdIResult_nat _ _ hl2, hb, hd]
    exact h1
   ·rw [wrapN (by omega)]
    exact hr
   ·unfold memR at hm ⊢
    rw [List.any_cons, Bool.eq_false_iff.2 h1, hm]
    rfl
theorem containsR_ev (l : List S87) (x : ByteArray) (o : Int) (hl : l.length ≤ 4611686018427387903) : Ev (fun k => impl_Result_67.f k l x o) (memR l x o) := by
 obtain ⟨r, hr, hm⟩ := memR_loop l x o hl l 0 rfl (Nat.zero_le _)
 exact Ev.bind hr (Ev.bool hm)
/-- Each once, in the order of its first. -/
def onceF (acc : List ByteArray) : List ByteArray → List ByteArray
 | [] => acc
 | x :: t => onceF (if memB acc x = true then acc else acc ++ [x]) t
/-- .. of those that pass a test. -/
def pickF (p : ByteArray → Bool) (acc : List ByteArray) : List ByteArray → List ByteArray
 | [] => acc
 | x :: t => pickF p (if memB acc x = true then acc else if p x = true then acc ++ [x] else acc) t
theorem onceF_pickF (p : ByteArray → Bool) : ∀ (t acc : List ByteArray), (onceF acc t).filter p = pickF p (acc.filter p) t
 | [], acc => rfl
 | x :: t, acc => by
  unfold onceF pickF
  rw [onceF_pickF p t]
  congr 1
  have hm : memB (acc.filter p) x = (memB acc x && p x) := by
   rw [Bool.eq_iff_iff, Bool.and_eq_true, memB_iff, memB_iff, List.mem_filter]
  rw [hm]
  by_cases h1 : memB acc x = true <;> by_cases h2 : p x = true <;> simp [h1, h2, List.filter_append]
theorem onceF_length : ∀ (t acc : List ByteArray), (onceF acc t).length ≤ acc.length + t.length
 | [], acc => by simp [onceF]
 | x :: t, acc => by
  unfold onceF
  have := onceF_length t (if memB acc x = true then acc else acc ++ [x])
  split at this <;> simp_all <;> omega
theorem onceF_append : ∀ (a acc b : List ByteArray), onceF acc (a ++ b) = onceF (onceF acc a) b
 | [], acc, b => rfl
 | x :: t, acc, b => by
  exact onceF_append t (if memB acc x = true then acc else acc ++ [x]) b
def ofOutcome (o : Int) (l : List S87) : List ByteArray := (l.filter fun e => decide (e.f1 = o)).map (·.f0)
theorem memB_ofOutcome (o : Int) (l : List S87) (x : ByteArray) : memB (ofOutcome o l) x = memR l x o := by
 rw [Bool.eq_iff_iff, memB_iff]
 unfold ofOutcome memR
 rw [List.mem_map, List.any_eq_true]
 constructor
 ·rintro ⟨e, he, rfl⟩
  exact ⟨e, (List.mem_filter.1 he).1, by simpa using (List.mem_filter.1 he).2⟩
 ·rintro ⟨e, he, h⟩
  simp only [Bool.and_eq_true, decide_eq_true_eq] at h
  exact ⟨e, List.mem_filter.2 ⟨he, decide_eq_true h.2⟩, h.1⟩
theorem ofOutcome_length (o : Int) (l : List S87) : (ofOutcome o l).length ≤ l.length := by
 unfold ofOutcome
 rw [List.length_map]
 exact List.length_filter_le _ _
theorem ofOutcome_snoc (o : Int) (l : List S87) (e : S87) : ofOutcome o (l ++ [e]) = ofOutcome o l ++ (if e.f1 = o then [e.f0] else []) := by
 unfold ofOutcome
 by_cases h : e.f1 = o <;> simp [h, List.filter_append]
def flakyV (l : List S87) : List ByteArray := pickF (fun x => memR l x 0 && memR l x 1) [] (l.map (·.f0))
theorem pickF_length (p : ByteArray → Bool) : ∀ (t acc : List ByteArray), (pickF p acc t).length ≤ acc.length + t.length
 | [], acc => by simp [pickF]
 | x :: t, acc => by
  unfold pickF
  have := pickF_length p t (if memB acc x = true then acc else if p x = true then acc ++ [x] else acc)
  split at this
  ·simp_all; omega
  ·split at this <;> simp_all <;> omega
theorem flakyV_length (l : List S87) : (flakyV l).length ≤ l.length := by
 have := pickF_length (fun x => memR l x 0 && memR l x 1) (l.map (·.f0)) []
 rw [List.length_map] at this
 simpa [flakyV] using this
theorem implFl_l1 (l : List S87) (hl : l.length ≤ 8796093022206) : ∀ (t : List S87) (i : Nat) (acc : List ByteArray), l.drop i = t → i ≤ l.length → acc.length ≤ i →
  Ev (fun k => impl_FlakyIds.l1 k l acc l (l.length : Int) (i : Int)) (pickF (fun x => memR l x 0 && memR l x 1) acc (t.map (·.f0))) := by
 intro t
 induction t with
 | nil =>
  intro i acc h hi ha
  have hl2 := drop_nil h
  exact Ev.step (fun k => rfl) (Ev.iteF (by omega) (Ev.some_ rfl))
 | cons b t ih =>
  intro i acc h hi ha
  obtain ⟨hl2, hb, ht⟩ := drop_cons h
  have hi' := ih (i + 1)
  refine Ev.step (fun k => rfl) (Ev.iteT (by omega) (Ev.iteT (by omega) (Ev.iteT (by omega) ?_)))
  rw [rdIResult_nat _ _ hl2, hb, wrapN (by omega)]
  refine Ev.bind (contains_ev acc b.f0 (by omega)) ?_
  rw [List.map_cons]
  unfold pickF
  by_cases c1 : memB acc b.f0 = true
  ·rw [if_pos c1]
   exact Ev.iteT c1 (hi' acc ht (by omega) (by omega))
  rw [if_neg c1]
  refine Ev.iteF c1 (Ev.bind (containsR_ev l b.f0 0 (by omega)) ?_)
  by_cases c2 : memR l b.f0 0 = true
  ·refine Ev.iteT c2 (Ev.bind (containsR_ev l b.f0 1 (by omega)) ?_)
   by_cases c3 : memR l b.f0 1 = true
   ·rw [if_pos (by rw [c2, c3]; rfl)]
    exact Ev.iteT c3 (Ev.iteT (by omega) (hi' (acc ++ [b.f0]) ht (by omega) (by simp; omega)))
   ·rw [if_neg (by rw [Bool.eq_false_iff.2 c3]; simp)]
    exact Ev.iteF c3 (hi' acc ht (by omega) (by omega))
  ·rw [if_neg (by rw [Bool.eq_false_iff.2 c2]; simp)]
   exact Ev.iteF c2 (hi' acc ht (by omega) (by omega))
def allR (l : List S47) : List S87 := (l.map (·.f0)).flatten
theorem allR_length : ∀ (l : List S47), (∀ q ∈ l, q.f0.length ≤ 1048576) → (allR l).length ≤ 1048576 * l.length
 | [], _ => by simp [allR]
 | q :: t, h => by
  have h1 := h q (by simp)
  have := allR_length t (fun q hq => h q (by simp [hq]))
  unfold allR at this ⊢
  rw [List.map_cons, List.flatten_cons, List.length_append, List.length_cons]
  omega
theorem allR_take_succ (l : List S47) (i : Nat) (h : i < l.length) : allR (l.take (i + 1)) = allR (l.take i) ++ l[i].f0 := by
 unfold allR
 rw [List.take_succ_eq_append_getElem h, List.map_append, List.flatten_append]
 simp
theorem implFl_l0 (l : List S47) (hl : l.length ≤ 5) (hz : ∀ q ∈ l, q.f0.length ≤ 1048576) : ∀ (d i : Nat), i + d = l.length →
  Ev (fun k => impl_FlakyIds.l0 k (allR (l.take i)) l (l.length : Int) (i : Int)) (flakyV (allR l)) := by
 intro d
 induction d with
 | zero =>
  intro i hd
  obtain rfl : i = l.length := by omega
  have := allR_length l hz
  rw [List.take_length]
  exact Ev.step (fun k => rfl) (Ev.iteF (by omega) (implFl_l1 (allR l) (by omega) (allR l) 0 [] rfl (Nat.zero_le _) (by simp)))
 | succ d ih =>
  intro i hd
  have hi : i < l.length := by omega
  have h1 := hz l[i] (List.getElem_mem hi)
  have h2 := allR_length (l.take i) (fun q hq => hz q (List.mem_of_mem_take hq))
  have h3 : (l.take i).length ≤ 5 := by rw [List.length_take]; omega
  have := ih (i + 1) (by omega)
  rw [allR_take_succ l i hi] at this
  refine Ev.step (fun k => rfl) (Ev.iteT (by omega) (Ev.iteT (by omega) (Ev.iteT (by omega) ?_)))
  rw [rdIReport_nat _ _ hi, wrapN (by omega)]
  exact Ev.iteT (by omega) this
def flakyR (l : List S47) : List ByteArray := if (l.length : Int) > 5 then [] else flakyV (allR l)
theorem implFl_ev (l : List S47) (hz : ∀ q ∈ l, q.f0.length ≤ 1048576) : Ev (fun k => impl_FlakyIds.f k l) (flakyR l) := by
 unfold impl_FlakyIds.f flakyR
 by_cases c : (l.length : Int) > 5
 ·rw [if_pos c]
  exact Ev.iteT c (Ev.some_ rfl)
 ·rw [if_neg c]
  exact Ev.iteF c (implFl_l0 l (by omega) hz l.length 0 (by omega))
theorem specInOrder_loop (a c : List ByteArray) (ha : a.length ≤ 8796093022207) (hc : c.length ≤ 4611686018427387903) : ∀ (t : List ByteArray) (i : Nat) (acc : List ByteArray), a.drop i = t → i ≤ a.length → acc.length ≤ i →
  Ev (fun k => spec_inOrderOf.l0 k a c acc (i : Int)) (acc ++ t.filter (memB c)) := by
 intro t
 induction t with
 | nil =>
  intro i acc h hi hacc
  have hl2 := drop_nil h
  exact Ev.step (fun k => rfl) (Ev.iteF (by omega) (Ev.some_ (by simp)))
 | cons b t ih =>
  intro i acc h hi hacc
  obtain ⟨hl2, hb, ht⟩ := drop_cons h
  refine Ev.step (fun k => rfl) (Ev.iteT (by omega) (Ev.iteT (by omega) ?_))
  rw [rdOf_nat _ _ _ hl2, hb, wrapN (by omega)]
  refine Ev.bind (hasText_ev c b hc) ?_
  by_cases h1 : memB c b = true
  ·have := ih (i + 1) (acc ++ [b]) ht (by omega) (by simp; omega)
   rw [List.filter_cons_of_pos h1]
   rw [List.append_assoc] at this
   exact Ev.iteT h1 (Ev.iteT (by omega) this)
  ·rw [List.filter_cons_of_neg h1]
   exact Ev.iteF h1 (ih (i + 1) acc ht (by omega) (by omega))
theorem specInOrder_ev (a c : List ByteArray) (ha : a.length ≤ 8796093022207) (hc : c.length ≤ 4611686018427387903) : Ev (fun k => spec_inOrderOf.f k a c) (a.filter (memB c)) := by
 have := specInOrder_loop a c ha hc a 0 [] rfl (Nat.zero_le _) (by simp)
 rw [List.nil_append] at this
 exact this
theorem addFl_ev (l : List ByteArray) (x : ByteArray) (hl : l.length ≤ 8796093022207) : Ev (fun k => spec_addText.f k l x) (if memB l x = true then l else l ++ [x]) := by
 unfold spec_addText.f
 refine Ev.bind (hasText_ev l x (by omega)) ?_
 by_cases h : memB l x = true
 ·exact Ev.iteT h (Ev.some_ (if_pos h).symm)
 ·exact Ev.iteF h (Ev.iteT (by omega) (Ev.some_ (if_neg h).symm))
theorem specFl_l1 (l : List S47) (i0 : Nat) (h0 : i0 < l.length) (hz : l[i0].f0.length ≤ 1048576) (pre : List S87) (hp : pre.length ≤ 8000000) (hl : l.length ≤ 5) (R : List ByteArray)
  (hc : Ev (fun k => spec_FlakyIds.l0 k l (ofOutcome 0 (pre ++ l[i0].f0)) (ofOutcome 1 (pre ++ l[i0].f0)) (onceF [] ((pre ++ l[i0].f0).map (·.f0))) (wrap64 ((i0 : Int) + 1))) R) : ∀ (d j : Nat), j + d = l[i0].f0.length →
  Ev (fun k => spec_FlakyIds.l1 k l (ofOutcome 0 (pre ++ l[i0].f0.take j)) (ofOutcome 1 (pre ++ l[i0].f0.take j)) (onceF [] ((pre ++ l[i0].f0.take j).map (·.f0))) (i0 : Int) (j : Int)) R := by
 intro d
 induction d with
 | zero =>
  intro j hd
  obtain rfl : j = l[i0].f0.length := by omega
  rw [List.take_length]
  refine Ev.step (fun k => rfl) (Ev.iteT (by omega) (Ev.iteT (by omega) ?_))
  rw [rdIReport_nat _ _ h0]
  exact Ev.iteF (by omega) hc
 | succ d ih =>
  intro j hd
  have hj : j < l[i0].f0.length := by omega
  have hnext := ih (j + 1) (by omega)
  have hlen : (pre ++ l[i0].f0.take j).length ≤ 8000000 + 1048576 := by rw [List.length_append, List.length_take]; omega
  have g0 := ofOutcome_length 0 (pre ++ l[i0].f0.take j)
  have g1 := ofOutcome_length 1 (pre ++ l[i0].f0.take j)
  have g2 := onceF_length ((pre ++ l[i0].f0.take j).map (·.f0)) []
  rw [List.length_map, List.length_nil] at g2
  rw [List.take_succ_eq_append_getElem hj, ← List.append_assoc, ofOutcome_snoc, ofOutcome_snoc, List.map_append, onceF_append] at hnext
  refine Ev.step (fun k => rfl) (Ev.iteT (by omega) (Ev.iteT (by omega) ?_))
  rw [rdIReport_nat _ _ h0]
  refine Ev.iteT (by omega) (Ev.iteT (by omega) ?_)
  rw [rdIResult_nat _ _ hj, wrapN (by omega)]
  refine Ev.bind (addFl_ev _ l[i0].f0[j].f0 (by omega)) ?_
  have e1 : onceF (onceF [] ((pre ++ l[i0].f0.take j).map (·.f0))) (([l[i0].f0[j]] : List S87).map (·.f0)) = (if memB (onceF [] ((pre ++ l[i0].f0.take j).map (·.f0))) l[i0].f0[j].f0 = true then onceF [] ((pre ++ l[i0].f0.take j).map (·.f0)) else onceF [] ((pre ++ l[i0].f0.take j).map (·.f0)) ++ [l[i0].f0[j].f0]) := rfl
  rw [e1] at hnext
  by_cases c0 : l[i0].f0[j].f1 = 0
  ·rw [if_pos c0, if_neg (show ¬ l[i0].f0[j].f1 = 1 by omega), List.append_nil] at hnext
   exact Ev.iteT c0 (Ev.iteT (by omega) hnext)
  refine Ev.iteF c0 ?_
  by_cases c1 : l[i0].f0[j].f1 = 1
  ·rw [if_neg c0, if_pos c1, List.append_nil] at hnext
   exact Ev.iteT c1 (Ev.iteT (by omega) hnext)
  ·rw [if_neg c0, if_neg c1, List.append_nil, List.append_nil] at hnext
   exact Ev.iteF c1 hnext
theorem flaky_same (L : List S87) : ((onceF [] (L.map (·.f0))).filter (memB (ofOutcome 0 L))).filter (memB (ofOutcome 1 L)) = flakyV L := by
 rw [List.filter_filter]
 have := onceF_pickF (fun x => memB (ofOutcome 1 L) x && memB (ofOutcome 0 L) x) (L.map (·.f0)) []
 rw [this]
 unfold flakyV
 congr 1
 funext x
 rw [memB_ofOutcome, memB_ofOutcome, Bool.and_comm]
theorem specFl_l0 (l : List S47) (hl : l.length ≤ 5) (hz : ∀ q ∈ l, q.f0.length ≤ 1048576) : ∀ (d i : Nat), i + d = l.length →
  Ev (fun k => spec_FlakyIds.l0 k l (ofOutcome 0 (allR (l.take i))) (ofOutcome 1 (allR (l.take i))) (onceF [] ((allR (l.take i)).map (·.f0))) (i : Int)) (flakyV (allR l)) := by
 intro d
 induction d with
 | zero =>
  intro i hd
  obtain rfl : i = l.length := by omega
  have h1 := allR_length l hz
  rw [List.take_length]
  have g0 := ofOutcome_length 0 (allR l)
  have g1 := ofOutcome_length 1 (allR l)
  have g2 := onceF_length ((allR l).map (·.f0)) []
  rw [List.length_map, List.length_nil] at g2
  have g3 := List.length_filter_le (memB (ofOutcome 0 (allR l))) (onceF [] ((allR l).map (·.f0)))
  rw [← flaky_same (allR l)]
  exact Ev.step (fun k => rfl) (Ev.iteF (by omega) (Ev.bind (specInOrder_ev _ _ (by omega) (by omega)) (Ev.bind (specInOrder_ev _ _ (by omega) (by omega)) (Ev.some_ rfl))))
 | succ d ih =>
  intro i hd
  have hi : i < l.length := by omega
  have h2 := allR_length (l.take i) (fun q hq => hz q (List.mem_of_mem_take hq))
  have h3 : (l.take i).length ≤ 5 := by rw [List.length_take]; omega
  have := ih (i + 1) (by omega)
  rw [allR_take_succ l i hi, ← wrapN (i := i) (by omega)] at this
  have h4 := specFl_l1 l i hi (hz _ (List.getElem_mem hi)) (allR (l.take i)) (by omega) hl _ this l[i].f0.length 0 (by omega)
  rw [List.take_zero, List.append_nil] at h4
  exact Ev.step (fun k => rfl) (Ev.iteT (by omega) h4)
theorem specFl_ev (l : List S47) (hz : ∀ q ∈ l, q.f0.length ≤ 1048576) : Ev (fun k => spec_FlakyIds.f k l) (flakyR l) := by
 unfold spec_FlakyIds.f flakyR
 by_cases c : (l.length : Int) > 5
 ·rw [if_pos c]
  exact Ev.iteT c (Ev.some_ rfl)
 ·rw [if_neg c]
  exact Ev.iteF c (specFl_l0 l (by omega) hz l.length 0 (by omega))
theorem flakyR_length (l : List S47) (hz : ∀ q ∈ l, q.f0.length ≤ 1048576) : (flakyR l).length ≤ 5242880 := by
 unfold flakyR
 by_cases c : (l.length : Int) > 5
 ·rw [if_pos c]; simp
 ·rw [if_neg c]
  have h1 := flakyV_length (allR l)
  have h2 := allR_length l hz
  omega
theorem markText_loop (n : Nat) : ∀ (x : ByteArray), n ≤ 4503599627370496 → x.size + n ≤ 4611686018427387903 → ∃ s, Ev (fun k => laws_markText.l0 k (n : Int) x) s := by
 induction n using Nat.strongRecOn with
 | _ n ih =>
  intro x hn hx
  by_cases h : (n : Int) > 0
  ·have ed : Int.tdiv (n : Int) 10 = ((n / 10 : Nat) : Int) := by
    rw [Int.tdiv_eq_ediv_of_nonneg (by omega)]
    omega
   have es : (strOfNums [(wrap64 (48 + (Int.tmod (n : Int) 10))) % 256]).size = 1 := rfl
   obtain ⟨s, hs⟩ := ih (n / 10) (by omega) (strOfNums [(wrap64 (48 + (Int.tmod (n : Int) 10))) % 256] ++ x) (by omega) (by rw [ByteArray.size_append, es]; omega)
   refine ⟨s, Ev.step (fun k => rfl) (Ev.iteT h (Ev.bind0 rfl (Ev.iteT (by rw [es]; omega) ?_)))⟩
   rw [ed, wrapI (by omega)]
   exact hs
  ·exact ⟨_, Ev.step (fun k => rfl) (Ev.iteF h (Ev.iteT (by omega) (Ev.some_ rfl)))⟩
theorem markText_ev (n : Int) (h0 : 0 ≤ n) (h1 : n ≤ 4503599627370496) : ∃ s, Ev (fun k => laws_markText.f k n) s := by
 unfold laws_markText.f
 by_cases h : n ≤ 0
 ·exact ⟨_, Ev.iteT h (Ev.some_ rfl)⟩
 ·obtain ⟨m, rfl⟩ := Int.eq_ofNat_of_zero_le h0
  obtain ⟨s, hs⟩ := markText_loop m ⟨#[]⟩ (by omega) (by show 0 + m ≤ _; omega)
  exact ⟨s, Ev.iteF h hs⟩
/-- A list holds its marks from number a on. -/
def HoldsMarks (l : List ByteArray) (a : Int) : Prop := ∀ (i : Nat) (h : i < l.length), Ev (fun k => laws_markText.f k (a + i)) l[i]
theorem heldStringS_loop (l : List ByteArray) (a : Int) (ha : 0 ≤ a) (hb : a + l.length ≤ 4503599627370496) (hh : HoldsMarks l a) : ∀ (d i : Nat), i + d = l.length →
  Ev (fun k => laws_heldStringS.l0 k l (a + i) (i : Int)) (a + l.length) := by
 intro d
 induction d with
 | zero =>
  intro i hd
  exact Ev.step (fun k => rfl) (Ev.iteF (by omega) (Ev.some_ (by rw [show i = l.length by omega])))
 | succ d ih =>
  intro i hd
  have hi : i < l.length := by omega
  refine Ev.step (fun k => rfl) (Ev.iteT (by omega) (Ev.iteT (by omega) (Ev.bind (hh i hi) (Ev.iteT (by rw [rdOf_nat _ _ _ hi]) ?_))))
  rw [wrapN (by omega), wrapI (x := a + i + 1) (by omega)]
  have := ih (i + 1) (by omega)
  rw [show a + ((i + 1 : Nat) : Int) = a + i + 1 by omega] at this
  exact this
theorem heldStringS_ev (l : List ByteArray) (a : Int) (ha : 0 ≤ a) (hb : a + l.length ≤ 4503599627370496) (hh : HoldsMarks l a) : Ev (fun k => laws_heldStringS.f k l a) (a + l.length) := by
 have := heldStringS_loop l a ha hb hh l.length 0 (by omega)
 simp only [Int.natCast_zero, Int.add_zero] at this
 exact this
theorem markStringS_loop (n : Nat) (a : Int) (ha : 0 ≤ a) (hb : a + n ≤ 4503599627370496) : ∀ (d i : Nat) (l : List ByteArray), i + d = n → l.length = n → (∀ (j : Nat) (h : j < l.length), j < i → Ev (fun k => laws_markText.f k (a + j)) l[j]) →
  ∃ m, Ev (fun k => laws_markStringS.l0 k l (a + i) (i : Int)) (a + n, m) ∧ m.length = n ∧ HoldsMarks m a := by
 intro d
 induction d with
 | zero =>
  intro i l hd hl hh
  exact ⟨l, Ev.step (fun k => rfl) (Ev.iteF (by omega) (Ev.some_ (by rw [show i = n by omega]))), hl, fun j hj => hh j hj (by omega)⟩
 | succ d ih =>
  intro i l hd hl hh
  have hi : i < l.length := by omega
  obtain ⟨s, hs⟩ := markText_ev (a + i) (by omega) (by omega)
  obtain ⟨m, hm, h1, h2⟩ := ih (i + 1) (l.set i s) (by omega) (by rw [List.length_set]; exact hl) (fun j hj hlt => by
   rw [List.getElem_set]
   by_cases e : i = j
   ·subst e
    rw [if_pos rfl]
    exact hs
   ·rw [if_neg e]
    exact hh j (by rw [List.length_set] at hj; exact hj) (by omega))
  refine ⟨m, Ev.step (fun k => rfl) (Ev.iteT (by omega) (Ev.bind hs (Ev.iteT (by omega) ?_))), h1, h2⟩
  rw [wrapN (by omega), wrapI (x := a + i + 1) (by omega), Int.toNat_natCast]
  rw [show a + ((i + 1 : Nat) : Int) = a + i + 1 by omega] at hm
  exact hm
theorem markStringS_ev (l : List ByteArray) (a : Int) (ha : 0 ≤ a) (hb : a + l.length ≤ 4503599627370496) : ∃ m, Ev (fun k => laws_markStringS.f k l a) (a + l.length, m) ∧ m.length = l.length ∧ HoldsMarks m a := by
 obtain ⟨m, h1, h2, h3⟩ := markStringS_loop l.length a ha hb l.length 0 l (by omega) rfl (fun j hj h => absurd h (by omega))
 refine ⟨m, ?_, h2, h3⟩
 simp only [Int.natCast_zero, Int.add_zero] at h1
 exact h1
theorem markStringN_ev : ∀ (n : Nat) (a : Int), 0 ≤ a → a + n ≤ 4503599627370496 → Ev (fun k => laws_markStringS.n k n a) (a + n)
 | 0, a, _, _ => ⟨0, fun k _ => by unfold laws_markStringS.n; simp⟩
 | n + 1, a, h0, h1 => by
  obtain ⟨s, hs⟩ := markText_ev a h0 (by omega)
  have := markStringN_ev n (a + 1) (by omega) (by omega)
  rw [show a + 1 + (n : Int) = a + ((n + 1 : Nat) : Int) by omega] at this
  refine Ev.congr (f := fun k => (laws_markText.f k a).bind fun _ => laws_markStringS.n k n (wrap64 (a + 1))) (fun k => by rw [laws_markStringS.n]) (Ev.bind hs ?_)
  rw [wrapI (by omega)]
  exact this
theorem markResultN_ev : ∀ (n : Nat) (a : Int), 0 ≤ a → a + 2 * n ≤ 4503599627370496 → Ev (fun k => laws_markResultSW.n k n a) (a + 2 * n)
 | 0, a, _, _ => ⟨0, fun k _ => by unfold laws_markResultSW.n; simp⟩
 | n + 1, a, h0, h1 => by
  obtain ⟨s, hs⟩ := markText_ev a h0 (by omega)
  have := markResultN_ev n (a + 2) (by omega) (by omega)
  rw [show a + 2 + 2 * (n : Int) = a + 2 * ((n + 1 : Nat) : Int) by omega] at this
  refine Ev.congr (f := fun k => (laws_markText.f k a).bind fun _ => laws_markResultSW.n k n (wrap64 (wrap64 (a + 1) + 1))) (fun k => by rw [laws_markResultSW.n]) (Ev.bind hs ?_)
  rw [wrapI (x := a + 1) (by omega), wrapI (x := a + 1 + 1) (by omega), show a + 1 + 1 = a + 2 by omega]
  exact this
theorem markReportN_ev : ∀ (l : List S47) (a : Int), (∀ q ∈ l, SzReport q) → 0 ≤ a → a + 3145728 * l.length ≤ 4503599627370496 → ∃ r, Ev (fun k => laws_markReportS.n k l a) r ∧ a ≤ r
 | [], a, _, _, _ => ⟨a, ⟨0, fun k _ => by unfold laws_markReportS.n; rfl⟩, Int.le_refl _⟩
 | x :: t, a, hz, h0, h1 => by
  have hx := hz x (by simp)
  have h2 := hx.r0
  have h3 := hx.r1
  simp only [List.length_cons] at h1
  have m2 := markResultN_ev x.f0.length a (by omega) (by omega)
  have m3 := markStringN_ev x.f1.length (a + 2 * x.f0.length) (by omega) (by omega)
  obtain ⟨r, hr, hle⟩ := markReportN_ev t (a + 2 * x.f0.length + x.f1.length) (fun q hq => hz q (by simp [hq])) (by omega) (by omega)
  exact ⟨r, Ev.congr (f := fun k => (laws_markResultSW.n k x.f0.length a).bind fun b0 => (laws_markStringS.n k x.f1.length b0).bind fun b1 => laws_markReportS.n k t b1) (fun k => by rw [laws_markReportS.n]) (Ev.bind m2 (Ev.bind m3 hr)), by omega⟩
theorem markReportS_ev (l : List S47) (hl : l.length ≤ 1048576) (hz : ∀ q ∈ l, SzReport q) : ∃ r, Ev (fun k => laws_markReportS.f k l 1) r ∧ 1 ≤ r := by
 unfold laws_markReportS.f
 exact markReportN_ev l 1 hz (by omega) (by omega)
end Go.Proofs.Ytieghkchhjailaa.V
