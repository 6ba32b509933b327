/- Plain laws, without Go, that the law FnExactGroupModules leans on. No condition. -/
import Derived.Test.YtadhfpbkanobnaaUx0
import Derived.Test.YtadhfpbkanobnaaUx1
import Derived.Test.YtadhfpbkanobnaaUx2
import Derived.Test.YtadhfpbkanobnaaUx3
import Derived.Test.YtadhfpbkanobnaaUx4
import Derived.Test.YtadhfpbkanobnaaUx5
import Derived.Test.YtadhfpbkanobnaaUx6
import Derived.Test.YtadhfpbkanobnaaUx7
import Derived.Test.YtadhfpbkanobnaaUx8
import Derived.Test.YtadhfpbkanobnaaUx9
import Derived.Test.YtadhfpbkanobnaaUx10
import Derived.Test.YtadhfpbkanobnaaUx11
import Derived.Test.YtadhfpbkanobnaaUx12
import Derived.Test.YtadhfpbkanobnaaWMore
import Derived.IntWalk
import Derived.Lib.Bytealg
import Derived.Lib.Strings
import Derived.Sort.Walk0
set_option linter.unusedSimpArgs false
set_option linter.unusedVariables false
namespace Go.Proofs.Ytadhfpbkanobnaa.U
open Go.RowKit Go.Proofs.YtadhfpbkanobnaaW.PrintWords Go.Proofs.YtadhfpbkanobnaaW.PrintLast Go.Proofs.YtadhfpbkanobnaaW.PrintMore
theorem Ev.iteT {α : Type} {c : Prop} [Decidable c] {g f : Nat → Option α} {r : α} (h : c) (k : Ev g r) : Ev (fun n => if c then g n else f n) r := by
 simpa only [if_pos h] using k
theorem Ev.iteF {α : Type} {c : Prop} [Decidable c] {g f : Nat → Option α} {r : α} (h : ¬ c) (k : Ev f r) : Ev (fun n => if c then g n else f n) r := by
 simpa only [if_neg h] using k
/-- A callee without rounds. -/
theorem Ev.bind0 {α β : Type} {g : Option α} {f : Nat → α → Option β} {a : α} {r : β} (h : g = some a) (k : Ev (fun n => f n a) r) : Ev (fun n => g.bind (f n)) r := by
 subst h
 simpa only [Option.bind_some] using k
theorem Ev.some_ {α : Type} {x r : α} (h : x = r) : Ev (fun _ => some x) r := ⟨0, fun _ _ => by rw [h]⟩
theorem Ev.bool {b r : Bool} (h : b = r) : Ev (fun _ => some b) r := Ev.some_ h
theorem wrapN {i : Nat} (h : i < 4611686018427387904) : wrap64 ((i : Int) + 1) = ((i + 1 : Nat) : Int) := by
 unfold wrap64
 omega
theorem wrapI {x : Int} (h : -9223372036854775808 ≤ x ∧ x ≤ 9223372036854775807) : wrap64 x = x := by
 unfold wrap64
 omega
theorem rdOf_nat {α : Type} (d : α) (l : List α) (i : Nat) (h : i < l.length) : rdOf d l (i : Int) = l[i] := by
 simp [rdOf, List.getD_eq_getElem?_getD, List.getElem?_eq_getElem h]
theorem getD_nat {α : Type} (d : α) (l : List α) (i : Nat) (h : i < l.length) : l.getD (i : Int).toNat d = l[i] := by
 simp [List.getD_eq_getElem?_getD, List.getElem?_eq_getElem h]
theorem size_list (s : ByteArray) : s.data.toList.length = s.size := by rw [Array.length_toList]; rfl
theorem bt_nat (s : ByteArray) (i : Nat) (h : i < s.data.toList.length) : bt s (i : Int) = ((s.data.toList[i]).toNat : Int) := by
 have h' : i < s.size := by rw [← size_list]; exact h
 unfold bt
 rw [dif_pos (by simpa using h')]
 rfl
/-- A list seen from place i on. -/
theorem drop_cons {α : Type} {l : List α} {i : Nat} {b : α} {t : List α} (h : l.drop i = b :: t) : ∃ hi : i < l.length, l[i] = b ∧ l.drop (i + 1) = t := by
 have hi : i < l.length := by
  rcases Nat.lt_or_ge i l.length with h1 | h1
  ·exact h1
  ·rw [List.drop_of_length_le h1] at h
   cases h
 refine ⟨hi, ?_, ?_⟩
 ·rw [List.drop_eq_getElem_cons hi] at h
  exact (List.cons.inj h).1
 ·rw [List.drop_eq_getElem_cons hi] at h
  exact (List.cons.inj h).2
theorem drop_nil {α : Type} {l : List α} {i : Nat} (h : l.drop i = []) : l.length ≤ i := by
 have := congrArg List.length h
 rw [List.length_drop] at this
 simpa using Nat.sub_eq_zero_iff_le.1 this
theorem toList_inj {a b : ByteArray} (h : a.toList = b.toList) : a = b := by
 rw [Lib.toList_data, Lib.toList_data] at h
 cases a with
 | mk x => cases b with
  | mk y =>
   have : x = y := Array.ext' h
   rw [this]
theorem toList_iff {a b : ByteArray} : a.toList = b.toList ↔ a = b := ⟨toList_inj, fun h => by rw [h]⟩
def lowB (b : UInt8) : Bool := decide (97 ≤ (b.toNat : Int)) && decide ((b.toNat : Int) ≤ 122)
/-- What is asked of a name behind its letters. -/
def nameEnd (s : ByteArray) : Bool := decide (1 ≤ s.size) && (decide (s.size ≤ 6) && (s.toList != ([97, 110, 100] : List UInt8) && (s.toList != ([111, 114] : List UInt8) && s.toList != ([110, 111, 116] : List UInt8))))
def nameS (s : ByteArray) : Bool := s.data.toList.all lowB && nameEnd s
theorem nameOk_loop (s : ByteArray) (hs : s.size ≤ 4611686018427387903) : ∀ (t : List UInt8) (i : Nat), s.data.toList.drop i = t → i ≤ s.size →
  Ev (fun k => impl_nameOk.l0 k s (s.size : Int) (i : Int)) (t.all lowB && nameEnd s) := by
 intro t
 induction t with
 | nil =>
  intro i h hi
  have hl := drop_nil h
  rw [size_list] at hl
  refine Ev.step (fun k => rfl) (Ev.iteF (by omega) ?_)
  simp only [List.all_nil, Bool.true_and]
  unfold nameEnd
  by_cases h1 : 1 ≤ s.size
  ·refine Ev.iteT (by omega) ?_
   by_cases h2 : s.size ≤ 6
   ·refine Ev.iteT (by omega) ?_
    by_cases h3 : s.toList = ([97, 110, 100] : List UInt8)
    ·exact Ev.iteT h3 (Ev.bool (by simp [h3]))
    ·refine Ev.iteF h3 ?_
     by_cases h4 : s.toList = ([111, 114] : List UInt8)
     ·exact Ev.iteT h4 (Ev.bool (by simp [h4]))
     ·exact Ev.iteF h4 (Ev.bool (by simp [h1, h2, bne_iff_ne.2 h3, bne_iff_ne.2 h4]))
   ·exact Ev.iteF (by omega) (Ev.bool (by simp [h2]))
  ·exact Ev.iteF (by omega) (Ev.bool (by simp [h1]))
 | cons b t ih =>
  intro i h hi
  obtain ⟨hl, hb, ht⟩ := drop_cons h
  have hl' := hl
  rw [size_list] at hl'
  refine Ev.step (fun k => rfl) (Ev.iteT (by omega) (Ev.iteT (by omega) (Ev.iteT (by omega) ?_)))
  rw [bt_nat s i hl, hb]
  by_cases h1 : (b.toNat : Int) < 97
  ·exact Ev.iteT h1 (Ev.bool (by simp [lowB]; omega))
  ·refine Ev.iteF h1 ?_
   by_cases h2 : (b.toNat : Int) > 122
   ·exact Ev.iteT h2 (Ev.bool (by simp [lowB]; omega))
   ·refine Ev.iteF h2 ?_
    rw [wrapN (by omega)]
    have := ih (i + 1) ht (by omega)
    have e : lowB b = true := by simp [lowB]; omega
    simpa [List.all_cons, e] using this
theorem nameOk_ev (s : ByteArray) (hs : s.size ≤ 4611686018427387903) : Ev (fun k => impl_nameOk.f k s) (nameS s) :=
 nameOk_loop s hs _ 0 rfl (Nat.zero_le _)
theorem inRange_ev (a b c : Int) : spec_inRange.f a b c = some (decide (b ≤ a ∧ a ≤ c)) := by
 unfold spec_inRange.f
 by_cases h : b ≤ a
 ·rw [if_pos h]
  simp [h]
 ·rw [if_neg h]
  simp [h]
theorem validName_loop (s : ByteArray) (hs : s.size ≤ 4611686018427387903) : ∀ (t : List UInt8) (i : Nat), s.data.toList.drop i = t → i ≤ s.size →
  Ev (fun k => spec_validName.l0 k s (i : Int)) (t.all lowB && nameEnd s) := by
 intro t
 induction t with
 | nil =>
  intro i h hi
  have hl := drop_nil h
  rw [size_list] at hl
  refine Ev.step (fun k => rfl) (Ev.iteF (by omega) (Ev.bind0 (inRange_ev _ _ _) ?_))
  simp only [List.all_nil, Bool.true_and]
  unfold nameEnd
  by_cases h1 : 1 ≤ s.size
  ·by_cases h2 : s.size ≤ 6
   ·refine Ev.iteT (by simp; omega) ?_
    by_cases h3 : s.toList = ([97, 110, 100] : List UInt8)
    ·exact Ev.iteT h3 (Ev.bool (by simp [h3]))
    ·refine Ev.iteF h3 ?_
     by_cases h4 : s.toList = ([111, 114] : List UInt8)
     ·exact Ev.iteT h4 (Ev.bool (by simp [h4]))
     ·exact Ev.iteF h4 (Ev.bool (by simp [h1, h2, bne_iff_ne.2 h3, bne_iff_ne.2 h4]))
   ·exact Ev.iteF (by simp; omega) (Ev.bool (by simp [h2]))
  ·exact Ev.iteF (by simp; omega) (Ev.bool (by simp [h1]))
 | cons b t ih =>
  intro i h hi
  obtain ⟨hl, hb, ht⟩ := drop_cons h
  have hl' := hl
  rw [size_list] at hl'
  refine Ev.step (fun k => rfl) (Ev.iteT (by omega) (Ev.iteT (by omega) ?_))
  rw [bt_nat s i hl, hb]
  by_cases h1 : (b.toNat : Int) < 97
  ·exact Ev.iteT h1 (Ev.bool (by simp [lowB]; omega))
  ·refine Ev.iteF h1 ?_
   by_cases h2 : (b.toNat : Int) > 122
   ·exact Ev.iteT h2 (Ev.bool (by simp [lowB]; omega))
   ·refine Ev.iteF h2 ?_
    rw [wrapN (by omega)]
    have := ih (i + 1) ht (by omega)
    have e : lowB b = true := by simp [lowB]; omega
    simpa [List.all_cons, e] using this
theorem validName_ev (s : ByteArray) (hs : s.size ≤ 4611686018427387903) : Ev (fun k => spec_validName.f k s) (nameS s) :=
 validName_loop s hs _ 0 rfl (Nat.zero_le _)
def memB (l : List ByteArray) (x : ByteArray) : Bool := l.any fun y => decide (y = x)
theorem memB_iff {l : List ByteArray} {x : ByteArray} : memB l x = true ↔ x ∈ l := by
 simp [memB]
theorem memB_eq {l : List ByteArray} {x : ByteArray} {p : Prop} [Decidable p] (h : p ↔ x ∈ l) : decide p = memB l x := by
 rw [Bool.eq_iff_iff, memB_iff]
 simpa using h
theorem index_loop (l : List ByteArray) (x : ByteArray) (hl : l.length ≤ 4611686018427387903) : ∀ (t : List ByteArray) (i : Nat), l.drop i = t → i ≤ l.length →
  ∃ r : Int, Ev (fun k => slices_Index_string_string.l0 k l x (l.length : Int) (i : Int)) r ∧ (0 ≤ r ↔ x ∈ t) := by
 intro t
 induction t with
 | nil =>
  intro i h hi
  have hl2 := drop_nil h
  exact ⟨-1, Ev.step (fun k => rfl) (Ev.iteF (by omega) (Ev.some_ rfl)), by simp⟩
 | cons b t ih =>
  intro i h hi
  obtain ⟨hl2, hb, ht⟩ := drop_cons h
  by_cases h1 : x = b
  ·refine ⟨(i : Int), Ev.step (fun k => rfl) (Ev.iteT (by omega) (Ev.iteT (by omega) (Ev.iteT (by omega) (Ev.iteT ?_ (Ev.some_ rfl))))), by simp [h1]⟩
   rw [rdOf_nat _ _ _ hl2, hb, h1]
  ·obtain ⟨r, hr, hm⟩ := ih (i + 1) ht (by omega)
   refine ⟨r, Ev.step (fun k => rfl) (Ev.iteT (by omega) (Ev.iteT (by omega) (Ev.iteT (by omega) (Ev.iteF ?_ ?_)))), by simp [h1, hm]⟩
   ·rw [rdOf_nat _ _ _ hl2, hb, toList_iff]
    exact h1
   ·rw [wrapN (by omega)]
    exact hr
theorem contains_ev (l : List ByteArray) (x : ByteArray) (hl : l.length ≤ 4611686018427387903) : Ev (fun k => slices_Contains_string_string.f k l x) (memB l x) := by
 obtain ⟨r, hr, hm⟩ := index_loop l x hl l 0 rfl (Nat.zero_le _)
 exact Ev.bind hr (Ev.bool (memB_eq hm))
theorem nodup_take_succ {α : Type} (l : List α) (i : Nat) (h : i < l.length) : (l.take (i + 1)).Nodup ↔ (l.take i).Nodup ∧ l[i] ∉ l.take i := by
 rw [List.take_succ_eq_append_getElem h, List.nodup_append]
 simp only [List.nodup_cons, List.not_mem_nil, not_false_eq_true, List.nodup_nil, and_self, true_and, List.mem_singleton, forall_eq]
 exact ⟨fun ⟨a, b⟩ => ⟨a, fun hm => b _ hm rfl⟩, fun ⟨a, b⟩ => ⟨a, fun x hx e => b (e ▸ hx)⟩⟩
theorem nodup_of_take {α : Type} (l : List α) (i : Nat) (h : ¬ (l.take i).Nodup) : ¬ l.Nodup := fun hn => h (hn.sublist (List.take_sublist _ _))
/-- All in a list are of a size that numbers hold. -/
def SizesOk (l : List ByteArray) : Prop := ∀ x ∈ l, x.size ≤ 4611686018427387903
theorem hasText_loop (l : List ByteArray) (x : ByteArray) (hl : l.length ≤ 4611686018427387903) : ∀ (t : List ByteArray) (i : Nat), l.drop i = t → i ≤ l.length →
  Ev (fun k => spec_hasText.l0 k l x (i : Int)) (memB t x) := by
 intro t
 induction t with
 | nil =>
  intro i h hi
  have hl2 := drop_nil h
  exact Ev.step (fun k => rfl) (Ev.iteF (by omega) (Ev.some_ rfl))
 | cons b t ih =>
  intro i h hi
  obtain ⟨hl2, hb, ht⟩ := drop_cons h
  refine Ev.step (fun k => rfl) (Ev.iteT (by omega) (Ev.iteT (by omega) ?_))
  rw [rdOf_nat _ _ _ hl2, hb]
  by_cases h1 : b = x
  ·exact Ev.iteT (by rw [h1]) (Ev.some_ (by simp [memB, h1]))
  ·refine Ev.iteF (by rw [toList_iff]; exact h1) ?_
   rw [wrapN (by omega)]
   have e : memB (b :: t) x = memB t x := by simp [memB, h1]
   rw [e]
   exact ih (i + 1) ht (by omega)
theorem hasText_ev (l : List ByteArray) (x : ByteArray) (hl : l.length ≤ 4611686018427387903) : Ev (fun k => spec_hasText.f k l x) (memB l x) :=
 hasText_loop l x hl l 0 rfl (Nat.zero_le _)
/-- What a copy holds after i rounds. -/
def half {α β : Type} (f : α → β) (z : β) (l : List α) (i : Nat) : List β := (l.take i).map f ++ List.replicate (l.length - i) z
theorem half_zero {α β : Type} (f : α → β) (z : β) (l : List α) : half f z l 0 = List.replicate l.length z := by simp [half]
theorem half_full {α β : Type} (f : α → β) (z : β) (l : List α) : half f z l l.length = l.map f := by simp [half]
theorem half_length {α β : Type} (f : α → β) (z : β) (l : List α) (i : Nat) (h : i ≤ l.length) : (half f z l i).length = l.length := by
 simp [half]
 omega
theorem half_set {α β : Type} (f : α → β) (z : β) (l : List α) (i : Nat) (h : i < l.length) : (half f z l i).set i (f l[i]) = half f z l (i + 1) := by
 have e : l.length - i = (l.length - (i + 1)) + 1 := by omega
 have hl : ((l.take i).map f).length = i := by
  rw [List.length_map, List.length_take]
  omega
 unfold half
 rw [List.set_append_right _ _ (by omega), hl, Nat.sub_self, e, List.replicate_succ, List.set_cons_zero, List.take_succ_eq_append_getElem h, List.map_append, List.append_assoc]
 rfl
structure FewText (l : List ByteArray) : Prop where
 len : l.length ≤ 1048576
 ids : ∀ q ∈ l, q.size ≤ 1048576
theorem FewText.sizes {l : List ByteArray} (h : FewText l) : SizesOk l := fun x hx => by have := h.ids x hx; omega
theorem szStringS_loop (l : List ByteArray) (hl : l.length ≤ 1048576) (hz : ∀ q ∈ l, q.size ≤ maxLen) : ∀ (t : List ByteArray) (i : Nat) (left : Int), l.drop i = t → i ≤ l.length → 0 ≤ left → left ≤ 1048576 →
  ∃ r, Ev (fun k => laws_szStringS.l0 k l left (i : Int)) r ∧ r ≤ 1048576 ∧ (0 ≤ r → ∀ q ∈ t, q.size ≤ 1048576) := by
 intro t
 induction t with
 | nil =>
  intro i left h hi h0 h1
  have hl2 := drop_nil h
  exact ⟨left, Ev.step (fun k => rfl) (Ev.iteF (by omega) (Ev.some_ rfl)), h1, fun _ q hq => by cases hq⟩
 | cons q t ih =>
  intro i left h hi h0 h1
  obtain ⟨hl2, hb, ht⟩ := drop_cons h
  have hq : q.size ≤ maxLen := hz q (hb ▸ List.getElem_mem hl2)
  unfold maxLen at hq
  have ew : wrap64 (left - (q.size : Int)) = left - q.size := wrapI (by omega)
  by_cases c : left - q.size < 0
  ·refine ⟨-1, Ev.step (fun k => rfl) (Ev.iteT (by omega) (Ev.iteT (by omega) ?_)), by omega, fun h => by omega⟩
   rw [rdOf_nat _ _ _ hl2, hb, ew]
   exact Ev.iteT c (Ev.some_ rfl)
  ·obtain ⟨r, hr, h2, h3⟩ := ih (i + 1) (left - q.size) ht (by omega) (by omega) (by omega)
   refine ⟨r, Ev.step (fun k => rfl) (Ev.iteT (by omega) (Ev.iteT (by omega) ?_)), h2, fun h0 p hp => ?_⟩
   ·rw [rdOf_nat _ _ _ hl2, hb, ew, wrapN (by omega)]
    exact Ev.iteF c hr
   ·rcases List.mem_cons.1 hp with rfl | hp
    ·omega
    ·exact h3 h0 p hp
theorem szStringS_ev (l : List ByteArray) (hl : l.length ≤ maxLen) (hz : ∀ q ∈ l, q.size ≤ maxLen) (left : Int) (h0 : 0 ≤ left) (h1 : left ≤ 1048576) :
  ∃ r, Ev (fun k => laws_szStringS.f k l left) r ∧ r ≤ 1048576 ∧ (0 ≤ r → FewText l) := by
 unfold maxLen at hl
 have ew : wrap64 (left - (l.length : Int)) = left - l.length := wrapI (by omega)
 unfold laws_szStringS.f
 rw [ew]
 by_cases c : left - l.length < 0
 ·exact ⟨-1, Ev.iteT c (Ev.some_ rfl), by omega, fun h => by omega⟩
 ·obtain ⟨r, hr, h2, h3⟩ := szStringS_loop l (by omega) hz l 0 (left - l.length) rfl (Nat.zero_le _) (by omega) (by omega)
  exact ⟨r, Ev.iteF c hr, h2, fun h => ⟨by omega, h3 h⟩⟩
theorem toStringS_loop (l : List ByteArray) (hl : l.length ≤ 1048576) : ∀ (d i : Nat), i + d = l.length →
  Ev (fun k => laws_toStringS.l0 k l (half id (⟨#[]⟩ : ByteArray) l i) (i : Int)) l := by
 intro d
 induction d with
 | zero =>
  intro i hd
  obtain rfl : i = l.length := by omega
  exact Ev.step (fun k => rfl) (Ev.iteF (by omega) (Ev.some_ (by rw [half_full]; simp)))
 | succ d ih =>
  intro i hd
  have hi : i < l.length := by omega
  refine Ev.step (fun k => rfl) (Ev.iteT (by omega) (Ev.iteT (by omega) ?_))
  rw [rdOf_nat _ _ _ hi]
  refine Ev.iteT (by rw [half_length _ _ _ _ (by omega)]; omega) ?_
  rw [wrapN (by omega), Int.toNat_natCast]
  have := ih (i + 1) (by omega)
  rw [← half_set id _ l i hi] at this
  exact this
theorem toStringS_ev (l : List ByteArray) (hl : l.length ≤ 1048576) : Ev (fun k => laws_toStringS.f k l) l := by
 unfold laws_toStringS.f
 rw [Int.toNat_natCast]
 have := toStringS_loop l hl l.length 0 (by omega)
 rw [half_zero] at this
 exact Ev.iteT (by omega) (Ev.iteT (by omega) this)
theorem eqStringS_loop (l : List ByteArray) (hl : l.length ≤ 4611686018427387903) : ∀ (d i : Nat), i + d = l.length → Ev (fun k => laws_eqStringS.l0 k l l (i : Int)) true := by
 intro d
 induction d with
 | zero =>
  intro i hd
  exact Ev.step (fun k => rfl) (Ev.iteF (by omega) (Ev.some_ rfl))
 | succ d ih =>
  intro i hd
  refine Ev.step (fun k => rfl) (Ev.iteT (by omega) (Ev.iteT (by omega) (Ev.iteT (by omega) (Ev.iteT rfl ?_))))
  rw [wrapN (by omega)]
  exact ih (i + 1) (by omega)
theorem eqStringS_ev (l : List ByteArray) (hl : l.length ≤ 4611686018427387903) : Ev (fun k => laws_eqStringS.f k l l) true := by
 unfold laws_eqStringS.f
 exact Ev.iteT rfl (eqStringS_loop l hl l.length 0 (by omega))
def namesS (l : List ByteArray) (m : Int) : Bool := l.all nameS && (decide l.Nodup && decide ((l.length : Int) ≤ m))
theorem namesOk_loop (l : List ByteArray) (m : Int) (hl : l.length ≤ 4611686018427387903) (hz : SizesOk l) : ∀ (t : List ByteArray) (i : Nat), l.drop i = t → i ≤ l.length → (l.take i).Nodup →
  Ev (fun k => impl_namesOk.l0 k l m l (l.length : Int) (i : Int)) (t.all nameS && (decide l.Nodup && decide ((l.length : Int) ≤ m))) := by
 intro t
 induction t with
 | nil =>
  intro i h hi hn
  have hl2 := drop_nil h
  rw [List.take_of_length_le hl2] at hn
  exact Ev.step (fun k => rfl) (Ev.iteF (by omega) (Ev.some_ (by simp [hn])))
 | cons b t ih =>
  intro i h hi hn
  obtain ⟨hl2, hb, ht⟩ := drop_cons h
  have hs : b.size ≤ 4611686018427387903 := hz b (hb ▸ List.getElem_mem hl2)
  refine Ev.step (fun k => rfl) (Ev.iteT (by omega) (Ev.iteT (by omega) (Ev.iteT (by omega) ?_)))
  rw [rdOf_nat _ _ _ hl2, hb, Int.toNat_natCast]
  refine Ev.bind (nameOk_ev b hs) ?_
  cases hnm : nameS b with
  | false => exact Ev.iteF (by simp) (Ev.bool (by simp [hnm]))
  | true =>
   refine Ev.iteT rfl (Ev.iteT (by omega) (Ev.bind (contains_ev (l.take i) b (by rw [List.length_take]; omega)) ?_))
   by_cases hm : b ∈ l.take i
   ·refine Ev.iteT (memB_iff.2 hm) (Ev.bool ?_)
    have : ¬ l.Nodup := nodup_of_take l (i + 1) (fun h => ((nodup_take_succ l i hl2).1 h).2 (hb ▸ hm))
    simp [this]
   ·refine Ev.iteF (by rw [memB_iff]; exact hm) ?_
    rw [wrapN (by omega)]
    simpa [List.all_cons, hnm] using ih (i + 1) ht (by omega) ((nodup_take_succ l i hl2).2 ⟨hn, hb ▸ hm⟩)
theorem namesOk_ev (l : List ByteArray) (m : Int) (hl : l.length ≤ 4611686018427387903) (hz : SizesOk l) : Ev (fun k => impl_namesOk.f k l m) (namesS l m) :=
 namesOk_loop l m hl hz l 0 rfl (Nat.zero_le _) (by simp)
theorem validNames_loop (l : List ByteArray) (m : Int) (hl : l.length ≤ 4611686018427387903) (hz : SizesOk l) : ∀ (t : List ByteArray) (i : Nat), l.drop i = t → i ≤ l.length → (l.take i).Nodup →
  Ev (fun k => spec_validNames.l0 k l m (i : Int)) (t.all nameS && (decide l.Nodup && decide ((l.length : Int) ≤ m))) := by
 intro t
 induction t with
 | nil =>
  intro i h hi hn
  have hl2 := drop_nil h
  rw [List.take_of_length_le hl2] at hn
  exact Ev.step (fun k => rfl) (Ev.iteF (by omega) (Ev.some_ (by simp [hn])))
 | cons b t ih =>
  intro i h hi hn
  obtain ⟨hl2, hb, ht⟩ := drop_cons h
  have hs : b.size ≤ 4611686018427387903 := hz b (hb ▸ List.getElem_mem hl2)
  refine Ev.step (fun k => rfl) (Ev.iteT (by omega) (Ev.iteT (by omega) ?_))
  rw [rdOf_nat _ _ _ hl2, hb, Int.toNat_natCast]
  refine Ev.bind (validName_ev b hs) ?_
  cases hnm : nameS b with
  | false => exact Ev.iteF (by simp) (Ev.bool (by simp [hnm]))
  | true =>
   refine Ev.iteT rfl (Ev.iteT (by omega) (Ev.bind (hasText_ev (l.take i) b (by rw [List.length_take]; omega)) ?_))
   by_cases hm : b ∈ l.take i
   ·refine Ev.iteT (memB_iff.2 hm) (Ev.bool ?_)
    have : ¬ l.Nodup := nodup_of_take l (i + 1) (fun h => ((nodup_take_succ l i hl2).1 h).2 (hb ▸ hm))
    simp [this]
   ·refine Ev.iteF (by rw [memB_iff]; exact hm) ?_
    rw [wrapN (by omega)]
    simpa [List.all_cons, hnm] using ih (i + 1) ht (by omega) ((nodup_take_succ l i hl2).2 ⟨hn, hb ▸ hm⟩)
theorem validNames_ev (l : List ByteArray) (m : Int) (hl : l.length ≤ 4611686018427387903) (hz : SizesOk l) : Ev (fun k => spec_validNames.f k l m) (namesS l m) :=
 validNames_loop l m hl hz l 0 rfl (Nat.zero_le _) (by simp)
theorem less_flip {a b : ByteArray} (h : a ≠ b) : Op.bytesLess b.toList a.toList = !(Op.bytesLess a.toList b.toList) := by
 rw [Go.Proofs.bytesLess_eq, Go.Proofs.bytesLess_eq]
 have hne : a.toList ≠ b.toList := fun e => h (toList_inj e)
 by_cases h1 : a.toList < b.toList
 ·have h2 : ¬ b.toList < a.toList := List.lt_asymm h1
  simp [h1, h2]
 ·have h2 : b.toList < a.toList := by
   rcases List.le_iff_lt_or_eq.1 (List.not_lt.1 h1) with h2 | h2
   ·exact h2
   ·exact absurd h2.symm hne
  simp [h1, h2]
def pairS (l : List ByteArray) (i : Nat) : Bool := Op.bytesLess (l.getD i ByteArray.empty).toList (l.getD (i + 1) ByteArray.empty).toList
def ascS (l : List ByteArray) : Bool := (List.range (l.length - 1)).all (pairS l)
theorem pairS_at (l : List ByteArray) (i : Nat) (h : i + 1 < l.length) : pairS l i = Op.bytesLess (l[i]).toList (l[i + 1]).toList := by
 unfold pairS
 rw [List.getD_eq_getElem?_getD, List.getD_eq_getElem?_getD, List.getElem?_eq_getElem h, List.getElem?_eq_getElem (by omega)]
 rfl
theorem ascending_loop (l : List ByteArray) (hl : l.length ≤ 4611686018427387903) : ∀ (d i : Nat), i + 1 + d = l.length →
  Ev (fun k => spec_ascending.l0 k l ((i + 1 : Nat) : Int)) ((List.range' i d).all (pairS l)) := by
 intro d
 induction d with
 | zero =>
  intro i hd
  exact Ev.step (fun k => rfl) (Ev.iteF (by omega) (Ev.some_ (by simp)))
 | succ d ih =>
  intro i hd
  have e : wrap64 (((i + 1 : Nat) : Int) - 1) = (i : Int) := by rw [wrapI (by omega)]; omega
  refine Ev.step (fun k => rfl) (Ev.iteT (by omega) (Ev.iteT (by omega) ?_))
  rw [e, rdOf_nat _ _ i (by omega), rdOf_nat _ _ (i + 1) (by omega), wrapN (by omega), List.range'_succ, List.all_cons, pairS_at l i (by omega)]
  refine Ev.iteT (by omega) (Ev.iteT (by omega) ?_)
  cases hp : Op.bytesLess (l[i]).toList (l[i + 1]).toList with
  | true => exact Ev.iteT rfl (by simpa using ih (i + 1) (by omega))
  | false => exact Ev.iteF (by simp) (Ev.bool (by simp))
theorem ascending_ev (l : List ByteArray) (hl : l.length ≤ 4611686018427387903) : Ev (fun k => spec_ascending.f k l) (ascS l) := by
 unfold spec_ascending.f ascS
 by_cases h : l.length = 0
 ·refine Ev.step (fun k => rfl) (Ev.iteF (by omega) (Ev.some_ ?_))
  rw [h]
  rfl
 ·have := ascending_loop l hl (l.length - 1) 0 (by omega)
  rw [List.range_eq_range']
  exact this
theorem less_eq (a b : ByteArray) : cmp_Less_string.f a b = some (Op.bytesLess a.toList b.toList) := by
 unfold cmp_Less_string.f cmp_isNaN_string.f
 simp
theorem nodup_ne (l : List ByteArray) (h : l.Nodup) (i : Nat) (hi : i + 1 < l.length) : l[i] ≠ l[i + 1] := by
 intro e
 have := (List.getElem_inj h (h₀ := by omega) (h₁ := hi)).1 e
 omega
theorem isSorted_loop (l : List ByteArray) (hl : l.length ≤ 4611686018427387903) (hn : l.Nodup) : ∀ (n : Nat), n + 1 ≤ l.length →
  Ev (fun k => slices_IsSorted_string_string.l0 k l (n : Int)) ((List.range n).all (pairS l)) := by
 intro n
 induction n with
 | zero =>
  intro hd
  exact Ev.step (fun k => rfl) (Ev.iteF (by omega) (Ev.some_ (by simp)))
 | succ n ih =>
  intro hd
  have e : wrap64 (((n + 1 : Nat) : Int) - 1) = (n : Int) := by rw [wrapI (by omega)]; omega
  refine Ev.step (fun k => rfl) (Ev.iteT (by omega) (Ev.iteT (by omega) (Ev.iteT (by omega) ?_)))
  rw [e, rdOf_nat _ _ n (by omega), rdOf_nat _ _ (n + 1) (by omega), List.range_succ, List.all_append, show [n].all (pairS l) = pairS l n by simp, pairS_at l n (by omega)]
  refine Ev.iteT (by omega) (Ev.iteT (by omega) (Ev.bind0 (less_eq _ _) ?_))
  rw [less_flip (nodup_ne l hn n (by omega))]
  cases hp : Op.bytesLess (l[n]).toList (l[n + 1]).toList with
  | true => exact Ev.iteF (by simp) (by simpa [hp] using ih (by omega))
  | false => exact Ev.iteT rfl (Ev.bool (by simp [hp]))
theorem isSorted_ev (l : List ByteArray) (hl : l.length ≤ 4611686018427387903) (hn : l.Nodup) : Ev (fun k => slices_IsSorted_string_string.f k l) (ascS l) := by
 unfold slices_IsSorted_string_string.f ascS
 by_cases h : l.length = 0
 ·have e : wrap64 ((l.length : Int) - 1) = -1 := by rw [h, wrapI (by omega)]; rfl
  rw [e, h]
  exact Ev.step (fun k => rfl) (Ev.iteF (by omega) (Ev.some_ rfl))
 ·have e : wrap64 ((l.length : Int) - 1) = ((l.length - 1 : Nat) : Int) := by rw [wrapI (by omega)]; omega
  rw [e]
  exact isSorted_loop l hl hn (l.length - 1) (by omega)
structure TSz (q : S31) : Prop where
 s0 : q.f0.size ≤ 1048576
 s1 : q.f1.size ≤ 1048576
 r2 : q.f2.length ≤ 1048576 ∧ SizesOk q.f2
 r3 : q.f3.length ≤ 1048576 ∧ SizesOk q.f3
def testS (q : S31) : Bool := nameS q.f0 && (nameS q.f1 && (namesS q.f2 3 && (ascS q.f2 && namesS q.f3 4)))
theorem namesS_nodup {l : List ByteArray} {m : Int} (h : namesS l m = true) : l.Nodup := by
 unfold namesS at h
 simp only [Bool.and_eq_true, decide_eq_true_eq] at h
 exact h.2.1
theorem testOk_ev (q : S31) (h : TSz q) : Ev (fun k => impl_testOk.f k q.f0 q.f1 q.f2 q.f3) (testS q) := by
 unfold impl_testOk.f testS
 have h0 := h.s0
 have h1 := h.s1
 have h2 := h.r2.1
 have h3 := h.r3.1
 refine Ev.bind (nameOk_ev q.f0 (by omega)) ?_
 cases c0 : nameS q.f0 with
 | false => exact Ev.iteF (by simp) (Ev.bool (by simp))
 | true =>
  refine Ev.iteT rfl (Ev.bind (nameOk_ev q.f1 (by omega)) ?_)
  cases c1 : nameS q.f1 with
  | false => exact Ev.iteF (by simp) (Ev.bool (by simp))
  | true =>
   refine Ev.iteT rfl (Ev.bind (namesOk_ev q.f2 3 (by omega) h.r2.2) ?_)
   cases c2 : namesS q.f2 3 with
   | false => exact Ev.iteF (by simp) (Ev.bool (by simp))
   | true =>
    refine Ev.iteT rfl (Ev.bind (isSorted_ev q.f2 (by omega) (namesS_nodup c2)) ?_)
    cases c3 : ascS q.f2 with
    | false => exact Ev.iteF (by simp) (Ev.bool (by simp))
    | true => exact Ev.iteT rfl (Ev.bind (namesOk_ev q.f3 4 (by omega) h.r3.2) (Ev.bool (by simp)))
theorem validTest_ev (q : S31) (h : TSz q) : Ev (fun k => spec_validTest.f k q.f0 q.f1 q.f2 q.f3) (testS q) := by
 unfold spec_validTest.f testS
 have h0 := h.s0
 have h1 := h.s1
 have h2 := h.r2.1
 have h3 := h.r3.1
 refine Ev.bind (validName_ev q.f0 (by omega)) ?_
 cases c0 : nameS q.f0 with
 | false => exact Ev.iteF (by simp) (Ev.bool (by simp))
 | true =>
  refine Ev.iteT rfl (Ev.bind (validName_ev q.f1 (by omega)) ?_)
  cases c1 : nameS q.f1 with
  | false => exact Ev.iteF (by simp) (Ev.bool (by simp))
  | true =>
   refine Ev.iteT rfl (Ev.bind (validNames_ev q.f2 3 (by omega) h.r2.2) ?_)
   cases c2 : namesS q.f2 3 with
   | false => exact Ev.iteF (by simp) (Ev.bool (by simp))
   | true =>
    refine Ev.iteT rfl (Ev.bind (ascending_ev q.f2 (by omega)) ?_)
    cases c3 : ascS q.f2 with
    | false => exact Ev.iteF (by simp) (Ev.bool (by simp))
    | true => exact Ev.iteT rfl (Ev.bind (validNames_ev q.f3 4 (by omega) h.r3.2) (Ev.bool (by simp)))
theorem rdT_nat (l : List S31) (i : Nat) (h : i < l.length) : rd_T31 l (i : Int) = l[i] := by
 unfold rd_T31
 exact getD_nat _ _ _ h
def idV (q : S31) : ByteArray := (q.f0 ++ (⟨#[46]⟩ : ByteArray)) ++ q.f1
theorem implIdOf_eq (q : S31) (h : TSz q) : impl_idOf.f q.f0 q.f1 q.f2 q.f3 = some (idV q) := by
 have h0 := h.s0
 have h1 := h.s1
 unfold impl_idOf.f idV
 rw [if_pos (by omega), if_pos (by omega)]
theorem specIdOf_eq (q : S31) (h : TSz q) : spec_idOf.f q.f0 q.f1 q.f2 q.f3 = some (idV q) := by
 have h0 := h.s0
 have h1 := h.s1
 unfold spec_idOf.f idV
 rw [if_pos (by omega), if_pos (by omega)]
structure TSzS (l : List S31) : Prop where
 len : l.length ≤ 1048576
 one : ∀ q ∈ l, TSz q
def testsS (l : List S31) : Bool := l.all testS && (decide (l.map idV).Nodup && decide ((l.length : Int) ≤ 10))
theorem map_take_get (l : List S31) (i : Nat) (h : i < l.length) : (l.map idV)[i]'(by rw [List.length_map]; exact h) = idV l[i] := List.getElem_map ..
theorem validTestsI_loop (l : List S31) (hl : TSzS l) : ∀ (t : List S31) (i : Nat), l.drop i = t → i ≤ l.length → ((l.map idV).take i).Nodup →
  Ev (fun k => impl_ValidTests.l0 k l ((l.map idV).take i) l (l.length : Int) (i : Int)) (t.all testS && (decide (l.map idV).Nodup && decide ((l.length : Int) ≤ 10))) := by
 have hlen := hl.len
 have hml : (l.map idV).length = l.length := List.length_map ..
 intro t
 induction t with
 | nil =>
  intro i h hi hn
  have hl2 := drop_nil h
  rw [List.take_of_length_le (by omega)] at hn
  exact Ev.step (fun k => rfl) (Ev.iteF (by omega) (Ev.some_ (by simp [hn])))
 | cons b t ih =>
  intro i h hi hn
  obtain ⟨hl2, hb, ht⟩ := drop_cons h
  have hs : TSz b := hl.one b (hb ▸ List.getElem_mem hl2)
  have hg : (l.map idV)[i]'(by omega) = idV b := by rw [map_take_get l i hl2, hb]
  refine Ev.step (fun k => rfl) (Ev.iteT (by omega) (Ev.iteT (by omega) (Ev.iteT (by omega) ?_)))
  rw [rdT_nat _ _ hl2, hb]
  refine Ev.bind (testOk_ev b hs) ?_
  cases hnm : testS b with
  | false => exact Ev.iteF (by simp) (Ev.bool (by simp [hnm]))
  | true =>
   refine Ev.iteT rfl (Ev.bind0 (implIdOf_eq b hs) (Ev.bind (contains_ev ((l.map idV).take i) (idV b) (by rw [List.length_take]; omega)) ?_))
   by_cases hm : idV b ∈ (l.map idV).take i
   ·refine Ev.iteT (memB_iff.2 hm) (Ev.bool ?_)
    have : ¬ (l.map idV).Nodup := nodup_of_take _ (i + 1) (fun h => ((nodup_take_succ _ i (by omega)).1 h).2 (by rw [hg]; exact hm))
    simp [this]
   ·refine Ev.iteF (by rw [memB_iff]; exact hm) (Ev.bind0 (implIdOf_eq b hs) (Ev.iteT (by rw [List.length_take]; omega) ?_))
    rw [wrapN (by omega), ← hg, ← List.take_succ_eq_append_getElem (by omega)]
    simpa [List.all_cons, hnm] using ih (i + 1) ht (by omega) ((nodup_take_succ _ i (by omega)).2 ⟨hn, by rw [hg]; exact hm⟩)
theorem validTestsI_ev (l : List S31) (hl : TSzS l) : Ev (fun k => impl_ValidTests.f k l) (testsS l) := by
 have := validTestsI_loop l hl l 0 rfl (Nat.zero_le _) (by simp)
 exact this
theorem findTest_loop (l : List S31) (hl : TSzS l) (x : ByteArray) : ∀ (t : List S31) (i : Nat), l.drop i = t → i ≤ l.length →
  ∃ r : Int, Ev (fun k => spec_findTest.l0 k l x (i : Int)) r ∧ (0 ≤ r ↔ x ∈ t.map idV) := by
 have hlen := hl.len
 intro t
 induction t with
 | nil =>
  intro i h hi
  have hl2 := drop_nil h
  exact ⟨-1, Ev.step (fun k => rfl) (Ev.iteF (by omega) (Ev.some_ rfl)), by simp⟩
 | cons b t ih =>
  intro i h hi
  obtain ⟨hl2, hb, ht⟩ := drop_cons h
  have hs : TSz b := hl.one b (hb ▸ List.getElem_mem hl2)
  by_cases h1 : idV b = x
  ·refine ⟨(i : Int), Ev.step (fun k => rfl) (Ev.iteT (by omega) (Ev.iteT (by omega) ?_)), by simp [h1]⟩
   rw [rdT_nat _ _ hl2, hb]
   exact Ev.bind0 (specIdOf_eq b hs) (Ev.iteT (by rw [h1]) (Ev.some_ rfl))
  ·obtain ⟨r, hr, hm⟩ := ih (i + 1) ht (by omega)
   refine ⟨r, Ev.step (fun k => rfl) (Ev.iteT (by omega) (Ev.iteT (by omega) ?_)), by rw [List.map_cons, List.mem_cons]; exact ⟨fun h => Or.inr (hm.1 h), fun h => h.elim (fun e => absurd e.symm h1) hm.2⟩⟩
   rw [rdT_nat _ _ hl2, hb]
   refine Ev.bind0 (specIdOf_eq b hs) (Ev.iteF (by rw [toList_iff]; exact h1) ?_)
   rw [wrapN (by omega)]
   exact hr
theorem TSzS.take {l : List S31} (h : TSzS l) (n : Nat) : TSzS (l.take n) := ⟨by have := h.len; rw [List.length_take]; omega, fun q hq => h.one q (List.mem_of_mem_take hq)⟩
theorem validTestsS_loop (l : List S31) (hl : TSzS l) : ∀ (t : List S31) (i : Nat), l.drop i = t → i ≤ l.length → ((l.map idV).take i).Nodup →
  Ev (fun k => spec_validTests.l0 k l (i : Int)) (t.all testS && (decide (l.map idV).Nodup && decide ((l.length : Int) ≤ 10))) := by
 have hlen := hl.len
 have hml : (l.map idV).length = l.length := List.length_map ..
 intro t
 induction t with
 | nil =>
  intro i h hi hn
  have hl2 := drop_nil h
  rw [List.take_of_length_le (by omega)] at hn
  exact Ev.step (fun k => rfl) (Ev.iteF (by omega) (Ev.some_ (by simp [hn])))
 | cons b t ih =>
  intro i h hi hn
  obtain ⟨hl2, hb, ht⟩ := drop_cons h
  have hs : TSz b := hl.one b (hb ▸ List.getElem_mem hl2)
  have hg : (l.map idV)[i]'(by omega) = idV b := by rw [map_take_get l i hl2, hb]
  refine Ev.step (fun k => rfl) (Ev.iteT (by omega) (Ev.iteT (by omega) ?_))
  rw [rdT_nat _ _ hl2, hb, Int.toNat_natCast]
  refine Ev.bind (validTest_ev b hs) ?_
  cases hnm : testS b with
  | false => exact Ev.iteF (by simp) (Ev.bool (by simp [hnm]))
  | true =>
   obtain ⟨r, hr, hm⟩ := findTest_loop (l.take i) (hl.take i) (idV b) (l.take i) 0 rfl (Nat.zero_le _)
   rw [List.map_take] at hm
   refine Ev.iteT rfl (Ev.iteT (by omega) (Ev.bind0 (specIdOf_eq b hs) (Ev.bind hr ?_)))
   by_cases hm2 : idV b ∈ (l.map idV).take i
   ·refine Ev.iteT (hm.2 hm2) (Ev.bool ?_)
    have : ¬ (l.map idV).Nodup := nodup_of_take _ (i + 1) (fun h => ((nodup_take_succ _ i (by omega)).1 h).2 (by rw [hg]; exact hm2))
    simp [this]
   ·refine Ev.iteF (fun h => hm2 (hm.1 h)) ?_
    rw [wrapN (by omega)]
    simpa [List.all_cons, hnm] using ih (i + 1) ht (by omega) ((nodup_take_succ _ i (by omega)).2 ⟨hn, by rw [hg]; exact hm2⟩)
theorem validTestsS_ev (l : List S31) (hl : TSzS l) : Ev (fun k => spec_validTests.f k l) (testsS l) := by
 have := validTestsS_loop l hl l 0 rfl (Nat.zero_le _) (by simp)
 exact this
def addM (o : List ByteArray) (x : ByteArray) : List ByteArray := if memB o x = true then o else o ++ [x]
def modsF : List ByteArray → List S31 → List ByteArray
 | o, [] => o
 | o, q :: t => modsF (addM o q.f0) t
theorem addM_length (o : List ByteArray) (x : ByteArray) : (addM o x).length ≤ o.length + 1 := by
 unfold addM
 split <;> simp
theorem modsF_length : ∀ (l : List S31) (o : List ByteArray), (modsF o l).length ≤ o.length + l.length
 | [], o => by simp [modsF]
 | q :: t, o => by
  have h1 := modsF_length t (addM o q.f0)
  have h2 := addM_length o q.f0
  simp only [modsF, List.length_cons]
  omega
theorem implMods_loop (l : List S31) (hl : TSzS l) : ∀ (t : List S31) (i : Nat) (o : List ByteArray), l.drop i = t → i ≤ l.length → o.length ≤ i → Ev (fun k => impl_modulesOf.l0 k o l (l.length : Int) (i : Int)) (modsF o t) := by
 have hlen := hl.len
 intro t
 induction t with
 | nil =>
  intro i o h hi ho
  have hl2 := drop_nil h
  exact Ev.step (fun k => rfl) (Ev.iteF (by omega) (Ev.some_ rfl))
 | cons b t ih =>
  intro i o h hi ho
  obtain ⟨hl2, hb, ht⟩ := drop_cons h
  have h2 := addM_length o b.f0
  have := ih (i + 1) (addM o b.f0) ht (by omega) (by omega)
  unfold addM at this
  refine Ev.step (fun k => rfl) (Ev.iteT (by omega) (Ev.iteT (by omega) (Ev.iteT (by omega) ?_)))
  rw [rdT_nat _ _ hl2, hb]
  refine Ev.bind (contains_ev o b.f0 (by omega)) ?_
  rw [wrapN (by omega)]
  unfold modsF addM
  by_cases hm : memB o b.f0 = true
  ·rw [if_pos hm] at this ⊢
   exact Ev.iteT hm this
  ·rw [if_neg hm] at this ⊢
   exact Ev.iteF hm (Ev.iteT (by omega) this)
theorem implMods_ev (l : List S31) (hl : TSzS l) : Ev (fun k => impl_modulesOf.f k l) (modsF [] l) :=
 implMods_loop l hl l 0 [] rfl (Nat.zero_le _) (Nat.zero_le _)
theorem specMods_loop (l : List S31) (hl : TSzS l) : ∀ (t : List S31) (i : Nat) (o : List ByteArray), l.drop i = t → i ≤ l.length → o.length ≤ i → Ev (fun k => spec_modules.l0 k l o (i : Int)) (modsF o t) := by
 have hlen := hl.len
 intro t
 induction t with
 | nil =>
  intro i o h hi ho
  have hl2 := drop_nil h
  exact Ev.step (fun k => rfl) (Ev.iteF (by omega) (Ev.some_ rfl))
 | cons b t ih =>
  intro i o h hi ho
  obtain ⟨hl2, hb, ht⟩ := drop_cons h
  have h2 := addM_length o b.f0
  have := ih (i + 1) (addM o b.f0) ht (by omega) (by omega)
  have hadd : Ev (fun k => spec_addText.f k o b.f0) (addM o b.f0) := by
   unfold spec_addText.f addM
   refine Ev.bind (hasText_ev o b.f0 (by omega)) ?_
   by_cases hm : memB o b.f0 = true
   ·exact Ev.iteT hm (Ev.some_ (by rw [if_pos hm]))
   ·exact Ev.iteF hm (Ev.iteT (by omega) (Ev.some_ (by rw [if_neg hm])))
  refine Ev.step (fun k => rfl) (Ev.iteT (by omega) (Ev.iteT (by omega) ?_))
  rw [rdT_nat _ _ hl2, hb]
  refine Ev.bind hadd ?_
  rw [wrapN (by omega)]
  exact this
theorem specMods_ev (l : List S31) (hl : TSzS l) : Ev (fun k => spec_modules.f k l) (modsF [] l) :=
 specMods_loop l hl l 0 [] rfl (Nat.zero_le _) (Nat.zero_le _)
def ofM (m : ByteArray) (q : S31) : Bool := decide (q.f0 = m)
def grpF (L : List S31) (N : List ByteArray) : List S31 := N.flatMap fun m => L.filter (ofM m)
def grpV (L : List S31) : List S31 := if testsS L = true then grpF L (modsF [] L) else []
theorem cloneT_eq (l : List ByteArray) (h : l.length < 8796093022208) : slices_Clone_string_string.f l = some l := by
 unfold slices_Clone_string_string.f
 simp [h]
theorem copyTests_loop (l : List S31) (hl : l.length ≤ 1000) (hz : ∀ q ∈ l, q.f2.length < 8796093022208 ∧ q.f3.length < 8796093022208) : ∀ (d i : Nat), i + d = l.length → Ev (fun k => impl_copyTests.l0 k (l.take i) l (l.length : Int) (i : Int)) l := by
 intro d
 induction d with
 | zero =>
  intro i hd
  obtain rfl : i = l.length := by omega
  exact Ev.step (fun k => rfl) (Ev.iteF (by omega) (Ev.some_ (by rw [List.take_length])))
 | succ d ih =>
  intro i hd
  have hi : i < l.length := by omega
  have h1 := hz l[i] (List.getElem_mem hi)
  have := ih (i + 1) (by omega)
  rw [List.take_succ_eq_append_getElem hi] at this
  refine Ev.step (fun k => rfl) (Ev.iteT (by omega) (Ev.iteT (by omega) (Ev.iteT (by omega) ?_)))
  rw [rdT_nat _ _ hi, wrapN (by omega)]
  refine Ev.bind0 (cloneT_eq _ h1.1) (Ev.bind0 (cloneT_eq _ h1.2) (Ev.iteT (by rw [List.length_take]; omega) ?_))
  exact this
theorem copyTests_ev (l : List S31) (hl : l.length ≤ 1000) (hz : ∀ q ∈ l, q.f2.length < 8796093022208 ∧ q.f3.length < 8796093022208) : Ev (fun k => impl_copyTests.f k l) l := copyTests_loop l hl hz l.length 0 (by omega)
theorem copyTest_eq (q : S31) (h : q.f2.length < 8796093022208 ∧ q.f3.length < 8796093022208) : spec_copyTest.f q.f0 q.f1 q.f2 q.f3 = some (q.f0, q.f1, q.f2, q.f3) := by
 unfold spec_copyTest.f
 simp [h.1, h.2]
theorem implGrp_l1 (L : List S31) (hL : L.length ≤ 10) (N : List ByteArray) (n x15 : Int) (m : ByteArray) (R : List S31) : ∀ (t : List S31) (i : Nat) (acc : List S31), L.drop i = t → i ≤ L.length → acc.length + t.length ≤ 1000 →
  Ev (fun k => impl_GroupModules.l0 k L (acc ++ t.filter (ofM m)) N n (wrap64 (x15 + 1))) R → Ev (fun k => impl_GroupModules.l1 k L acc m N n x15 L (L.length : Int) (i : Int)) R := by
 intro t
 induction t with
 | nil =>
  intro i acc h hi ha hc
  have hl2 := drop_nil h
  rw [List.filter_nil, List.append_nil] at hc
  exact Ev.step (fun k => rfl) (Ev.iteF (by omega) hc)
 | cons b t ih =>
  intro i acc h hi ha hc
  obtain ⟨hl2, hb, ht⟩ := drop_cons h
  simp only [List.length_cons] at ha
  refine Ev.step (fun k => rfl) (Ev.iteT (by omega) (Ev.iteT (by omega) (Ev.iteT (by omega) ?_)))
  rw [rdT_nat _ _ hl2, hb, wrapN (by omega)]
  by_cases c : b.f0 = m
  ·rw [List.filter_cons_of_pos (by unfold ofM; exact decide_eq_true c)] at hc
   exact Ev.iteT (by rw [c]) (Ev.iteT (by omega) (ih (i + 1) (acc ++ [b]) ht (by omega) (by rw [List.length_append, List.length_singleton]; omega) (by rw [List.append_assoc]; exact hc)))
  ·rw [List.filter_cons_of_neg (by unfold ofM; rw [decide_eq_true_eq]; exact c)] at hc
   exact Ev.iteF (by rw [toList_iff]; exact c) (ih (i + 1) acc ht (by omega) (by omega) hc)
theorem filterM_len (L : List S31) (hL : L.length ≤ 10) (m : ByteArray) : (L.filter (ofM m)).length ≤ 10 := by
 have := List.length_filter_le (ofM m) L
 omega
theorem implGrp_l0 (L : List S31) (hL : L.length ≤ 10) (hz : ∀ q ∈ L, q.f2.length < 8796093022208 ∧ q.f3.length < 8796093022208) (N : List ByteArray) (hN : N.length ≤ 10) : ∀ (t : List ByteArray) (i : Nat) (acc : List S31), N.drop i = t → i ≤ N.length → acc.length + 10 * t.length ≤ 100 → (∀ q ∈ acc, q ∈ L) →
  Ev (fun k => impl_GroupModules.l0 k L acc N (N.length : Int) (i : Int)) (acc ++ grpF L t) := by
 intro t
 induction t with
 | nil =>
  intro i acc h hi ha hq
  have hl2 := drop_nil h
  simp only [grpF, List.flatMap_nil, List.append_nil]
  exact Ev.step (fun k => rfl) (Ev.iteF (by omega) (Ev.bind (copyTests_ev acc (by omega) (fun q h => hz q (hq q h))) (Ev.some_ rfl)))
 | cons b t ih =>
  intro i acc h hi ha hq
  obtain ⟨hl2, hb, ht⟩ := drop_cons h
  simp only [List.length_cons] at ha
  have hf := filterM_len L hL b
  have := ih (i + 1) (acc ++ L.filter (ofM b)) ht (by omega) (by rw [List.length_append]; omega) (fun q hm => (List.mem_append.1 hm).elim (hq q) (fun h => (List.mem_filter.1 h).1))
  rw [List.append_assoc, ← wrapN (i := i) (by omega)] at this
  refine Ev.step (fun k => rfl) (Ev.iteT (by omega) (Ev.iteT (by omega) (Ev.iteT (by omega) ?_)))
  rw [rdOf_nat _ _ _ hl2, hb]
  exact implGrp_l1 L hL N _ _ b _ L 0 acc rfl (Nat.zero_le _) (by omega) this
theorem specGrp_l1 (L : List S31) (hL : L.length ≤ 10) (hz : ∀ q ∈ L, q.f2.length < 8796093022208 ∧ q.f3.length < 8796093022208) (N : List ByteArray) (j : Nat) (hj : j < N.length) (R : List S31) : ∀ (t : List S31) (i : Nat) (acc : List S31), L.drop i = t → i ≤ L.length → acc.length + t.length ≤ 1000 →
  Ev (fun k => spec_grouped.l0 k L (acc ++ t.filter (ofM N[j])) N (wrap64 ((j : Int) + 1))) R → Ev (fun k => spec_grouped.l1 k L acc N (j : Int) (i : Int)) R := by
 intro t
 induction t with
 | nil =>
  intro i acc h hi ha hc
  have hl2 := drop_nil h
  rw [List.filter_nil, List.append_nil] at hc
  exact Ev.step (fun k => rfl) (Ev.iteF (by omega) hc)
 | cons b t ih =>
  intro i acc h hi ha hc
  obtain ⟨hl2, hb, ht⟩ := drop_cons h
  simp only [List.length_cons] at ha
  refine Ev.step (fun k => rfl) (Ev.iteT (by omega) (Ev.iteT (by omega) (Ev.iteT (by omega) (Ev.iteT (by omega) ?_))))
  rw [rdT_nat _ _ hl2, hb, wrapN (by omega), rdOf_nat _ _ _ hj]
  by_cases c : b.f0 = N[j]
  ·rw [List.filter_cons_of_pos (by unfold ofM; exact decide_eq_true c)] at hc
   exact Ev.iteT (by rw [c]) (Ev.bind0 (copyTest_eq b (hz b (hb ▸ List.getElem_mem hl2))) (Ev.iteT (by omega) (ih (i + 1) (acc ++ [b]) ht (by omega) (by rw [List.length_append, List.length_singleton]; omega) (by rw [List.append_assoc]; exact hc))))
  ·rw [List.filter_cons_of_neg (by unfold ofM; rw [decide_eq_true_eq]; exact c)] at hc
   exact Ev.iteF (by rw [toList_iff]; exact c) (ih (i + 1) acc ht (by omega) (by omega) hc)
theorem specGrp_l0 (L : List S31) (hL : L.length ≤ 10) (hz : ∀ q ∈ L, q.f2.length < 8796093022208 ∧ q.f3.length < 8796093022208) (N : List ByteArray) (hN : N.length ≤ 10) : ∀ (t : List ByteArray) (i : Nat) (acc : List S31), N.drop i = t → i ≤ N.length → acc.length + 10 * t.length ≤ 100 →
  Ev (fun k => spec_grouped.l0 k L acc N (i : Int)) (acc ++ grpF L t) := by
 intro t
 induction t with
 | nil =>
  intro i acc h hi ha
  have hl2 := drop_nil h
  simp only [grpF, List.flatMap_nil, List.append_nil]
  exact Ev.step (fun k => rfl) (Ev.iteF (by omega) (Ev.some_ rfl))
 | cons b t ih =>
  intro i acc h hi ha
  obtain ⟨hl2, hb, ht⟩ := drop_cons h
  simp only [List.length_cons] at ha
  have hf := filterM_len L hL b
  have := ih (i + 1) (acc ++ L.filter (ofM b)) ht (by omega) (by rw [List.length_append]; omega)
  rw [List.append_assoc, ← wrapN (i := i) (by omega)] at this
  exact Ev.step (fun k => rfl) (Ev.iteT (by omega) (specGrp_l1 L hL hz N i hl2 _ L 0 acc rfl (Nat.zero_le _) (by omega) (by rw [hb]; exact this)))
theorem testsS_len {l : List S31} (h : testsS l = true) : l.length ≤ 10 := by
 unfold testsS at h
 simp only [Bool.and_eq_true, decide_eq_true_eq] at h
 omega
theorem implGrp_ev (l : List S31) (hl : TSzS l) (hz : ∀ q ∈ l, q.f2.length < 8796093022208 ∧ q.f3.length < 8796093022208) : Ev (fun k => impl_GroupModules.f k l) (grpV l) := by
 unfold impl_GroupModules.f grpV
 refine Ev.bind (validTestsI_ev l hl) ?_
 by_cases h : testsS l = true
 ·have h10 := testsS_len h
  have hm := modsF_length l []
  rw [List.length_nil] at hm
  rw [if_pos h]
  exact Ev.iteT h (Ev.bind (implMods_ev l hl) (implGrp_l0 l h10 hz _ (by omega) _ 0 [] rfl (Nat.zero_le _) (by rw [List.length_nil]; omega) (fun q hq => by cases hq)))
 ·rw [if_neg h]
  exact Ev.iteF h (Ev.some_ rfl)
theorem specGrp_ev (l : List S31) (hl : TSzS l) (hz : ∀ q ∈ l, q.f2.length < 8796093022208 ∧ q.f3.length < 8796093022208) : Ev (fun k => spec_GroupModules.f k l) (grpV l) := by
 unfold spec_GroupModules.f grpV
 refine Ev.bind (validTestsS_ev l hl) ?_
 by_cases h : testsS l = true
 ·have h10 := testsS_len h
  have hm := modsF_length l []
  rw [List.length_nil] at hm
  rw [if_pos h]
  refine Ev.iteT h (Ev.bind (f := fun _ t => some t) ?_ (Ev.some_ rfl))
  unfold spec_grouped.f
  exact Ev.bind (specMods_ev l hl) (specGrp_l0 l h10 hz _ (by omega) _ 0 [] rfl (Nat.zero_le _) (by rw [List.length_nil]; omega))
 ·rw [if_neg h]
  exact Ev.iteF h (Ev.some_ rfl)
theorem grpF_mem (L : List S31) (N : List ByteArray) (q : S31) (h : q ∈ grpF L N) : q ∈ L := by
 unfold grpF at h
 obtain ⟨m, _, hq⟩ := List.mem_flatMap.1 h
 exact (List.mem_filter.1 hq).1
theorem grpF_length (L : List S31) (hL : L.length ≤ 10) : ∀ N : List ByteArray, (grpF L N).length ≤ 10 * N.length
 | [] => by simp [grpF]
 | m :: t => by
  have := grpF_length L hL t
  have hf := filterM_len L hL m
  unfold grpF at this ⊢
  rw [List.flatMap_cons, List.length_append, List.length_cons]
  omega
theorem grpV_mem (L : List S31) (q : S31) (h : q ∈ grpV L) : q ∈ L := by
 unfold grpV at h
 split at h
 ·exact grpF_mem _ _ _ h
 ·cases h
theorem grpV_length (L : List S31) : (grpV L).length ≤ 100 := by
 unfold grpV
 split
 ·rename_i h
  have h10 := testsS_len h
  have hm := modsF_length L []
  rw [List.length_nil] at hm
  have := grpF_length L h10 (modsF [] L)
  omega
 ·simp
theorem markText_loop (n : Nat) : ∀ (x : ByteArray), n ≤ 4503599627370496 → x.size + n ≤ 4611686018427387903 → ∃ s, Ev (fun k => laws_markText.l0 k (n : Int) x) s := by
 induction n using Nat.strongRecOn with
 | _ n ih =>
  intro x hn hx
  by_cases h : (n : Int) > 0
  ·have ed : Int.tdiv (n : Int) 10 = ((n / 10 : Nat) : Int) := by
    rw [Int.tdiv_eq_ediv_of_nonneg (by omega)]
    omega
   have es : (strOfNums [(wrap64 (48 + (Int.tmod (n : Int) 10))) % 256]).size = 1 := rfl
   obtain ⟨s, hs⟩ := ih (n / 10) (by omega) (strOfNums [(wrap64 (48 + (Int.tmod (n : Int) 10))) % 256] ++ x) (by omega) (by rw [ByteArray.size_append, es]; omega)
   refine ⟨s, Ev.step (fun k => rfl) (Ev.iteT h (Ev.bind0 rfl (Ev.iteT (by rw [es]; omega) ?_)))⟩
   rw [ed, wrapI (by omega)]
   exact hs
  ·exact ⟨_, Ev.step (fun k => rfl) (Ev.iteF h (Ev.iteT (by omega) (Ev.some_ rfl)))⟩
theorem markText_ev (n : Int) (h0 : 0 ≤ n) (h1 : n ≤ 4503599627370496) : ∃ s, Ev (fun k => laws_markText.f k n) s := by
 unfold laws_markText.f
 by_cases h : n ≤ 0
 ·exact ⟨_, Ev.iteT h (Ev.some_ rfl)⟩
 ·obtain ⟨m, rfl⟩ := Int.eq_ofNat_of_zero_le h0
  obtain ⟨s, hs⟩ := markText_loop m ⟨#[]⟩ (by omega) (by show 0 + m ≤ _; omega)
  exact ⟨s, Ev.iteF h hs⟩
/-- A list holds its marks from number a on. -/
def HoldsMarks (l : List ByteArray) (a : Int) : Prop := ∀ (i : Nat) (h : i < l.length), Ev (fun k => laws_markText.f k (a + i)) l[i]
theorem heldStringS_loop (l : List ByteArray) (a : Int) (ha : 0 ≤ a) (hb : a + l.length ≤ 4503599627370496) (hh : HoldsMarks l a) : ∀ (d i : Nat), i + d = l.length →
  Ev (fun k => laws_heldStringS.l0 k l (a + i) (i : Int)) (a + l.length) := by
 intro d
 induction d with
 | zero =>
  intro i hd
  exact Ev.step (fun k => rfl) (Ev.iteF (by omega) (Ev.some_ (by rw [show i = l.length by omega])))
 | succ d ih =>
  intro i hd
  have hi : i < l.length := by omega
  refine Ev.step (fun k => rfl) (Ev.iteT (by omega) (Ev.iteT (by omega) (Ev.bind (hh i hi) (Ev.iteT (by rw [rdOf_nat _ _ _ hi]) ?_))))
  rw [wrapN (by omega), wrapI (x := a + i + 1) (by omega)]
  have := ih (i + 1) (by omega)
  rw [show a + ((i + 1 : Nat) : Int) = a + i + 1 by omega] at this
  exact this
theorem heldStringS_ev (l : List ByteArray) (a : Int) (ha : 0 ≤ a) (hb : a + l.length ≤ 4503599627370496) (hh : HoldsMarks l a) : Ev (fun k => laws_heldStringS.f k l a) (a + l.length) := by
 have := heldStringS_loop l a ha hb hh l.length 0 (by omega)
 simp only [Int.natCast_zero, Int.add_zero] at this
 exact this
theorem markStringS_loop (n : Nat) (a : Int) (ha : 0 ≤ a) (hb : a + n ≤ 4503599627370496) : ∀ (d i : Nat) (l : List ByteArray), i + d = n → l.length = n → (∀ (j : Nat) (h : j < l.length), j < i → Ev (fun k => laws_markText.f k (a + j)) l[j]) →
  ∃ m, Ev (fun k => laws_markStringS.l0 k l (a + i) (i : Int)) (a + n, m) ∧ m.length = n ∧ HoldsMarks m a := by
 intro d
 induction d with
 | zero =>
  intro i l hd hl hh
  exact ⟨l, Ev.step (fun k => rfl) (Ev.iteF (by omega) (Ev.some_ (by rw [show i = n by omega]))), hl, fun j hj => hh j hj (by omega)⟩
 | succ d ih =>
  intro i l hd hl hh
  have hi : i < l.length := by omega
  obtain ⟨s, hs⟩ := markText_ev (a + i) (by omega) (by omega)
  obtain ⟨m, hm, h1, h2⟩ := ih (i + 1) (l.set i s) (by omega) (by rw [List.length_set]; exact hl) (fun j hj hlt => by
   rw [List.getElem_set]
   by_cases e : i = j
   ·subst e
    rw [if_pos rfl]
    exact hs
   ·rw [if_neg e]
    exact hh j (by rw [List.length_set] at hj; exact hj) (by omega))
  refine ⟨m, Ev.step (fun k => rfl) (Ev.iteT (by omega) (Ev.bind hs (Ev.iteT (by omega) ?_))), h1, h2⟩
  rw [wrapN (by omega), wrapI (x := a + i + 1) (by omega), Int.toNat_natCast]
  rw [show a + ((i + 1 : Nat) : Int) = a + i + 1 by omega] at hm
  exact hm
theorem markStringS_ev (l : List ByteArray) (a : Int) (ha : 0 ≤ a) (hb : a + l.length ≤ 4503599627370496) : ∃ m, Ev (fun k => laws_markStringS.f k l a) (a + l.length, m) ∧ m.length = l.length ∧ HoldsMarks m a := by
 obtain ⟨m, h1, h2, h3⟩ := markStringS_loop l.length a ha hb l.length 0 l (by omega) rfl (fun j hj h => absurd h (by omega))
 refine ⟨m, ?_, h2, h3⟩
 simp only [Int.natCast_zero, Int.add_zero] at h1
 exact h1
theorem rdLTest_nat (l : List S52) (i : Nat) (h : i < l.length) : rd_T52 l (i : Int) = l[i] := by
 unfold rd_T52
 exact getD_nat _ _ _ h
theorem rdITest_nat (l : List S31) (i : Nat) (h : i < l.length) : rd_T31 l (i : Int) = l[i] := by
 unfold rd_T31
 exact getD_nat _ _ _ h
structure RawTest (q : S52) : Prop where
 r0 : q.f0.size ≤ maxLen
 r1 : q.f1.size ≤ maxLen
 r2 : q.f2.length ≤ maxLen ∧ ∀ y ∈ q.f2, y.size ≤ maxLen
 r3 : q.f3.length ≤ maxLen ∧ ∀ y ∈ q.f3, y.size ≤ maxLen
structure FewTest (q : S52) : Prop where
 r0 : q.f0.size ≤ 1048576
 r1 : q.f1.size ≤ 1048576
 r2 : FewText q.f2
 r3 : FewText q.f3
theorem szTest_ev (q : S52) (h : RawTest q) (left : Int) (h0 : 0 ≤ left) (h1 : left ≤ 1048576) :
  ∃ r, Ev (fun k => laws_szTest.f k q.f0 q.f1 q.f2 q.f3 left) r ∧ r ≤ 1048576 ∧ (0 ≤ r → FewTest q) := by
 unfold laws_szTest.f
 have hm0 := h.r0
 unfold maxLen at hm0
 have hm1 := h.r1
 unfold maxLen at hm1
 have ew0 : wrap64 (left - (q.f0.size : Int)) = (left - (q.f0.size : Int)) := wrapI (by omega)
 rw [ew0]
 by_cases c0 : (left - (q.f0.size : Int)) < 0
 ·exact ⟨-1, Ev.iteT c0 (Ev.some_ rfl), by omega, fun h => by omega⟩
 have ew1 : wrap64 ((left - (q.f0.size : Int)) - (q.f1.size : Int)) = ((left - (q.f0.size : Int)) - (q.f1.size : Int)) := wrapI (by omega)
 rw [ew1]
 by_cases c1 : ((left - (q.f0.size : Int)) - (q.f1.size : Int)) < 0
 ·exact ⟨-1, Ev.iteF c0 (Ev.iteT c1 (Ev.some_ rfl)), by omega, fun h => by omega⟩
 obtain ⟨r2, hr2, hb2, hf2⟩ := szStringS_ev q.f2 h.r2.1 h.r2.2 ((left - (q.f0.size : Int)) - (q.f1.size : Int)) (by omega) (by omega)
 by_cases c2 : r2 < 0
 ·exact ⟨-1, Ev.iteF c0 (Ev.iteF c1 (Ev.bind hr2 (Ev.iteT c2 (Ev.some_ rfl)))), by omega, fun h => by omega⟩
 obtain ⟨r3, hr3, hb3, hf3⟩ := szStringS_ev q.f3 h.r3.1 h.r3.2 r2 (by omega) (by omega)
 by_cases c3 : r3 < 0
 ·exact ⟨-1, Ev.iteF c0 (Ev.iteF c1 (Ev.bind hr2 (Ev.iteF c2 (Ev.bind hr3 (Ev.iteT c3 (Ev.some_ rfl)))))), by omega, fun h => by omega⟩
 exact ⟨r3, Ev.iteF c0 (Ev.iteF c1 (Ev.bind hr2 (Ev.iteF c2 (Ev.bind hr3 (Ev.iteF c3 (Ev.some_ rfl)))))), by omega, fun _ => ⟨by omega, by omega, hf2 (by omega), hf3 (by omega)⟩⟩
structure FewTestS (l : List S52) : Prop where
 len : l.length ≤ 1048576
 one : ∀ q ∈ l, FewTest q
theorem szTestS_loop (l : List S52) (hl : l.length ≤ 1048576) (hz : ∀ q ∈ l, RawTest q) : ∀ (t : List S52) (i : Nat) (left : Int), l.drop i = t → i ≤ l.length → 0 ≤ left → left ≤ 1048576 →
  ∃ r, Ev (fun k => laws_szTestS.l0 k l left (i : Int)) r ∧ r ≤ 1048576 ∧ (0 ≤ r → ∀ q ∈ t, FewTest q) := by
 intro t
 induction t with
 | nil =>
  intro i left h hi h0 h1
  have hl2 := drop_nil h
  exact ⟨left, Ev.step (fun k => rfl) (Ev.iteF (by omega) (Ev.some_ rfl)), h1, fun _ q hq => by cases hq⟩
 | cons q t ih =>
  intro i left h hi h0 h1
  obtain ⟨hl2, hb, ht⟩ := drop_cons h
  have hq : RawTest q := hz q (hb ▸ List.getElem_mem hl2)
  obtain ⟨s, hs, hs2, hsf⟩ := szTest_ev q hq left h0 h1
  by_cases c : s < 0
  ·refine ⟨-1, Ev.step (fun k => rfl) (Ev.iteT (by omega) (Ev.iteT (by omega) ?_)), by omega, fun h => by omega⟩
   rw [rdLTest_nat _ _ hl2, hb]
   exact Ev.bind hs (Ev.iteT c (Ev.some_ rfl))
  ·obtain ⟨r, hr, h2, h3⟩ := ih (i + 1) s ht (by omega) (by omega) (by omega)
   refine ⟨r, Ev.step (fun k => rfl) (Ev.iteT (by omega) (Ev.iteT (by omega) ?_)), h2, fun h0 p hp => ?_⟩
   ·rw [rdLTest_nat _ _ hl2, hb]
    refine Ev.bind hs (Ev.iteF c ?_)
    rw [wrapN (by omega)]
    exact hr
   ·rcases List.mem_cons.1 hp with rfl | hp
    ·exact hsf (by omega)
    ·exact h3 h0 p hp
theorem szTestS_ev (l : List S52) (hl : l.length ≤ maxLen) (hz : ∀ q ∈ l, RawTest q) (left : Int) (h0 : 0 ≤ left) (h1 : left ≤ 1048576) :
  ∃ r, Ev (fun k => laws_szTestS.f k l left) r ∧ r ≤ 1048576 ∧ (0 ≤ r → FewTestS l) := by
 unfold maxLen at hl
 have ew : wrap64 (left - (l.length : Int)) = left - l.length := wrapI (by omega)
 unfold laws_szTestS.f
 rw [ew]
 by_cases c : left - l.length < 0
 ·exact ⟨-1, Ev.iteT c (Ev.some_ rfl), by omega, fun h => by omega⟩
 ·obtain ⟨r, hr, h2, h3⟩ := szTestS_loop l (by omega) hz l 0 (left - l.length) rfl (Nat.zero_le _) (by omega) (by omega)
  exact ⟨r, Ev.iteF c hr, h2, fun h => ⟨by omega, h3 h⟩⟩
def to_Test (q : S52) : S31 := ⟨q.f0, q.f1, q.f2, q.f3⟩
theorem toTest_ev (q : S52) (h : FewTest q) : Ev (fun k => laws_toTest.f k q.f0 q.f1 q.f2 q.f3) (q.f0, q.f1, q.f2, q.f3) := by
 unfold laws_toTest.f
 exact Ev.bind (toStringS_ev q.f2 h.r2.len) (Ev.bind (toStringS_ev q.f3 h.r3.len) (Ev.some_ rfl))
theorem toTestS_loop (l : List S52) (hl : FewTestS l) : ∀ (d i : Nat), i + d = l.length →
  Ev (fun k => laws_toTestS.l0 k l (half to_Test z31 l i) (i : Int)) (l.map to_Test) := by
 have hlen := hl.len
 intro d
 induction d with
 | zero =>
  intro i hd
  obtain rfl : i = l.length := by omega
  exact Ev.step (fun k => rfl) (Ev.iteF (by omega) (Ev.some_ (half_full _ _ _)))
 | succ d ih =>
  intro i hd
  have hi : i < l.length := by omega
  refine Ev.step (fun k => rfl) (Ev.iteT (by omega) (Ev.iteT (by omega) ?_))
  rw [rdLTest_nat _ _ hi]
  refine Ev.bind (toTest_ev l[i] (hl.one _ (List.getElem_mem hi))) (Ev.iteT (by rw [half_length _ _ _ _ (by omega)]; omega) ?_)
  rw [wrapN (by omega), Int.toNat_natCast]
  have := ih (i + 1) (by omega)
  rw [← half_set to_Test _ l i hi] at this
  exact this
theorem toTestS_ev (l : List S52) (hl : FewTestS l) : Ev (fun k => laws_toTestS.f k l) (l.map to_Test) := by
 have hlen := hl.len
 unfold laws_toTestS.f
 rw [Int.toNat_natCast]
 have := toTestS_loop l hl l.length 0 (by omega)
 rw [half_zero] at this
 exact Ev.iteT (by omega) (Ev.iteT (by omega) this)
structure SzTest (q : S31) : Prop where
 yes : True
 r2 : q.f2.length ≤ 1048576
 r3 : q.f3.length ≤ 1048576
theorem eqTest_ev (q : S31) (h : SzTest q) : Ev (fun k => laws_eqTest.f k q.f0 q.f1 q.f2 q.f3 q.f0 q.f1 q.f2 q.f3) true := by
 unfold laws_eqTest.f
 exact Ev.iteT rfl (Ev.iteT rfl (Ev.bind (eqStringS_ev q.f2 (by have := h.r2; omega)) (Ev.iteT rfl (Ev.bind (eqStringS_ev q.f3 (by have := h.r3; omega)) (Ev.iteT rfl (Ev.some_ rfl))))))
theorem eqTestS_loop (l : List S31) (hl : l.length ≤ 4194304) (hz : ∀ q ∈ l, SzTest q) : ∀ (d i : Nat), i + d = l.length → Ev (fun k => laws_eqTestS.l0 k l l (i : Int)) true := by
 intro d
 induction d with
 | zero =>
  intro i hd
  exact Ev.step (fun k => rfl) (Ev.iteF (by omega) (Ev.some_ rfl))
 | succ d ih =>
  intro i hd
  have hi : i < l.length := by omega
  refine Ev.step (fun k => rfl) (Ev.iteT (by omega) (Ev.iteT (by omega) (Ev.iteT (by omega) ?_)))
  rw [rdITest_nat _ _ hi]
  refine Ev.bind (eqTest_ev _ (hz _ (List.getElem_mem hi))) (Ev.iteT rfl ?_)
  rw [wrapN (by omega)]
  exact ih (i + 1) (by omega)
theorem eqTestS_ev (l : List S31) (hl : l.length ≤ 4194304) (hz : ∀ q ∈ l, SzTest q) : Ev (fun k => laws_eqTestS.f k l l) true := by
 unfold laws_eqTestS.f
 exact Ev.iteT rfl (eqTestS_loop l hl hz l.length 0 (by omega))
theorem FewTestS.small {l : List S52} (h : FewTestS l) : (l.map to_Test).length ≤ 1048576 ∧ ∀ q ∈ l.map to_Test, SzTest q := by
 refine ⟨by rw [List.length_map]; exact h.len, fun q hq => ?_⟩
 obtain ⟨p, hp, rfl⟩ := List.mem_map.1 hq
 have := h.one p hp
 exact ⟨trivial, this.r2.len, this.r3.len⟩
/-- The marks from a on stand in the list, and b is the number behind them. -/
def HeldT : List S31 → Int → Int → Prop
 | [], a, b => b = a
 | x :: t, a, b => Ev (fun k => laws_markText.f k a) x.f0 ∧ Ev (fun k => laws_markText.f k (a + 1)) x.f1 ∧ HoldsMarks x.f2 (a + 2) ∧ HoldsMarks x.f3 (a + 2 + x.f2.length) ∧ x.f2.length ≤ 1048576 ∧ x.f3.length ≤ 1048576 ∧ HeldT t (a + 2 + x.f2.length + x.f3.length) b
theorem markTestC_ev : ∀ (l : List S31) (a : Int), (∀ q ∈ l, q.f2.length ≤ 1048576 ∧ q.f3.length ≤ 1048576) → 0 ≤ a → a + 2097154 * l.length ≤ 4503599627370496 →
  ∃ b m, Ev (fun k => laws_markTestS.g k l a) (b, m) ∧ HeldT m a b ∧ m.length = l.length ∧ a ≤ b
 | [], a, _, _, _ => ⟨a, [], ⟨0, fun k _ => by unfold laws_markTestS.g; rfl⟩, rfl, rfl, Int.le_refl _⟩
 | x :: t, a, hz, h0, h1 => by
  have hx := hz x (by simp)
  simp only [List.length_cons] at h1
  obtain ⟨s, hs⟩ := markText_ev a h0 (by omega)
  obtain ⟨s2, hs2⟩ := markText_ev (a + 1) (by omega) (by omega)
  obtain ⟨p, hp, hp2, hp3⟩ := markStringS_ev x.f2 (a + 2) (by omega) (by omega)
  obtain ⟨p', hp', hp2', hp3'⟩ := markStringS_ev x.f3 (a + 2 + x.f2.length) (by omega) (by omega)
  obtain ⟨b, m, hm, hm2, hm3, hm4⟩ := markTestC_ev t (a + 2 + x.f2.length + x.f3.length) (fun q hq => hz q (by simp [hq])) (by omega) (by omega)
  refine ⟨b, (⟨s, s2, p, p'⟩ : S31) :: m, ?_, ?_, by simp [hm3], by omega⟩
  ·refine Ev.congr (f := fun k => (laws_markText.f k a).bind fun t0 => (laws_markText.f k (wrap64 (a + 1))).bind fun t1 => (laws_markStringS.f k x.f2 (wrap64 (wrap64 (a + 1) + 1))).bind fun p2 => (laws_markStringS.f k x.f3 (p2.1)).bind fun p3 => (laws_markTestS.g k t (p3.1)).bind fun q => some (q.1, (⟨t0, t1, p2.2, p3.2⟩ : S31) :: q.2)) (fun k => by rw [laws_markTestS.g]) ?_
   rw [wrapI (x := a + 1) (by omega), wrapI (x := a + 1 + 1) (by omega), show a + 1 + 1 = a + 2 by omega]
   exact Ev.bind hs (Ev.bind hs2 (Ev.bind hp (Ev.bind hp' (Ev.bind hm (Ev.some_ rfl)))))
  ·unfold HeldT
   refine ⟨hs, hs2, hp3, ?_, by show p.length ≤ _; omega, by show p'.length ≤ _; omega, ?_⟩
   ·show HoldsMarks p' (a + 2 + p.length)
    rw [hp2]
    exact hp3'
   ·show HeldT m (a + 2 + p.length + p'.length) b
    rw [hp2, hp2']
    exact hm2
theorem heldTestC_loop (L : List S31) (hL : L.length ≤ 1048576) : ∀ (t : List S31) (i : Nat) (a b : Int), L.drop i = t → i ≤ L.length → 0 ≤ a → a + 2097154 * t.length ≤ 4503599627370496 → HeldT t a b →
  Ev (fun k => laws_heldTestS.l0 k L a (i : Int)) b := by
 intro t
 induction t with
 | nil =>
  intro i a b h hi h0 h1 hh
  have hl2 := drop_nil h
  obtain rfl : b = a := hh
  exact Ev.step (fun k => rfl) (Ev.iteF (by omega) (Ev.some_ rfl))
 | cons x t ih =>
  intro i a b h hi h0 h1 hh
  obtain ⟨hl2, hb, ht⟩ := drop_cons h
  obtain ⟨g0, g1, g2, g3, g4, g5, g6⟩ := hh
  simp only [List.length_cons] at h1
  have hnext := ih (i + 1) _ b ht (by omega) (by omega) (by omega) g6
  have h2 := heldStringS_ev x.f2 (a + 2) (by omega) (by omega) g2
  have h3 := heldStringS_ev x.f3 (a + 2 + x.f2.length) (by omega) (by omega) g3
  refine Ev.step (fun k => rfl) (Ev.iteT (by omega) (Ev.iteT (by omega) ?_))
  rw [rdITest_nat _ _ hl2, hb, wrapI (x := a + 1) (by omega), wrapI (x := a + 1 + 1) (by omega), wrapN (by omega), show a + 1 + 1 = a + 2 by omega]
  exact Ev.bind g0 (Ev.iteT rfl (Ev.bind g1 (Ev.iteT rfl (Ev.bind h2 (Ev.iteF (by omega) (Ev.bind h3 (Ev.iteF (by omega) hnext)))))))
theorem heldTestC_ev (L : List S31) (hL : L.length ≤ 1048576) (a b : Int) (h0 : 0 ≤ a) (h1 : a + 2097154 * L.length ≤ 4503599627370496) (hh : HeldT L a b) : Ev (fun k => laws_heldTestS.f k L a) b :=
 heldTestC_loop L hL L 0 a b rfl (Nat.zero_le _) h0 h1 hh
theorem markStringN_ev : ∀ (n : Nat) (a : Int), 0 ≤ a → a + n ≤ 4503599627370496 → Ev (fun k => laws_markStringS.n k n a) (a + n)
 | 0, a, _, _ => ⟨0, fun k _ => by unfold laws_markStringS.n; simp⟩
 | n + 1, a, h0, h1 => by
  obtain ⟨s, hs⟩ := markText_ev a h0 (by omega)
  have := markStringN_ev n (a + 1) (by omega) (by omega)
  rw [show a + 1 + (n : Int) = a + ((n + 1 : Nat) : Int) by omega] at this
  refine Ev.congr (f := fun k => (laws_markText.f k a).bind fun _ => laws_markStringS.n k n (wrap64 (a + 1))) (fun k => by rw [laws_markStringS.n]) (Ev.bind hs ?_)
  rw [wrapI (by omega)]
  exact this
theorem markTestN_ev : ∀ (l : List S31) (a : Int), (∀ q ∈ l, SzTest q) → 0 ≤ a → a + 2097154 * l.length ≤ 4503599627370496 → ∃ r, Ev (fun k => laws_markTestS.n k l a) r ∧ a ≤ r
 | [], a, _, _, _ => ⟨a, ⟨0, fun k _ => by unfold laws_markTestS.n; rfl⟩, Int.le_refl _⟩
 | x :: t, a, hz, h0, h1 => by
  have hx := hz x (by simp)
  have h2 := hx.r2
  have h3 := hx.r3
  simp only [List.length_cons] at h1
  obtain ⟨s, hs⟩ := markText_ev a h0 (by omega)
  obtain ⟨s2, hs2⟩ := markText_ev (a + 1) (by omega) (by omega)
  have m2 := markStringN_ev x.f2.length (a + 1 + 1) (by omega) (by omega)
  have m3 := markStringN_ev x.f3.length (a + 1 + 1 + x.f2.length) (by omega) (by omega)
  obtain ⟨r, hr, hle⟩ := markTestN_ev t (a + 1 + 1 + x.f2.length + x.f3.length) (fun q hq => hz q (by simp [hq])) (by omega) (by omega)
  refine ⟨r, Ev.congr (f := fun k => (laws_markText.f k a).bind fun _ => (laws_markText.f k (wrap64 (a + 1))).bind fun _ => (laws_markStringS.n k x.f2.length (wrap64 (wrap64 (a + 1) + 1))).bind fun b2 => (laws_markStringS.n k x.f3.length b2).bind fun b3 => laws_markTestS.n k t b3) (fun k => by rw [laws_markTestS.n]) ?_, by omega⟩
  rw [wrapI (x := a + 1) (by omega), wrapI (x := a + 1 + 1) (by omega)]
  exact Ev.bind hs (Ev.bind hs2 (Ev.bind m2 (Ev.bind m3 hr)))
theorem markTestS_ev (l : List S31) (hl : l.length ≤ 4194304) (hz : ∀ q ∈ l, SzTest q) : ∃ r, Ev (fun k => laws_markTestS.f k l 1) r ∧ 1 ≤ r := by
 unfold laws_markTestS.f
 exact markTestN_ev l 1 hz (by omega) (by omega)
end Go.Proofs.Ytadhfpbkanobnaa.U
