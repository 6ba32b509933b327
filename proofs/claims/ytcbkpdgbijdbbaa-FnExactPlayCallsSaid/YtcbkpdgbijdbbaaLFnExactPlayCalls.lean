/- Plain laws, without Go, that the law FnExactPlayCalls leans on. No condition. -/
import Derived.Test.YtcbkpdgbijdbbaaNx0
import Derived.Test.YtcbkpdgbijdbbaaNx1
import Derived.Test.YtcbkpdgbijdbbaaNx2
import Derived.Test.YtcbkpdgbijdbbaaNx3
import Derived.Test.YtcbkpdgbijdbbaaNx4
import Derived.Test.YtcbkpdgbijdbbaaNx5
import Derived.Test.YtcbkpdgbijdbbaaNx6
import Derived.Test.YtcbkpdgbijdbbaaNx7
import Derived.Test.YtcbkpdgbijdbbaaNx8
import Derived.Test.YtcbkpdgbijdbbaaNx9
import Derived.Test.YtcbkpdgbijdbbaaNx10
import Derived.Test.YtcbkpdgbijdbbaaNx11
import Derived.Test.YtcbkpdgbijdbbaaNx12
import Derived.Test.YtcbkpdgbijdbbaaWMore
import Derived.IntWalk
import Derived.Lib.Bytealg
import Derived.Lib.Strings
import Derived.Sort.Walk0
set_option linter.unusedSimpArgs false
set_option linter.unusedVariables false
namespace Go.Proofs.Ytcbkpdgbijdbbaa.N
open Go.RowKit Go.Proofs.YtcbkpdgbijdbbaaW.PrintWords Go.Proofs.YtcbkpdgbijdbbaaW.PrintLast Go.Proofs.YtcbkpdgbijdbbaaW.PrintMore
theorem Ev.iteT {α : Type} {c : Prop} [Decidable c] {g f : Nat → Option α} {r : α} (h : c) (k : Ev g r) : Ev (fun n => if c then g n else f n) r := by
 simpa only [if_pos h] using k
theorem Ev.iteF {α : Type} {c : Prop} [Decidable c] {g f : Nat → Option α} {r : α} (h : ¬ c) (k : Ev f r) : Ev (fun n => if c then g n else f n) r := by
 simpa only [if_neg h] using k
/-- A callee without rounds. -/
theorem Ev.bind0 {α β : Type} {g : Option α} {f : Nat → α → Option β} {a : α} {r : β} (h : g = some a) (k : Ev (fun n => f n a) r) : Ev (fun n => g.bind (f n)) r := by
 subst h
 simpa only [Option.bind_some] using k
theorem Ev.some_ {α : Type} {x r : α} (h : x = r) : Ev (fun _ => some x) r := ⟨0, fun _ _ => by rw [h]⟩
theorem Ev.bool {b r : Bool} (h : b = r) : Ev (fun _ => some b) r := Ev.some_ h
theorem wrapN {i : Nat} (h : i < 4611686018427387904) : wrap64 ((i : Int) + 1) = ((i + 1 : Nat) : Int) := by
 unfold wrap64
 omega
theorem wrapI {x : Int} (h : -9223372036854775808 ≤ x ∧ x ≤ 9223372036854775807) : wrap64 x = x := by
 unfold wrap64
 omega
theorem rdOf_nat {α : Type} (d : α) (l : List α) (i : Nat) (h : i < l.length) : rdOf d l (i : Int) = l[i] := by
 simp [rdOf, List.getD_eq_getElem?_getD, List.getElem?_eq_getElem h]
theorem rd_nat (l : List Int) (i : Nat) (h : i < l.length) : rd l (i : Int) = l[i] := by
 simp [rd, List.getD_eq_getElem?_getD, List.getElem?_eq_getElem h]
theorem getD_nat {α : Type} (d : α) (l : List α) (i : Nat) (h : i < l.length) : l.getD (i : Int).toNat d = l[i] := by
 simp [List.getD_eq_getElem?_getD, List.getElem?_eq_getElem h]
theorem size_list (s : ByteArray) : s.data.toList.length = s.size := by rw [Array.length_toList]; rfl
theorem bt_nat (s : ByteArray) (i : Nat) (h : i < s.data.toList.length) : bt s (i : Int) = ((s.data.toList[i]).toNat : Int) := by
 have h' : i < s.size := by rw [← size_list]; exact h
 unfold bt
 rw [dif_pos (by simpa using h')]
 rfl
/-- A list seen from place i on. -/
theorem drop_cons {α : Type} {l : List α} {i : Nat} {b : α} {t : List α} (h : l.drop i = b :: t) : ∃ hi : i < l.length, l[i] = b ∧ l.drop (i + 1) = t := by
 have hi : i < l.length := by
  rcases Nat.lt_or_ge i l.length with h1 | h1
  ·exact h1
  ·rw [List.drop_of_length_le h1] at h
   cases h
 refine ⟨hi, ?_, ?_⟩
 ·rw [List.drop_eq_getElem_cons hi] at h
  exact (List.cons.inj h).1
 ·rw [List.drop_eq_getElem_cons hi] at h
  exact (List.cons.inj h).2
theorem drop_nil {α : Type} {l : List α} {i : Nat} (h : l.drop i = []) : l.length ≤ i := by
 have := congrArg List.length h
 rw [List.length_drop] at this
 simpa using Nat.sub_eq_zero_iff_le.1 this
theorem toList_inj {a b : ByteArray} (h : a.toList = b.toList) : a = b := by
 rw [Lib.toList_data, Lib.toList_data] at h
 cases a with
 | mk x => cases b with
  | mk y =>
   have : x = y := Array.ext' h
   rw [this]
theorem toList_iff {a b : ByteArray} : a.toList = b.toList ↔ a = b := ⟨toList_inj, fun h => by rw [h]⟩
def lowB (b : UInt8) : Bool := decide (97 ≤ (b.toNat : Int)) && decide ((b.toNat : Int) ≤ 122)
/-- What is asked of a name behind its letters. -/
def nameEnd (s : ByteArray) : Bool := decide (1 ≤ s.size) && (decide (s.size ≤ 6) && (s.toList != ([97, 110, 100] : List UInt8) && (s.toList != ([111, 114] : List UInt8) && s.toList != ([110, 111, 116] : List UInt8))))
def nameS (s : ByteArray) : Bool := s.data.toList.all lowB && nameEnd s
theorem nameOk_loop (s : ByteArray) (hs : s.size ≤ 4611686018427387903) : ∀ (t : List UInt8) (i : Nat), s.data.toList.drop i = t → i ≤ s.size →
  Ev (fun k => impl_nameOk.l0 k s (s.size : Int) (i : Int)) (t.all lowB && nameEnd s) := by
 intro t
 induction t with
 | nil =>
  intro i h hi
  have hl := drop_nil h
  rw [size_list] at hl
  refine Ev.step (fun k => rfl) (Ev.iteF (by omega) ?_)
  simp only [List.all_nil, Bool.true_and]
  unfold nameEnd
  by_cases h1 : 1 ≤ s.size
  ·refine Ev.iteT (by omega) ?_
   by_cases h2 : s.size ≤ 6
   ·refine Ev.iteT (by omega) ?_
    by_cases h3 : s.toList = ([97, 110, 100] : List UInt8)
    ·exact Ev.iteT h3 (Ev.bool (by simp [h3]))
    ·refine Ev.iteF h3 ?_
     by_cases h4 : s.toList = ([111, 114] : List UInt8)
     ·exact Ev.iteT h4 (Ev.bool (by simp [h4]))
     ·exact Ev.iteF h4 (Ev.bool (by simp [h1, h2, bne_iff_ne.2 h3, bne_iff_ne.2 h4]))
   ·exact Ev.iteF (by omega) (Ev.bool (by simp [h2]))
  ·exact Ev.iteF (by omega) (Ev.bool (by simp [h1]))
 | cons b t ih =>
  intro i h hi
  obtain ⟨hl, hb, ht⟩ := drop_cons h
  have hl' := hl
  rw [size_list] at hl'
  refine Ev.step (fun k => rfl) (Ev.iteT (by omega) (Ev.iteT (by omega) (Ev.iteT (by omega) ?_)))
  rw [bt_nat s i hl, hb]
  by_cases h1 : (b.toNat : Int) < 97
  ·exact Ev.iteT h1 (Ev.bool (by simp [lowB]; omega))
  ·refine Ev.iteF h1 ?_
   by_cases h2 : (b.toNat : Int) > 122
   ·exact Ev.iteT h2 (Ev.bool (by simp [lowB]; omega))
   ·refine Ev.iteF h2 ?_
    rw [wrapN (by omega)]
    have := ih (i + 1) ht (by omega)
    have e : lowB b = true := by simp [lowB]; omega
    simpa [List.all_cons, e] using this
theorem nameOk_ev (s : ByteArray) (hs : s.size ≤ 4611686018427387903) : Ev (fun k => impl_nameOk.f k s) (nameS s) :=
 nameOk_loop s hs _ 0 rfl (Nat.zero_le _)
theorem inRange_ev (a b c : Int) : spec_inRange.f a b c = some (decide (b ≤ a ∧ a ≤ c)) := by
 unfold spec_inRange.f
 by_cases h : b ≤ a
 ·rw [if_pos h]
  simp [h]
 ·rw [if_neg h]
  simp [h]
theorem validName_loop (s : ByteArray) (hs : s.size ≤ 4611686018427387903) : ∀ (t : List UInt8) (i : Nat), s.data.toList.drop i = t → i ≤ s.size →
  Ev (fun k => spec_validName.l0 k s (i : Int)) (t.all lowB && nameEnd s) := by
 intro t
 induction t with
 | nil =>
  intro i h hi
  have hl := drop_nil h
  rw [size_list] at hl
  refine Ev.step (fun k => rfl) (Ev.iteF (by omega) (Ev.bind0 (inRange_ev _ _ _) ?_))
  simp only [List.all_nil, Bool.true_and]
  unfold nameEnd
  by_cases h1 : 1 ≤ s.size
  ·by_cases h2 : s.size ≤ 6
   ·refine Ev.iteT (by simp; omega) ?_
    by_cases h3 : s.toList = ([97, 110, 100] : List UInt8)
    ·exact Ev.iteT h3 (Ev.bool (by simp [h3]))
    ·refine Ev.iteF h3 ?_
     by_cases h4 : s.toList = ([111, 114] : List UInt8)
     ·exact Ev.iteT h4 (Ev.bool (by simp [h4]))
     ·exact Ev.iteF h4 (Ev.bool (by simp [h1, h2, bne_iff_ne.2 h3, bne_iff_ne.2 h4]))
   ·exact Ev.iteF (by simp; omega) (Ev.bool (by simp [h2]))
  ·exact Ev.iteF (by simp; omega) (Ev.bool (by simp [h1]))
 | cons b t ih =>
  intro i h hi
  obtain ⟨hl, hb, ht⟩ := drop_cons h
  have hl' := hl
  rw [size_list] at hl'
  refine Ev.step (fun k => rfl) (Ev.iteT (by omega) (Ev.iteT (by omega) ?_))
  rw [bt_nat s i hl, hb]
  by_cases h1 : (b.toNat : Int) < 97
  ·exact Ev.iteT h1 (Ev.bool (by simp [lowB]; omega))
  ·refine Ev.iteF h1 ?_
   by_cases h2 : (b.toNat : Int) > 122
   ·exact Ev.iteT h2 (Ev.bool (by simp [lowB]; omega))
   ·refine Ev.iteF h2 ?_
    rw [wrapN (by omega)]
    have := ih (i + 1) ht (by omega)
    have e : lowB b = true := by simp [lowB]; omega
    simpa [List.all_cons, e] using this
theorem validName_ev (s : ByteArray) (hs : s.size ≤ 4611686018427387903) : Ev (fun k => spec_validName.f k s) (nameS s) :=
 validName_loop s hs _ 0 rfl (Nat.zero_le _)
def memB (l : List ByteArray) (x : ByteArray) : Bool := l.any fun y => decide (y = x)
theorem memB_iff {l : List ByteArray} {x : ByteArray} : memB l x = true ↔ x ∈ l := by
 simp [memB]
theorem memB_eq {l : List ByteArray} {x : ByteArray} {p : Prop} [Decidable p] (h : p ↔ x ∈ l) : decide p = memB l x := by
 rw [Bool.eq_iff_iff, memB_iff]
 simpa using h
theorem index_loop (l : List ByteArray) (x : ByteArray) (hl : l.length ≤ 4611686018427387903) : ∀ (t : List ByteArray) (i : Nat), l.drop i = t → i ≤ l.length →
  ∃ r : Int, Ev (fun k => slices_Index_string_string.l0 k l x (l.length : Int) (i : Int)) r ∧ (0 ≤ r ↔ x ∈ t) := by
 intro t
 induction t with
 | nil =>
  intro i h hi
  have hl2 := drop_nil h
  exact ⟨-1, Ev.step (fun k => rfl) (Ev.iteF (by omega) (Ev.some_ rfl)), by simp⟩
 | cons b t ih =>
  intro i h hi
  obtain ⟨hl2, hb, ht⟩ := drop_cons h
  by_cases h1 : x = b
  ·refine ⟨(i : Int), Ev.step (fun k => rfl) (Ev.iteT (by omega) (Ev.iteT (by omega) (Ev.iteT (by omega) (Ev.iteT ?_ (Ev.some_ rfl))))), by simp [h1]⟩
   rw [rdOf_nat _ _ _ hl2, hb, h1]
  ·obtain ⟨r, hr, hm⟩ := ih (i + 1) ht (by omega)
   refine ⟨r, Ev.step (fun k => rfl) (Ev.iteT (by omega) (Ev.iteT (by omega) (Ev.iteT (by omega) (Ev.iteF ?_ ?_)))), by simp [h1, hm]⟩
   ·rw [rdOf_nat _ _ _ hl2, hb, toList_iff]
    exact h1
   ·rw [wrapN (by omega)]
    exact hr
theorem contains_ev (l : List ByteArray) (x : ByteArray) (hl : l.length ≤ 4611686018427387903) : Ev (fun k => slices_Contains_string_string.f k l x) (memB l x) := by
 obtain ⟨r, hr, hm⟩ := index_loop l x hl l 0 rfl (Nat.zero_le _)
 exact Ev.bind hr (Ev.bool (memB_eq hm))
theorem nodup_take_succ {α : Type} (l : List α) (i : Nat) (h : i < l.length) : (l.take (i + 1)).Nodup ↔ (l.take i).Nodup ∧ l[i] ∉ l.take i := by
 rw [List.take_succ_eq_append_getElem h, List.nodup_append]
 simp only [List.nodup_cons, List.not_mem_nil, not_false_eq_true, List.nodup_nil, and_self, true_and, List.mem_singleton, forall_eq]
 exact ⟨fun ⟨a, b⟩ => ⟨a, fun hm => b _ hm rfl⟩, fun ⟨a, b⟩ => ⟨a, fun x hx e => b (e ▸ hx)⟩⟩
theorem nodup_of_take {α : Type} (l : List α) (i : Nat) (h : ¬ (l.take i).Nodup) : ¬ l.Nodup := fun hn => h (hn.sublist (List.take_sublist _ _))
/-- All in a list are of a size that numbers hold. -/
def SizesOk (l : List ByteArray) : Prop := ∀ x ∈ l, x.size ≤ 4611686018427387903
/-- What a copy holds after i rounds. -/
def half {α β : Type} (f : α → β) (z : β) (l : List α) (i : Nat) : List β := (l.take i).map f ++ List.replicate (l.length - i) z
theorem half_zero {α β : Type} (f : α → β) (z : β) (l : List α) : half f z l 0 = List.replicate l.length z := by simp [half]
theorem half_full {α β : Type} (f : α → β) (z : β) (l : List α) : half f z l l.length = l.map f := by simp [half]
theorem half_length {α β : Type} (f : α → β) (z : β) (l : List α) (i : Nat) (h : i ≤ l.length) : (half f z l i).length = l.length := by
 simp [half]
 omega
theorem half_set {α β : Type} (f : α → β) (z : β) (l : List α) (i : Nat) (h : i < l.length) : (half f z l i).set i (f l[i]) = half f z l (i + 1) := by
 have e : l.length - i = (l.length - (i + 1)) + 1 := by omega
 have hl : ((l.take i).map f).length = i := by
  rw [List.length_map, List.length_take]
  omega
 unfold half
 rw [List.set_append_right _ _ (by omega), hl, Nat.sub_self, e, List.replicate_succ, List.set_cons_zero, List.take_succ_eq_append_getElem h, List.map_append, List.append_assoc]
 rfl
theorem szIntS_eq (l : List Int) (hl : l.length ≤ maxLen) (left : Int) (h0 : 0 ≤ left) (h1 : left ≤ 1048576) :
  ∃ r, laws_szIntS.f l left = some r ∧ r ≤ 1048576 ∧ (0 ≤ r → l.length ≤ 1048576) := by
 unfold maxLen at hl
 have ew : wrap64 (left - (l.length : Int)) = left - l.length := wrapI (by omega)
 unfold laws_szIntS.f
 rw [ew]
 by_cases c : left - l.length < 0
 ·exact ⟨-1, if_pos c, by omega, fun h => by omega⟩
 ·exact ⟨left - l.length, if_neg c, by omega, fun h => by omega⟩
theorem toIntS_loop (l : List Int) (hl : l.length ≤ 1048576) : ∀ (d i : Nat), i + d = l.length →
  Ev (fun k => laws_toIntS.l0 k l (half id (0 : Int) l i) (i : Int)) l := by
 intro d
 induction d with
 | zero =>
  intro i hd
  obtain rfl : i = l.length := by omega
  exact Ev.step (fun k => rfl) (Ev.iteF (by omega) (Ev.some_ (by rw [half_full]; simp)))
 | succ d ih =>
  intro i hd
  have hi : i < l.length := by omega
  refine Ev.step (fun k => rfl) (Ev.iteT (by omega) (Ev.iteT (by omega) ?_))
  rw [rd_nat _ _ hi]
  refine Ev.iteT (by rw [half_length _ _ _ _ (by omega)]; omega) ?_
  rw [wrapN (by omega), Int.toNat_natCast]
  have := ih (i + 1) (by omega)
  rw [← half_set id _ l i hi] at this
  exact this
theorem toIntS_ev (l : List Int) (hl : l.length ≤ 1048576) : Ev (fun k => laws_toIntS.f k l) l := by
 unfold laws_toIntS.f
 rw [Int.toNat_natCast]
 have := toIntS_loop l hl l.length 0 (by omega)
 rw [half_zero] at this
 exact Ev.iteT (by omega) (Ev.iteT (by omega) this)
theorem eqIntS_loop (l : List Int) (hl : l.length ≤ 4611686018427387903) : ∀ (d i : Nat), i + d = l.length → Ev (fun k => laws_eqIntS.l0 k l l (i : Int)) true := by
 intro d
 induction d with
 | zero =>
  intro i hd
  exact Ev.step (fun k => rfl) (Ev.iteF (by omega) (Ev.some_ rfl))
 | succ d ih =>
  intro i hd
  refine Ev.step (fun k => rfl) (Ev.iteT (by omega) (Ev.iteT (by omega) (Ev.iteT (by omega) (Ev.iteT rfl ?_))))
  rw [wrapN (by omega)]
  exact ih (i + 1) (by omega)
theorem eqIntS_ev (l : List Int) (hl : l.length ≤ 4611686018427387903) : Ev (fun k => laws_eqIntS.f k l l) true := by
 unfold laws_eqIntS.f
 exact Ev.iteT rfl (eqIntS_loop l hl l.length 0 (by omega))
def numS (n : Int) : Bool := decide (-99 ≤ n) && decide (n ≤ 99)
def callV (s : ByteArray) (l : List Int) : Bool := nameS s && (decide ((l.length : Int) ≤ 3) && l.all numS)
def callS (c : S33) : Bool := callV c.f0 c.f1
def callsS (l : List S33) : Bool := l.all callS && decide ((l.length : Int) ≤ 12)
structure CSz (c : S33) : Prop where
 s0 : c.f0.size ≤ 4194304
 s1 : c.f1.length ≤ 4194304
structure CSzS (l : List S33) : Prop where
 len : l.length ≤ 4194304
 one : ∀ c ∈ l, CSz c
theorem rdCall_nat (l : List S33) (i : Nat) (h : i < l.length) : rd_T33 l (i : Int) = l[i] := by
 unfold rd_T33
 exact getD_nat _ _ _ h
theorem numbersOk_loop (l : List Int) (hl : l.length ≤ 4611686018427387903) : ∀ (t : List Int) (i : Nat), l.drop i = t → i ≤ l.length → Ev (fun k => impl_numbersOk.l0 k l (l.length : Int) (i : Int)) (t.all numS) := by
 intro t
 induction t with
 | nil =>
  intro i h hi
  have hl2 := drop_nil h
  exact Ev.step (fun k => rfl) (Ev.iteF (by omega) (Ev.some_ rfl))
 | cons b t ih =>
  intro i h hi
  obtain ⟨hl2, hb, ht⟩ := drop_cons h
  refine Ev.step (fun k => rfl) (Ev.iteT (by omega) (Ev.iteT (by omega) (Ev.iteT (by omega) ?_)))
  rw [rd_nat _ _ hl2, hb, List.all_cons]
  by_cases h1 : b < -99
  ·exact Ev.iteT h1 (Ev.some_ (by rw [show numS b = false by simp [numS]; omega]; rfl))
  ·by_cases h2 : b > 99
   ·exact Ev.iteF h1 (Ev.iteT h2 (Ev.some_ (by rw [show numS b = false by simp [numS]; omega]; rfl)))
   ·refine Ev.iteF h1 (Ev.iteF h2 ?_)
    rw [wrapN (by omega), show numS b = true by simp [numS]; omega, Bool.true_and]
    exact ih (i + 1) ht (by omega)
theorem callOk_ev (s : ByteArray) (l : List Int) (hs : s.size ≤ 4611686018427387903) (hl : l.length ≤ 4611686018427387903) : Ev (fun k => impl_callOk.f k s l) (callV s l) := by
 unfold impl_callOk.f callV
 refine Ev.bind (nameOk_ev s hs) ?_
 cases c0 : nameS s with
 | false => exact Ev.iteF (by simp) (Ev.bool (by simp))
 | true =>
  refine Ev.iteT rfl ?_
  by_cases c1 : (l.length : Int) ≤ 3
  ·exact Ev.iteT c1 (Ev.bind (numbersOk_loop l hl l 0 rfl (Nat.zero_le _)) (Ev.bool (by simp [c1])))
  ·exact Ev.iteF c1 (Ev.bool (by simp [c1]))
theorem validCallsI_loop (l : List S33) (hl : CSzS l) : ∀ (t : List S33) (i : Nat), l.drop i = t → i ≤ l.length → Ev (fun k => impl_ValidCalls.l0 k l l (l.length : Int) (i : Int)) (t.all callS && decide ((l.length : Int) ≤ 12)) := by
 have hlen := hl.len
 intro t
 induction t with
 | nil =>
  intro i h hi
  have hl2 := drop_nil h
  exact Ev.step (fun k => rfl) (Ev.iteF (by omega) (Ev.some_ (by simp)))
 | cons b t ih =>
  intro i h hi
  obtain ⟨hl2, hb, ht⟩ := drop_cons h
  have hs : CSz b := hl.one b (hb ▸ List.getElem_mem hl2)
  have h0 := hs.s0
  have h1 := hs.s1
  refine Ev.step (fun k => rfl) (Ev.iteT (by omega) (Ev.iteT (by omega) (Ev.iteT (by omega) ?_)))
  rw [rdCall_nat _ _ hl2, hb]
  refine Ev.bind (callOk_ev b.f0 b.f1 (by omega) (by omega)) ?_
  rw [List.all_cons, show callS b = callV b.f0 b.f1 from rfl]
  cases c : callV b.f0 b.f1 with
  | false => exact Ev.iteF (by simp) (Ev.bool (by simp))
  | true =>
   refine Ev.iteT rfl ?_
   rw [wrapN (by omega)]
   exact ih (i + 1) ht (by omega)
theorem validCallsI_ev (l : List S33) (hl : CSzS l) : Ev (fun k => impl_ValidCalls.f k l) (callsS l) :=
 validCallsI_loop l hl l 0 rfl (Nat.zero_le _)
theorem specCalls_nums (l : List S33) (hl : CSzS l) (i : Nat) (hi : i < l.length) (r : Bool) (hc : Ev (fun k => spec_validCalls.l0 k l ((i + 1 : Nat) : Int)) r) : ∀ (t : List Int) (j : Nat), (l[i]).f1.drop j = t → j ≤ (l[i]).f1.length →
  Ev (fun k => spec_validCalls.l1 k l (i : Int) (j : Int)) (t.all numS && r) := by
 have hlen := hl.len
 have hs := (hl.one _ (List.getElem_mem hi)).s1
 intro t
 induction t with
 | nil =>
  intro j h hj
  have hl2 := drop_nil h
  refine Ev.step (fun k => rfl) (Ev.iteT (by omega) (Ev.iteT (by omega) ?_))
  rw [rdCall_nat _ _ hi, wrapN (i := i) (by omega)]
  exact Ev.iteF (by omega) (by simpa only [List.all_nil, Bool.true_and] using hc)
 | cons b t ih =>
  intro j h hj
  obtain ⟨hl2, hb, ht⟩ := drop_cons h
  refine Ev.step (fun k => rfl) (Ev.iteT (by omega) (Ev.iteT (by omega) ?_))
  rw [rdCall_nat _ _ hi, rd_nat _ _ hl2, hb, List.all_cons, wrapN (by omega)]
  refine Ev.iteT (by omega) (Ev.iteT (by omega) (Ev.bind0 (inRange_ev _ _ _) ?_))
  by_cases h1 : -99 ≤ b ∧ b ≤ 99
  ·rw [show numS b = true by simp [numS]; omega, Bool.true_and]
   exact Ev.iteT (by simpa using h1) (ih (j + 1) ht (by omega))
  ·rw [show numS b = false by simp [numS]; omega]
   exact Ev.iteF (by simpa using h1) (Ev.bool (by simp))
theorem validCallsS_loop (l : List S33) (hl : CSzS l) : ∀ (t : List S33) (i : Nat), l.drop i = t → i ≤ l.length → Ev (fun k => spec_validCalls.l0 k l (i : Int)) (t.all callS && decide ((l.length : Int) ≤ 12)) := by
 have hlen := hl.len
 intro t
 induction t with
 | nil =>
  intro i h hi
  have hl2 := drop_nil h
  exact Ev.step (fun k => rfl) (Ev.iteF (by omega) (Ev.some_ (by simp)))
 | cons b t ih =>
  intro i h hi
  obtain ⟨hl2, hb, ht⟩ := drop_cons h
  have hs : CSz b := hl.one b (hb ▸ List.getElem_mem hl2)
  have h0 := hs.s0
  have hnums := specCalls_nums l hl i hl2 _ (ih (i + 1) ht (by omega)) (l[i]).f1 0 rfl (Nat.zero_le _)
  rw [hb] at hnums
  refine Ev.step (fun k => rfl) (Ev.iteT (by omega) (Ev.iteT (by omega) ?_))
  rw [rdCall_nat _ _ hl2, hb]
  refine Ev.bind (validName_ev b.f0 (by omega)) ?_
  rw [List.all_cons, show callS b = (nameS b.f0 && (decide ((b.f1.length : Int) ≤ 3) && b.f1.all numS)) from rfl]
  cases c0 : nameS b.f0 with
  | false =>
   refine Ev.iteF (by simp) ?_
   refine Ev.step (fun k => by rw [spec_validCalls.j1]) ?_
   exact Ev.iteT rfl (Ev.bool (by simp))
  | true =>
   refine Ev.iteT rfl ?_
   by_cases c1 : (b.f1.length : Int) ≤ 3
   ·refine Ev.step (fun k => by rw [spec_validCalls.j1]) ?_
    refine Ev.iteF (by simp; omega) ?_
    simpa [c1, Bool.and_assoc] using hnums
   ·refine Ev.step (fun k => by rw [spec_validCalls.j1]) ?_
    exact Ev.iteT (by simp; omega) (Ev.bool (by simp [c1]))
theorem validCallsS_ev (l : List S33) (hl : CSzS l) : Ev (fun k => spec_validCalls.f k l) (callsS l) :=
 validCallsS_loop l hl l 0 rfl (Nat.zero_le _)
def namesS (l : List ByteArray) (m : Int) : Bool := l.all nameS && (decide l.Nodup && decide ((l.length : Int) ≤ m))
theorem namesOk_loop (l : List ByteArray) (m : Int) (hl : l.length ≤ 4611686018427387903) (hz : SizesOk l) : ∀ (t : List ByteArray) (i : Nat), l.drop i = t → i ≤ l.length → (l.take i).Nodup →
  Ev (fun k => impl_namesOk.l0 k l m l (l.length : Int) (i : Int)) (t.all nameS && (decide l.Nodup && decide ((l.length : Int) ≤ m))) := by
 intro t
 induction t with
 | nil =>
  intro i h hi hn
  have hl2 := drop_nil h
  rw [List.take_of_length_le hl2] at hn
  exact Ev.step (fun k => rfl) (Ev.iteF (by omega) (Ev.some_ (by simp [hn])))
 | cons b t ih =>
  intro i h hi hn
  obtain ⟨hl2, hb, ht⟩ := drop_cons h
  have hs : b.size ≤ 4611686018427387903 := hz b (hb ▸ List.getElem_mem hl2)
  refine Ev.step (fun k => rfl) (Ev.iteT (by omega) (Ev.iteT (by omega) (Ev.iteT (by omega) ?_)))
  rw [rdOf_nat _ _ _ hl2, hb, Int.toNat_natCast]
  refine Ev.bind (nameOk_ev b hs) ?_
  cases hnm : nameS b with
  | false => exact Ev.iteF (by simp) (Ev.bool (by simp [hnm]))
  | true =>
   refine Ev.iteT rfl (Ev.iteT (by omega) (Ev.bind (contains_ev (l.take i) b (by rw [List.length_take]; omega)) ?_))
   by_cases hm : b ∈ l.take i
   ·refine Ev.iteT (memB_iff.2 hm) (Ev.bool ?_)
    have : ¬ l.Nodup := nodup_of_take l (i + 1) (fun h => ((nodup_take_succ l i hl2).1 h).2 (hb ▸ hm))
    simp [this]
   ·refine Ev.iteF (by rw [memB_iff]; exact hm) ?_
    rw [wrapN (by omega)]
    simpa [List.all_cons, hnm] using ih (i + 1) ht (by omega) ((nodup_take_succ l i hl2).2 ⟨hn, hb ▸ hm⟩)
theorem namesOk_ev (l : List ByteArray) (m : Int) (hl : l.length ≤ 4611686018427387903) (hz : SizesOk l) : Ev (fun k => impl_namesOk.f k l m) (namesS l m) :=
 namesOk_loop l m hl hz l 0 rfl (Nat.zero_le _) (by simp)
theorem markText_loop (n : Nat) : ∀ (x : ByteArray), n ≤ 4503599627370496 → x.size + n ≤ 4611686018427387903 → ∃ s, Ev (fun k => laws_markText.l0 k (n : Int) x) s := by
 induction n using Nat.strongRecOn with
 | _ n ih =>
  intro x hn hx
  by_cases h : (n : Int) > 0
  ·have ed : Int.tdiv (n : Int) 10 = ((n / 10 : Nat) : Int) := by
    rw [Int.tdiv_eq_ediv_of_nonneg (by omega)]
    omega
   have es : (strOfNums [(wrap64 (48 + (Int.tmod (n : Int) 10))) % 256]).size = 1 := rfl
   obtain ⟨s, hs⟩ := ih (n / 10) (by omega) (strOfNums [(wrap64 (48 + (Int.tmod (n : Int) 10))) % 256] ++ x) (by omega) (by rw [ByteArray.size_append, es]; omega)
   refine ⟨s, Ev.step (fun k => rfl) (Ev.iteT h (Ev.bind0 rfl (Ev.iteT (by rw [es]; omega) ?_)))⟩
   rw [ed, wrapI (by omega)]
   exact hs
  ·exact ⟨_, Ev.step (fun k => rfl) (Ev.iteF h (Ev.iteT (by omega) (Ev.some_ rfl)))⟩
theorem markText_ev (n : Int) (h0 : 0 ≤ n) (h1 : n ≤ 4503599627370496) : ∃ s, Ev (fun k => laws_markText.f k n) s := by
 unfold laws_markText.f
 by_cases h : n ≤ 0
 ·exact ⟨_, Ev.iteT h (Ev.some_ rfl)⟩
 ·obtain ⟨m, rfl⟩ := Int.eq_ofNat_of_zero_le h0
  obtain ⟨s, hs⟩ := markText_loop m ⟨#[]⟩ (by omega) (by show 0 + m ≤ _; omega)
  exact ⟨s, Ev.iteF h hs⟩
def HoldsInts (l : List Int) (a : Int) : Prop := ∀ (i : Nat) (h : i < l.length), l[i] = a + i
theorem heldIntS_loop (l : List Int) (a : Int) (ha : 0 ≤ a) (hb : a + l.length ≤ 4503599627370496) (hh : HoldsInts l a) : ∀ (d i : Nat), i + d = l.length →
  Ev (fun k => laws_heldIntS.l0 k l (a + i) (i : Int)) (a + l.length) := by
 intro d
 induction d with
 | zero =>
  intro i hd
  exact Ev.step (fun k => rfl) (Ev.iteF (by omega) (Ev.some_ (by rw [show i = l.length by omega])))
 | succ d ih =>
  intro i hd
  have hi : i < l.length := by omega
  refine Ev.step (fun k => rfl) (Ev.iteT (by omega) (Ev.iteT (by omega) (Ev.iteT (by rw [rd_nat _ _ hi]; exact hh i hi) ?_)))
  rw [wrapN (by omega), wrapI (x := a + i + 1) (by omega)]
  have := ih (i + 1) (by omega)
  rw [show a + ((i + 1 : Nat) : Int) = a + i + 1 by omega] at this
  exact this
theorem heldIntS_ev (l : List Int) (a : Int) (ha : 0 ≤ a) (hb : a + l.length ≤ 4503599627370496) (hh : HoldsInts l a) : Ev (fun k => laws_heldIntS.f k l a) (a + l.length) := by
 have := heldIntS_loop l a ha hb hh l.length 0 (by omega)
 simp only [Int.natCast_zero, Int.add_zero] at this
 exact this
theorem markIntS_loop (n : Nat) (a : Int) (ha : 0 ≤ a) (hb : a + n ≤ 4503599627370496) : ∀ (d i : Nat) (l : List Int), i + d = n → l.length = n → (∀ (j : Nat) (h : j < l.length), j < i → l[j] = a + j) →
  ∃ m, Ev (fun k => laws_markIntS.l0 k l (a + i) (i : Int)) (a + n, m) ∧ m.length = n ∧ HoldsInts m a := by
 intro d
 induction d with
 | zero =>
  intro i l hd hl hh
  exact ⟨l, Ev.step (fun k => rfl) (Ev.iteF (by omega) (Ev.some_ (by rw [show i = n by omega]))), hl, fun j hj => hh j hj (by omega)⟩
 | succ d ih =>
  intro i l hd hl hh
  have hi : i < l.length := by omega
  obtain ⟨m, hm, h1, h2⟩ := ih (i + 1) (l.set i (a + i)) (by omega) (by rw [List.length_set]; exact hl) (fun j hj hlt => by
   rw [List.getElem_set]
   by_cases e : i = j
   ·subst e
    rw [if_pos rfl]
   ·rw [if_neg e]
    exact hh j (by rw [List.length_set] at hj; exact hj) (by omega))
  refine ⟨m, Ev.step (fun k => rfl) (Ev.iteT (by omega) (Ev.iteT (by omega) ?_)), h1, h2⟩
  rw [wrapN (by omega), wrapI (x := a + i + 1) (by omega), Int.toNat_natCast]
  rw [show a + ((i + 1 : Nat) : Int) = a + i + 1 by omega] at hm
  exact hm
theorem markIntS_ev (l : List Int) (a : Int) (ha : 0 ≤ a) (hb : a + l.length ≤ 4503599627370496) : ∃ m, Ev (fun k => laws_markIntS.f k l a) (a + l.length, m) ∧ m.length = l.length ∧ HoldsInts m a := by
 obtain ⟨m, h1, h2, h3⟩ := markIntS_loop l.length a ha hb l.length 0 l (by omega) rfl (fun j hj h => absurd h (by omega))
 refine ⟨m, ?_, h2, h3⟩
 simp only [Int.natCast_zero, Int.add_zero] at h1
 exact h1
theorem rdLCall_nat (l : List S90) (i : Nat) (h : i < l.length) : rd_T90 l (i : Int) = l[i] := by
 unfold rd_T90
 exact getD_nat _ _ _ h
theorem rdICall_nat (l : List S33) (i : Nat) (h : i < l.length) : rd_T33 l (i : Int) = l[i] := by
 unfold rd_T33
 exact getD_nat _ _ _ h
structure RawCall (q : S90) : Prop where
 r0 : q.f0.size ≤ maxLen
 r1 : q.f1.length ≤ maxLen
structure FewCall (q : S90) : Prop where
 r0 : q.f0.size ≤ 1048576
 r1 : q.f1.length ≤ 1048576
theorem szCall_ev (q : S90) (h : RawCall q) (left : Int) (h0 : 0 ≤ left) (h1 : left ≤ 1048576) :
  ∃ r, Ev (fun k => laws_szCall.f q.f0 q.f1 left) r ∧ r ≤ 1048576 ∧ (0 ≤ r → FewCall q) := by
 unfold laws_szCall.f
 have hm0 := h.r0
 unfold maxLen at hm0
 have ew0 : wrap64 (left - (q.f0.size : Int)) = (left - (q.f0.size : Int)) := wrapI (by omega)
 rw [ew0]
 by_cases c0 : (left - (q.f0.size : Int)) < 0
 ·exact ⟨-1, Ev.iteT c0 (Ev.some_ rfl), by omega, fun h => by omega⟩
 obtain ⟨r1, hr1, hb1, hf1⟩ := szIntS_eq q.f1 h.r1 (left - (q.f0.size : Int)) (by omega) (by omega)
 by_cases c1 : r1 < 0
 ·exact ⟨-1, Ev.iteF c0 (Ev.bind0 hr1 (Ev.iteT c1 (Ev.some_ rfl))), by omega, fun h => by omega⟩
 exact ⟨r1, Ev.iteF c0 (Ev.bind0 hr1 (Ev.iteF c1 (Ev.some_ rfl))), by omega, fun _ => ⟨by omega, hf1 (by omega)⟩⟩
structure FewCallS (l : List S90) : Prop where
 len : l.length ≤ 1048576
 one : ∀ q ∈ l, FewCall q
theorem szCallS_loop (l : List S90) (hl : l.length ≤ 1048576) (hz : ∀ q ∈ l, RawCall q) : ∀ (t : List S90) (i : Nat) (left : Int), l.drop i = t → i ≤ l.length → 0 ≤ left → left ≤ 1048576 →
  ∃ r, Ev (fun k => laws_szCallS.l0 k l left (i : Int)) r ∧ r ≤ 1048576 ∧ (0 ≤ r → ∀ q ∈ t, FewCall q) := by
 intro t
 induction t with
 | nil =>
  intro i left h hi h0 h1
  have hl2 := drop_nil h
  exact ⟨left, Ev.step (fun k => rfl) (Ev.iteF (by omega) (Ev.some_ rfl)), h1, fun _ q hq => by cases hq⟩
 | cons q t ih =>
  intro i left h hi h0 h1
  obtain ⟨hl2, hb, ht⟩ := drop_cons h
  have hq : RawCall q := hz q (hb ▸ List.getElem_mem hl2)
  obtain ⟨s, hs, hs2, hsf⟩ := szCall_ev q hq left h0 h1
  by_cases c : s < 0
  ·refine ⟨-1, Ev.step (fun k => rfl) (Ev.iteT (by omega) (Ev.iteT (by omega) ?_)), by omega, fun h => by omega⟩
   rw [rdLCall_nat _ _ hl2, hb]
   exact Ev.bind hs (Ev.iteT c (Ev.some_ rfl))
  ·obtain ⟨r, hr, h2, h3⟩ := ih (i + 1) s ht (by omega) (by omega) (by omega)
   refine ⟨r, Ev.step (fun k => rfl) (Ev.iteT (by omega) (Ev.iteT (by omega) ?_)), h2, fun h0 p hp => ?_⟩
   ·rw [rdLCall_nat _ _ hl2, hb]
    refine Ev.bind hs (Ev.iteF c ?_)
    rw [wrapN (by omega)]
    exact hr
   ·rcases List.mem_cons.1 hp with rfl | hp
    ·exact hsf (by omega)
    ·exact h3 h0 p hp
theorem szCallS_ev (l : List S90) (hl : l.length ≤ maxLen) (hz : ∀ q ∈ l, RawCall q) (left : Int) (h0 : 0 ≤ left) (h1 : left ≤ 1048576) :
  ∃ r, Ev (fun k => laws_szCallS.f k l left) r ∧ r ≤ 1048576 ∧ (0 ≤ r → FewCallS l) := by
 unfold maxLen at hl
 have ew : wrap64 (left - (l.length : Int)) = left - l.length := wrapI (by omega)
 unfold laws_szCallS.f
 rw [ew]
 by_cases c : left - l.length < 0
 ·exact ⟨-1, Ev.iteT c (Ev.some_ rfl), by omega, fun h => by omega⟩
 ·obtain ⟨r, hr, h2, h3⟩ := szCallS_loop l (by omega) hz l 0 (left - l.length) rfl (Nat.zero_le _) (by omega) (by omega)
  exact ⟨r, Ev.iteF c hr, h2, fun h => ⟨by omega, h3 h⟩⟩
def to_Call (q : S90) : S33 := ⟨q.f0, q.f1⟩
theorem toCall_ev (q : S90) (h : FewCall q) : Ev (fun k => laws_toCall.f k q.f0 q.f1) (q.f0, q.f1) := by
 unfold laws_toCall.f
 exact Ev.bind (toIntS_ev q.f1 h.r1) (Ev.some_ rfl)
theorem toCallS_loop (l : List S90) (hl : FewCallS l) : ∀ (d i : Nat), i + d = l.length →
  Ev (fun k => laws_toCallS.l0 k l (half to_Call z33 l i) (i : Int)) (l.map to_Call) := by
 have hlen := hl.len
 intro d
 induction d with
 | zero =>
  intro i hd
  obtain rfl : i = l.length := by omega
  exact Ev.step (fun k => rfl) (Ev.iteF (by omega) (Ev.some_ (half_full _ _ _)))
 | succ d ih =>
  intro i hd
  have hi : i < l.length := by omega
  refine Ev.step (fun k => rfl) (Ev.iteT (by omega) (Ev.iteT (by omega) ?_))
  rw [rdLCall_nat _ _ hi]
  refine Ev.bind (toCall_ev l[i] (hl.one _ (List.getElem_mem hi))) (Ev.iteT (by rw [half_length _ _ _ _ (by omega)]; omega) ?_)
  rw [wrapN (by omega), Int.toNat_natCast]
  have := ih (i + 1) (by omega)
  rw [← half_set to_Call _ l i hi] at this
  exact this
theorem toCallS_ev (l : List S90) (hl : FewCallS l) : Ev (fun k => laws_toCallS.f k l) (l.map to_Call) := by
 have hlen := hl.len
 unfold laws_toCallS.f
 rw [Int.toNat_natCast]
 have := toCallS_loop l hl l.length 0 (by omega)
 rw [half_zero] at this
 exact Ev.iteT (by omega) (Ev.iteT (by omega) this)
structure SzCall (q : S33) : Prop where
 yes : True
 r1 : q.f1.length ≤ 1048576
theorem eqCall_ev (q : S33) (h : SzCall q) : Ev (fun k => laws_eqCall.f k q.f0 q.f1 q.f0 q.f1) true := by
 unfold laws_eqCall.f
 exact Ev.iteT rfl (Ev.bind (eqIntS_ev q.f1 (by have := h.r1; omega)) (Ev.iteT rfl (Ev.some_ rfl)))
theorem eqCallS_loop (l : List S33) (hl : l.length ≤ 4194304) (hz : ∀ q ∈ l, SzCall q) : ∀ (d i : Nat), i + d = l.length → Ev (fun k => laws_eqCallS.l0 k l l (i : Int)) true := by
 intro d
 induction d with
 | zero =>
  intro i hd
  exact Ev.step (fun k => rfl) (Ev.iteF (by omega) (Ev.some_ rfl))
 | succ d ih =>
  intro i hd
  have hi : i < l.length := by omega
  refine Ev.step (fun k => rfl) (Ev.iteT (by omega) (Ev.iteT (by omega) (Ev.iteT (by omega) ?_)))
  rw [rdICall_nat _ _ hi]
  refine Ev.bind (eqCall_ev _ (hz _ (List.getElem_mem hi))) (Ev.iteT rfl ?_)
  rw [wrapN (by omega)]
  exact ih (i + 1) (by omega)
theorem eqCallS_ev (l : List S33) (hl : l.length ≤ 4194304) (hz : ∀ q ∈ l, SzCall q) : Ev (fun k => laws_eqCallS.f k l l) true := by
 unfold laws_eqCallS.f
 exact Ev.iteT rfl (eqCallS_loop l hl hz l.length 0 (by omega))
theorem FewCallS.small {l : List S90} (h : FewCallS l) : (l.map to_Call).length ≤ 1048576 ∧ ∀ q ∈ l.map to_Call, SzCall q := by
 refine ⟨by rw [List.length_map]; exact h.len, fun q hq => ?_⟩
 obtain ⟨p, hp, rfl⟩ := List.mem_map.1 hq
 have := h.one p hp
 exact ⟨trivial, this.r1⟩
theorem markIntN_ev : ∀ (n : Nat) (a : Int), 0 ≤ a → a + n ≤ 4503599627370496 → Ev (fun k => laws_markIntS.n k n a) (a + n)
 | 0, a, _, _ => ⟨0, fun k _ => by unfold laws_markIntS.n; simp⟩
 | n + 1, a, h0, h1 => by
  have := markIntN_ev n (a + 1) (by omega) (by omega)
  rw [show a + 1 + (n : Int) = a + ((n + 1 : Nat) : Int) by omega] at this
  refine Ev.congr (f := fun k => laws_markIntS.n k n (wrap64 (a + 1))) (fun k => by rw [laws_markIntS.n]) ?_
  rw [wrapI (by omega)]
  exact this
theorem markCallN_ev : ∀ (l : List S33) (a : Int), (∀ q ∈ l, SzCall q) → 0 ≤ a → a + 1048577 * l.length ≤ 4503599627370496 → ∃ r, Ev (fun k => laws_markCallS.n k l a) r ∧ a ≤ r ∧ r ≤ a + 1048577 * l.length
 | [], a, _, _, _ => ⟨a, ⟨0, fun k _ => by unfold laws_markCallS.n; rfl⟩, Int.le_refl _, by simp⟩
 | x :: t, a, hz, h0, h1 => by
  have hx := hz x (by simp)
  have h2 := hx.r1
  simp only [List.length_cons] at h1
  obtain ⟨s, hs⟩ := markText_ev a h0 (by omega)
  have m2 := markIntN_ev x.f1.length (a + 1) (by omega) (by omega)
  obtain ⟨r, hr, hle, hle2⟩ := markCallN_ev t (a + 1 + x.f1.length) (fun q hq => hz q (by simp [hq])) (by omega) (by omega)
  refine ⟨r, Ev.congr (f := fun k => (laws_markText.f k a).bind fun _ => (laws_markIntS.n k x.f1.length (wrap64 (a + 1))).bind fun b1 => laws_markCallS.n k t b1) (fun k => by rw [laws_markCallS.n]) ?_, by omega, by simp only [List.length_cons]; omega⟩
  rw [wrapI (x := a + 1) (by omega)]
  exact Ev.bind hs (Ev.bind m2 hr)
theorem rdLReply_nat (l : List S114) (i : Nat) (h : i < l.length) : rd_T114 l (i : Int) = l[i] := by
 unfold rd_T114
 exact getD_nat _ _ _ h
theorem rdIReply_nat (l : List S44) (i : Nat) (h : i < l.length) : rd_T44 l (i : Int) = l[i] := by
 unfold rd_T44
 exact getD_nat _ _ _ h
structure RawReply (q : S114) : Prop where
 r0 : q.f0.size ≤ maxLen
 r1 : q.f1.length ≤ maxLen
structure FewReply (q : S114) : Prop where
 r0 : q.f0.size ≤ 1048576
 r1 : q.f1.length ≤ 1048576
theorem szReply_ev (q : S114) (h : RawReply q) (left : Int) (h0 : 0 ≤ left) (h1 : left ≤ 1048576) :
  ∃ r, Ev (fun k => laws_szReply.f q.f0 q.f1 left) r ∧ r ≤ 1048576 ∧ (0 ≤ r → FewReply q) := by
 unfold laws_szReply.f
 have hm0 := h.r0
 unfold maxLen at hm0
 have ew0 : wrap64 (left - (q.f0.size : Int)) = (left - (q.f0.size : Int)) := wrapI (by omega)
 rw [ew0]
 by_cases c0 : (left - (q.f0.size : Int)) < 0
 ·exact ⟨-1, Ev.iteT c0 (Ev.some_ rfl), by omega, fun h => by omega⟩
 obtain ⟨r1, hr1, hb1, hf1⟩ := szIntS_eq q.f1 h.r1 (left - (q.f0.size : Int)) (by omega) (by omega)
 by_cases c1 : r1 < 0
 ·exact ⟨-1, Ev.iteF c0 (Ev.bind0 hr1 (Ev.iteT c1 (Ev.some_ rfl))), by omega, fun h => by omega⟩
 exact ⟨r1, Ev.iteF c0 (Ev.bind0 hr1 (Ev.iteF c1 (Ev.some_ rfl))), by omega, fun _ => ⟨by omega, hf1 (by omega)⟩⟩
structure FewReplyS (l : List S114) : Prop where
 len : l.length ≤ 1048576
 one : ∀ q ∈ l, FewReply q
theorem szReplyS_loop (l : List S114) (hl : l.length ≤ 1048576) (hz : ∀ q ∈ l, RawReply q) : ∀ (t : List S114) (i : Nat) (left : Int), l.drop i = t → i ≤ l.length → 0 ≤ left → left ≤ 1048576 →
  ∃ r, Ev (fun k => laws_szReplyS.l0 k l left (i : Int)) r ∧ r ≤ 1048576 ∧ (0 ≤ r → ∀ q ∈ t, FewReply q) := by
 intro t
 induction t with
 | nil =>
  intro i left h hi h0 h1
  have hl2 := drop_nil h
  exact ⟨left, Ev.step (fun k => rfl) (Ev.iteF (by omega) (Ev.some_ rfl)), h1, fun _ q hq => by cases hq⟩
 | cons q t ih =>
  intro i left h hi h0 h1
  obtain ⟨hl2, hb, ht⟩ := drop_cons h
  have hq : RawReply q := hz q (hb ▸ List.getElem_mem hl2)
  obtain ⟨s, hs, hs2, hsf⟩ := szReply_ev q hq left h0 h1
  by_cases c : s < 0
  ·refine ⟨-1, Ev.step (fun k => rfl) (Ev.iteT (by omega) (Ev.iteT (by omega) ?_)), by omega, fun h => by omega⟩
   rw [rdLReply_nat _ _ hl2, hb]
   exact Ev.bind hs (Ev.iteT c (Ev.some_ rfl))
  ·obtain ⟨r, hr, h2, h3⟩ := ih (i + 1) s ht (by omega) (by omega) (by omega)
   refine ⟨r, Ev.step (fun k => rfl) (Ev.iteT (by omega) (Ev.iteT (by omega) ?_)), h2, fun h0 p hp => ?_⟩
   ·rw [rdLReply_nat _ _ hl2, hb]
    refine Ev.bind hs (Ev.iteF c ?_)
    rw [wrapN (by omega)]
    exact hr
   ·rcases List.mem_cons.1 hp with rfl | hp
    ·exact hsf (by omega)
    ·exact h3 h0 p hp
theorem szReplyS_ev (l : List S114) (hl : l.length ≤ maxLen) (hz : ∀ q ∈ l, RawReply q) (left : Int) (h0 : 0 ≤ left) (h1 : left ≤ 1048576) :
  ∃ r, Ev (fun k => laws_szReplyS.f k l left) r ∧ r ≤ 1048576 ∧ (0 ≤ r → FewReplyS l) := by
 unfold maxLen at hl
 have ew : wrap64 (left - (l.length : Int)) = left - l.length := wrapI (by omega)
 unfold laws_szReplyS.f
 rw [ew]
 by_cases c : left - l.length < 0
 ·exact ⟨-1, Ev.iteT c (Ev.some_ rfl), by omega, fun h => by omega⟩
 ·obtain ⟨r, hr, h2, h3⟩ := szReplyS_loop l (by omega) hz l 0 (left - l.length) rfl (Nat.zero_le _) (by omega) (by omega)
  exact ⟨r, Ev.iteF c hr, h2, fun h => ⟨by omega, h3 h⟩⟩
def to_Reply (q : S114) : S44 := ⟨q.f0, q.f1⟩
theorem toReply_ev (q : S114) (h : FewReply q) : Ev (fun k => laws_toReply.f k q.f0 q.f1) (q.f0, q.f1) := by
 unfold laws_toReply.f
 exact Ev.bind (toIntS_ev q.f1 h.r1) (Ev.some_ rfl)
theorem toReplyS_loop (l : List S114) (hl : FewReplyS l) : ∀ (d i : Nat), i + d = l.length →
  Ev (fun k => laws_toReplyS.l0 k l (half to_Reply z44 l i) (i : Int)) (l.map to_Reply) := by
 have hlen := hl.len
 intro d
 induction d with
 | zero =>
  intro i hd
  obtain rfl : i = l.length := by omega
  exact Ev.step (fun k => rfl) (Ev.iteF (by omega) (Ev.some_ (half_full _ _ _)))
 | succ d ih =>
  intro i hd
  have hi : i < l.length := by omega
  refine Ev.step (fun k => rfl) (Ev.iteT (by omega) (Ev.iteT (by omega) ?_))
  rw [rdLReply_nat _ _ hi]
  refine Ev.bind (toReply_ev l[i] (hl.one _ (List.getElem_mem hi))) (Ev.iteT (by rw [half_length _ _ _ _ (by omega)]; omega) ?_)
  rw [wrapN (by omega), Int.toNat_natCast]
  have := ih (i + 1) (by omega)
  rw [← half_set to_Reply _ l i hi] at this
  exact this
theorem toReplyS_ev (l : List S114) (hl : FewReplyS l) : Ev (fun k => laws_toReplyS.f k l) (l.map to_Reply) := by
 have hlen := hl.len
 unfold laws_toReplyS.f
 rw [Int.toNat_natCast]
 have := toReplyS_loop l hl l.length 0 (by omega)
 rw [half_zero] at this
 exact Ev.iteT (by omega) (Ev.iteT (by omega) this)
structure SzReply (q : S44) : Prop where
 yes : True
 r1 : q.f1.length ≤ 1048576
theorem eqReply_ev (q : S44) (h : SzReply q) : Ev (fun k => laws_eqReply.f k q.f0 q.f1 q.f0 q.f1) true := by
 unfold laws_eqReply.f
 exact Ev.iteT rfl (Ev.bind (eqIntS_ev q.f1 (by have := h.r1; omega)) (Ev.iteT rfl (Ev.some_ rfl)))
theorem eqReplyS_loop (l : List S44) (hl : l.length ≤ 4194304) (hz : ∀ q ∈ l, SzReply q) : ∀ (d i : Nat), i + d = l.length → Ev (fun k => laws_eqReplyS.l0 k l l (i : Int)) true := by
 intro d
 induction d with
 | zero =>
  intro i hd
  exact Ev.step (fun k => rfl) (Ev.iteF (by omega) (Ev.some_ rfl))
 | succ d ih =>
  intro i hd
  have hi : i < l.length := by omega
  refine Ev.step (fun k => rfl) (Ev.iteT (by omega) (Ev.iteT (by omega) (Ev.iteT (by omega) ?_)))
  rw [rdIReply_nat _ _ hi]
  refine Ev.bind (eqReply_ev _ (hz _ (List.getElem_mem hi))) (Ev.iteT rfl ?_)
  rw [wrapN (by omega)]
  exact ih (i + 1) (by omega)
theorem eqReplyS_ev (l : List S44) (hl : l.length ≤ 4194304) (hz : ∀ q ∈ l, SzReply q) : Ev (fun k => laws_eqReplyS.f k l l) true := by
 unfold laws_eqReplyS.f
 exact Ev.iteT rfl (eqReplyS_loop l hl hz l.length 0 (by omega))
theorem FewReplyS.small {l : List S114} (h : FewReplyS l) : (l.map to_Reply).length ≤ 1048576 ∧ ∀ q ∈ l.map to_Reply, SzReply q := by
 refine ⟨by rw [List.length_map]; exact h.len, fun q hq => ?_⟩
 obtain ⟨p, hp, rfl⟩ := List.mem_map.1 hq
 have := h.one p hp
 exact ⟨trivial, this.r1⟩
theorem markReplyN_ev : ∀ (l : List S44) (a : Int), (∀ q ∈ l, SzReply q) → 0 ≤ a → a + 1048577 * l.length ≤ 4503599627370496 → ∃ r, Ev (fun k => laws_markReplyS.n k l a) r ∧ a ≤ r ∧ r ≤ a + 1048577 * l.length
 | [], a, _, _, _ => ⟨a, ⟨0, fun k _ => by unfold laws_markReplyS.n; rfl⟩, Int.le_refl _, by simp⟩
 | x :: t, a, hz, h0, h1 => by
  have hx := hz x (by simp)
  have h2 := hx.r1
  simp only [List.length_cons] at h1
  obtain ⟨s, hs⟩ := markText_ev a h0 (by omega)
  have m2 := markIntN_ev x.f1.length (a + 1) (by omega) (by omega)
  obtain ⟨r, hr, hle, hle2⟩ := markReplyN_ev t (a + 1 + x.f1.length) (fun q hq => hz q (by simp [hq])) (by omega) (by omega)
  refine ⟨r, Ev.congr (f := fun k => (laws_markText.f k a).bind fun _ => (laws_markIntS.n k x.f1.length (wrap64 (a + 1))).bind fun b1 => laws_markReplyS.n k t b1) (fun k => by rw [laws_markReplyS.n]) ?_, by omega, by simp only [List.length_cons]; omega⟩
  rw [wrapI (x := a + 1) (by omega)]
  exact Ev.bind hs (Ev.bind m2 hr)
theorem markDouble_ev (l : List S44) (hl : l.length ≤ 1048576) (hz : ∀ q ∈ l, SzReply q) : ∃ r, Ev (fun k => laws_markDouble.f k l 1) r ∧ 1 ≤ r ∧ r ≤ 1099512676353 := by
 obtain ⟨r, hr, h1, h2⟩ := markReplyN_ev l 1 hz (by omega) (by omega)
 exact ⟨r, Ev.bind (f := fun _ t => some t) hr (Ev.some_ rfl), h1, by omega⟩
theorem markCallS2_ev (l : List S33) (hl : l.length ≤ 1048576) (hz : ∀ q ∈ l, SzCall q) (a : Int) (h0 : 0 ≤ a) (h1 : a ≤ 1099512676353) : ∃ r, Ev (fun k => laws_markCallS.f k l a) r ∧ a ≤ r := by
 obtain ⟨r, hr, h1, h2⟩ := markCallN_ev l a hz h0 (by omega)
 exact ⟨r, hr, h1⟩
structure RSz (c : S44) : Prop where
 s0 : c.f0.size ≤ 4194304
 s1 : c.f1.length ≤ 4194304
structure RSzS (l : List S44) : Prop where
 len : l.length ≤ 4194304
 one : ∀ c ∈ l, RSz c
theorem rdReply_nat (l : List S44) (i : Nat) (h : i < l.length) : rd_T44 l (i : Int) = l[i] := by
 unfold rd_T44
 exact getD_nat _ _ _ h
def valuesS (l : List Int) : Bool := decide (1 ≤ (l.length : Int)) && (decide ((l.length : Int) ≤ 4) && l.all numS)
def doubleS (l : List S44) : Bool := (l.all fun r => valuesS r.f1) && namesS (l.map fun r => r.f0) 4
theorem implDouble_loop (l : List S44) (hl : RSzS l) : ∀ (t : List S44) (i : Nat), l.drop i = t → i ≤ l.length →
  Ev (fun k => impl_ValidDouble.l0 k ((l.take i).map fun r => r.f0) l (l.length : Int) (i : Int)) ((t.all fun r => valuesS r.f1) && namesS (l.map fun r => r.f0) 4) := by
 have hlen := hl.len
 intro t
 induction t with
 | nil =>
  intro i h hi
  have hl2 := drop_nil h
  rw [List.take_of_length_le hl2]
  refine Ev.step (fun k => rfl) (Ev.iteF (by omega) (Ev.bind (namesOk_ev (l.map fun r => r.f0) 4 (by rw [List.length_map]; omega) ?_) (Ev.bool (by simp))))
  intro x hx
  obtain ⟨r, hr, rfl⟩ := List.mem_map.1 hx
  have := (hl.one r hr).s0
  omega
 | cons b t ih =>
  intro i h hi
  obtain ⟨hl2, hb, ht⟩ := drop_cons h
  have hs : RSz b := hl.one b (hb ▸ List.getElem_mem hl2)
  have h1 := hs.s1
  have hnext := ih (i + 1) ht (by omega)
  have e : (l.take (i + 1)).map (fun r => r.f0) = (l.take i).map (fun r => r.f0) ++ [b.f0] := by rw [List.take_succ_eq_append_getElem hl2, List.map_append, hb]; rfl
  rw [e] at hnext
  refine Ev.step (fun k => rfl) (Ev.iteT (by omega) (Ev.iteT (by omega) (Ev.iteT (by omega) ?_)))
  rw [rdReply_nat _ _ hl2, hb, List.all_cons, wrapN (by omega)]
  by_cases c1 : (b.f1.length : Int) < 1
  ·exact Ev.iteT c1 (Ev.bool (by rw [show valuesS b.f1 = false by unfold valuesS; rw [decide_eq_false (by omega), Bool.false_and]]; rfl))
  ·by_cases c2 : (b.f1.length : Int) > 4
   ·exact Ev.iteF c1 (Ev.iteT c2 (Ev.bool (by rw [show valuesS b.f1 = false by unfold valuesS; rw [show decide ((b.f1.length : Int) ≤ 4) = false from decide_eq_false (by omega), Bool.false_and, Bool.and_false]]; rfl)))
   ·refine Ev.iteF c1 (Ev.iteF c2 (Ev.bind (numbersOk_loop b.f1 (by omega) b.f1 0 rfl (Nat.zero_le _)) ?_))
    have ev : valuesS b.f1 = b.f1.all numS := by unfold valuesS; rw [decide_eq_true (by omega), show decide ((b.f1.length : Int) ≤ 4) = true from decide_eq_true (by omega), Bool.true_and, Bool.true_and]
    rw [ev]
    cases c3 : b.f1.all numS with
    | false => exact Ev.iteF (by simp) (Ev.bool (by simp))
    | true => exact Ev.iteT rfl (Ev.iteT (by rw [List.length_map, List.length_take]; omega) (by simpa using hnext))
theorem implDouble_ev (l : List S44) (hl : RSzS l) : Ev (fun k => impl_ValidDouble.f k l) (doubleS l) := implDouble_loop l hl l 0 rfl (Nat.zero_le _)
theorem validReply_loop (s : ByteArray) (hs : s.size ≤ 4611686018427387903) (l : List Int) (hl : l.length ≤ 4611686018427387903) : ∀ (t : List Int) (i : Nat), l.drop i = t → i ≤ l.length →
  Ev (fun k => spec_validReply.l0 k (i : Int) s l) (t.all numS && (nameS s && decide (1 ≤ (l.length : Int) ∧ (l.length : Int) ≤ 4))) := by
 intro t
 induction t with
 | nil =>
  intro i h hi
  have hl2 := drop_nil h
  refine Ev.step (fun k => rfl) (Ev.iteF (by omega) (Ev.bind (validName_ev s hs) ?_))
  cases c : nameS s with
  | false => exact Ev.iteF (by simp) (Ev.bool (by simp))
  | true => exact Ev.iteT rfl (Ev.bind0 (inRange_ev _ _ _) (Ev.bool (by simp)))
 | cons b t ih =>
  intro i h hi
  obtain ⟨hl2, hb, ht⟩ := drop_cons h
  refine Ev.step (fun k => rfl) (Ev.iteT (by omega) (Ev.iteT (by omega) ?_))
  rw [rd_nat _ _ hl2, hb, wrapN (by omega), List.all_cons]
  refine Ev.bind0 (inRange_ev _ _ _) ?_
  by_cases h1 : -99 ≤ b ∧ b ≤ 99
  ·rw [show numS b = true by simp [numS]; omega, Bool.true_and]
   exact Ev.iteT (by simpa using h1) (ih (i + 1) ht (by omega))
  ·rw [show numS b = false by simp [numS]; omega]
   exact Ev.iteF (by simpa using h1) (Ev.bool (by simp))
theorem validReply_ev (b : S44) (hs : RSz b) : Ev (fun k => spec_validReply.f k b.f0 b.f1) (valuesS b.f1 && nameS b.f0) := by
 have h0 := hs.s0
 have h1 := hs.s1
 have h := validReply_loop b.f0 (by omega) b.f1 (by omega) b.f1 0 rfl (Nat.zero_le _)
 have e : (b.f1.all numS && (nameS b.f0 && decide (1 ≤ (b.f1.length : Int) ∧ (b.f1.length : Int) ≤ 4))) = (valuesS b.f1 && nameS b.f0) := by
  unfold valuesS
  rw [Bool.decide_and]
  generalize b.f1.all numS = x
  generalize nameS b.f0 = y
  generalize decide (1 ≤ (b.f1.length : Int)) = z
  generalize decide ((b.f1.length : Int) ≤ 4) = u
  cases x <;> cases y <;> cases z <;> cases u <;> rfl
 rw [e] at h
 exact h
theorem find_spec (s : ByteArray) : ∀ (l : List S44) (i : Nat), (∃ j, ∃ h : j < l.length, impl_replyPred.find s l i = ((i + j : Nat) : Int) ∧ l[j].f0 = s) ∨ (impl_replyPred.find s l i = -1 ∧ ∀ r ∈ l, r.f0 ≠ s)
 | [], i => .inr ⟨rfl, fun r hr => by cases hr⟩
 | x :: t, i => by
  unfold impl_replyPred.find
  by_cases c : x.f0.toList = s.toList
  ·rw [if_pos c]
   exact .inl ⟨0, by simp, by simp, toList_inj c⟩
  ·rw [if_neg c]
   rcases find_spec s t (i + 1) with ⟨j, hj, h1, h2⟩ | ⟨h1, h2⟩
   ·exact .inl ⟨j + 1, by simpa using hj, by rw [h1]; congr 1; omega, by simpa using h2⟩
   ·refine .inr ⟨h1, fun r hr => ?_⟩
    rcases List.mem_cons.1 hr with rfl | hr
    ·exact fun e => c (by rw [e])
    ·exact h2 r hr
theorem replyAt_loop (l : List S44) (s : ByteArray) (hl : l.length ≤ 4611686018427387903) : ∀ (t : List S44) (i : Nat), l.drop i = t → i ≤ l.length → Ev (fun k => spec_replyAt.l0 k l s (i : Int)) (impl_replyPred.find s t i) := by
 intro t
 induction t with
 | nil =>
  intro i h hi
  have hl2 := drop_nil h
  exact Ev.step (fun k => rfl) (Ev.iteF (by omega) (Ev.some_ rfl))
 | cons b t ih =>
  intro i h hi
  obtain ⟨hl2, hb, ht⟩ := drop_cons h
  refine Ev.step (fun k => rfl) (Ev.iteT (by omega) (Ev.iteT (by omega) ?_))
  rw [rdReply_nat _ _ hl2, hb, wrapN (by omega), impl_replyPred.find]
  by_cases c : b.f0.toList = s.toList
  ·rw [if_pos c]
   exact Ev.iteT c (Ev.some_ rfl)
  ·rw [if_neg c]
   exact Ev.iteF c (ih (i + 1) ht (by omega))
theorem replyAt_ev (l : List S44) (s : ByteArray) (hl : l.length ≤ 4611686018427387903) : Ev (fun k => spec_replyAt.f k l s) (impl_replyPred.find s l 0) := replyAt_loop l s hl l 0 rfl (Nat.zero_le _)
theorem specDouble_loop (l : List S44) (hl : RSzS l) : ∀ (t : List S44) (i : Nat), l.drop i = t → i ≤ l.length → ((l.take i).map fun r => r.f0).Nodup →
  Ev (fun k => spec_validDouble.l0 k (i : Int) l) ((t.all fun r => valuesS r.f1 && nameS r.f0) && (decide (l.map fun r => r.f0).Nodup && decide ((l.length : Int) ≤ 4))) := by
 have hlen := hl.len
 intro t
 induction t with
 | nil =>
  intro i h hi hn
  have hl2 := drop_nil h
  rw [List.take_of_length_le hl2] at hn
  exact Ev.step (fun k => rfl) (Ev.iteF (by omega) (Ev.bool (by rw [decide_eq_true hn]; rfl)))
 | cons b t ih =>
  intro i h hi hn
  obtain ⟨hl2, hb, ht⟩ := drop_cons h
  have hs : RSz b := hl.one b (hb ▸ List.getElem_mem hl2)
  have hl3 : i < (l.map fun r => r.f0).length := by rw [List.length_map]; exact hl2
  have hnn := nodup_take_succ (l.map fun r => r.f0) i hl3
  rw [← List.map_take, ← List.map_take] at hnn
  have hbi : (l.map fun r => r.f0)[i] = b.f0 := by rw [List.getElem_map, hb]
  rw [hbi] at hnn
  refine Ev.step (fun k => rfl) (Ev.iteT (by omega) (Ev.iteT (by omega) ?_))
  rw [rdReply_nat _ _ hl2, hb, Int.toNat_natCast, List.all_cons, wrapN (by omega)]
  refine Ev.bind (validReply_ev b hs) ?_
  cases c1 : (valuesS b.f1 && nameS b.f0) with
  | false => exact Ev.iteF (by simp) (Ev.bool (by simp))
  | true =>
   refine Ev.iteT rfl (Ev.iteT (by omega) (Ev.bind (replyAt_ev (l.take i) b.f0 (by rw [List.length_take]; omega)) ?_))
   rcases find_spec b.f0 (l.take i) 0 with ⟨j, hj, h1, h2⟩ | ⟨h1, h2⟩
   ·rw [h1]
    refine Ev.iteT (by omega) (Ev.bool ?_)
    have hmem : b.f0 ∈ (l.take i).map fun r => r.f0 := List.mem_map.2 ⟨_, List.getElem_mem hj, h2⟩
    have hbad : ¬ (l.map fun r => r.f0).Nodup := fun hall => (hnn.1 (by rw [List.map_take]; exact hall.sublist (List.take_sublist _ _))).2 hmem
    rw [decide_eq_false hbad]
    simp
   ·rw [h1]
    refine Ev.iteF (by omega) ?_
    rw [Bool.true_and]
    refine ih (i + 1) ht (by omega) (hnn.2 ⟨hn, fun hm => ?_⟩)
    obtain ⟨r, hr, e⟩ := List.mem_map.1 hm
    exact h2 r hr e
theorem all_both {α : Type} (p q : α → Bool) : ∀ l : List α, (l.all fun r => p r && q r) = (l.all p && l.all q)
 | [] => rfl
 | x :: t => by
  rw [List.all_cons, List.all_cons, List.all_cons, all_both p q t]
  generalize p x = a
  generalize q x = b
  generalize t.all p = c
  generalize t.all q = d
  cases a <;> cases b <;> cases c <;> cases d <;> rfl
theorem specDouble_ev (l : List S44) (hl : RSzS l) : Ev (fun k => spec_validDouble.f k l) (doubleS l) := by
 have h := specDouble_loop l hl l 0 rfl (Nat.zero_le _) (by simp)
 have e : ((l.all fun r => valuesS r.f1 && nameS r.f0) && (decide (l.map fun r => r.f0).Nodup && decide ((l.length : Int) ≤ 4))) = doubleS l := by
  unfold doubleS namesS
  rw [all_both (fun r : S44 => valuesS r.f1) (fun r => nameS r.f0), List.length_map, List.all_map, Bool.and_assoc]
  rfl
 rw [e] at h
 exact h
def cntM (s : ByteArray) (l : List S33) : Nat := l.countP fun c => decide (c.f0 = s)
def repV (rs : List S44) (s : ByteArray) : Int := impl_replyPred.find s rs 0
def atV (rs : List S44) (s : ByteArray) (n : Nat) : Int := mn (n : Int) (wrap64 ((((rd_T44 rs (repV rs s)).f1).length : Int) - 1))
def valV (rs : List S44) (s : ByteArray) (n : Nat) : Int := rd ((rd_T44 rs (repV rs s)).f1) (atV rs s n)
def playL (rs : List S44) : List S33 → List S33 → List Int
 | _, [] => []
 | d, c :: t => valV rs c.f0 (cntM c.f0 d) :: playL rs (d ++ [c]) t
def hasR (rs : List S44) (c : S33) : Bool := decide (0 ≤ repV rs c.f0)
def playV (rs : List S44) (l : List S33) : List Int × Bool := if doubleS rs = true ∧ callsS l = true ∧ l.all (hasR rs) = true then (playL rs [] l, true) else ([], false)
theorem playL_length (rs : List S44) : ∀ t d, (playL rs d t).length = t.length
 | [], _ => rfl
 | c :: t, d => by rw [playL, List.length_cons, List.length_cons, playL_length rs t]
theorem cntM_take (s : ByteArray) (l : List S33) (i : Nat) (h : i < l.length) : cntM s (l.take (i + 1)) = cntM s (l.take i) + if l[i].f0 = s then 1 else 0 := by
 unfold cntM
 rw [List.take_succ_eq_append_getElem h, List.countP_append, List.countP_singleton]
 simp only [decide_eq_true_eq]
theorem cntM_le (s : ByteArray) (l : List S33) (i : Nat) : cntM s (l.take i) ≤ i := by
 unfold cntM
 have := List.countP_le_length (p := fun c : S33 => decide (c.f0 = s)) (l := l.take i)
 rw [List.length_take] at this
 omega
/-- Where a reply is: its place, and that what is asked of it is there. -/
theorem rep_at (rs : List S44) (hl : rs.length ≤ 4194304) (hd : doubleS rs = true) (s : ByteArray) (n : Nat) (h : 0 ≤ repV rs s) (hn : n ≤ 4194304) :
  repV rs s < (rs.length : Int) ∧ 0 ≤ atV rs s n ∧ atV rs s n < (((rd_T44 rs (repV rs s)).f1).length : Int) := by
 unfold atV repV at *
 rcases find_spec s rs 0 with ⟨j, hj, h1, h2⟩ | ⟨h1, h2⟩
 ·rw [Nat.zero_add] at h1
  rw [h1, rdReply_nat _ _ hj]
  have hv : valuesS rs[j].f1 = true := by
   unfold doubleS at hd
   simp only [Bool.and_eq_true, List.all_eq_true] at hd
   exact hd.1 _ (List.getElem_mem hj)
  unfold valuesS at hv
  simp only [Bool.and_eq_true, decide_eq_true_eq] at hv
  obtain ⟨v1, v2, _⟩ := hv
  have ew : wrap64 ((rs[j].f1.length : Int) - 1) = (rs[j].f1.length : Int) - 1 := wrapI (by omega)
  rw [ew]
  unfold mn
  refine ⟨by omega, ?_, ?_⟩ <;> split <;> omega
 ·rw [h1] at h
  exact absurd h (by omega)
theorem count_loop (l : List S33) (s : ByteArray) (hl : l.length ≤ 4194304) : ∀ (t : List S33) (i n : Nat), l.drop i = t → i ≤ l.length → n ≤ i → Ev (fun k => spec_countMethod.l0 k l s (n : Int) (i : Int)) ((n + cntM s t : Nat) : Int) := by
 intro t
 induction t with
 | nil =>
  intro i n h hi hn
  have hl2 := drop_nil h
  exact Ev.step (fun k => rfl) (Ev.iteF (by omega) (Ev.some_ (by simp [cntM])))
 | cons b t ih =>
  intro i n h hi hn
  obtain ⟨hl2, hb, ht⟩ := drop_cons h
  refine Ev.step (fun k => rfl) (Ev.iteT (by omega) (Ev.iteT (by omega) ?_))
  rw [rdCall_nat _ _ hl2, hb, wrapN (i := i) (by omega), wrapN (i := n) (by omega)]
  by_cases c : b.f0.toList = s.toList
  ·have := ih (i + 1) (n + 1) ht (by omega) (by omega)
   rw [show n + 1 + cntM s t = n + cntM s (b :: t) by unfold cntM; rw [List.countP_cons_of_pos (by simp [toList_inj c])]; omega] at this
   exact Ev.iteT c this
  ·have := ih (i + 1) n ht (by omega) (by omega)
   rw [show n + cntM s t = n + cntM s (b :: t) by unfold cntM; rw [List.countP_cons_of_neg (by simp; exact fun e => c (by rw [e]))]] at this
   exact Ev.iteF c this
theorem count_ev (l : List S33) (s : ByteArray) (hl : l.length ≤ 4194304) : Ev (fun k => spec_countMethod.f k l s) ((cntM s l : Nat) : Int) := by
 have h := count_loop l s hl l 0 0 rfl (Nat.zero_le _) (Nat.le_refl _)
 rw [Nat.zero_add] at h
 exact h
def ends (rs : List S44) (a : List Int) (d t : List S33) : List Int × Bool := if t.all (hasR rs) = true then (a ++ playL rs d t, true) else ([], false)
theorem ends_cons (rs : List S44) (a : List Int) (d : List S33) (b : S33) (t : List S33) (h : 0 ≤ repV rs b.f0) : ends rs (a ++ [valV rs b.f0 (cntM b.f0 d)]) (d ++ [b]) t = ends rs a d (b :: t) := by
 unfold ends
 rw [List.all_cons, show hasR rs b = true from decide_eq_true h, Bool.true_and, playL, List.append_assoc, List.singleton_append]
theorem specPlay_loop (rs : List S44) (hr : RSzS rs) (hd : doubleS rs = true) (l : List S33) (hl : CSzS l) : ∀ (t : List S33) (i : Nat) (a : List Int), l.drop i = t → i ≤ l.length → a.length ≤ i →
  Ev (fun k => spec_PlayCalls.l0 k l a (i : Int) rs) (ends rs a (l.take i) t) := by
 have hlen := hl.len
 have hlen2 := hr.len
 intro t
 induction t with
 | nil =>
  intro i a h hi ha
  have hl2 := drop_nil h
  exact Ev.step (fun k => rfl) (Ev.iteF (by omega) (Ev.some_ (by simp [ends, playL])))
 | cons b t ih =>
  intro i a h hi ha
  obtain ⟨hl2, hb, ht⟩ := drop_cons h
  have htk : l.take (i + 1) = l.take i ++ [b] := by rw [List.take_succ_eq_append_getElem hl2, hb]
  refine Ev.step (fun k => rfl) (Ev.iteT (by omega) (Ev.iteT (by omega) ?_))
  rw [rdCall_nat _ _ hl2, hb, Int.toNat_natCast, wrapN (by omega)]
  refine Ev.bind (replyAt_ev rs b.f0 (by omega)) ?_
  change Ev (fun k => if repV rs b.f0 < 0 then _ else _) _
  by_cases c : repV rs b.f0 < 0
  ·exact Ev.iteT c (Ev.some_ (by unfold ends; rw [List.all_cons, show hasR rs b = false from decide_eq_false (by omega)]; rfl))
  ·have hn := cntM_le b.f0 l i
   obtain ⟨r1, r2, r3⟩ := rep_at rs hlen2 hd b.f0 (cntM b.f0 (l.take i)) (by omega) (by omega)
   have hnext := ih (i + 1) (a ++ [valV rs b.f0 (cntM b.f0 (l.take i))]) ht (by omega) (by simp; omega)
   rw [htk, ends_cons rs a _ b t (by omega)] at hnext
   exact Ev.iteF c (Ev.iteT (show 0 ≤ repV rs b.f0 by omega) (Ev.iteT r1 (Ev.iteT (by omega) (Ev.bind (count_ev (l.take i) b.f0 (by rw [List.length_take]; omega)) (Ev.iteT r2 (Ev.iteT r3 (Ev.iteT (by omega) hnext)))))))
theorem specPlay_ev (rs : List S44) (hr : RSzS rs) (l : List S33) (hl : CSzS l) : Ev (fun k => spec_PlayCalls.f k rs l) (playV rs l) := by
 unfold spec_PlayCalls.f playV
 refine Ev.bind (specDouble_ev rs hr) ?_
 by_cases c : doubleS rs = true
 ·refine Ev.iteT c (Ev.bind (validCallsS_ev l hl) ?_)
  refine Ev.step (fun k => by rw [spec_PlayCalls.j0]) ?_
  by_cases d : callsS l = true
  ·refine Ev.iteF (by simp [d]) ?_
   have h := specPlay_loop rs hr c l hl l 0 [] rfl (Nat.zero_le _) (Nat.le_refl _)
   unfold ends at h
   rw [List.take_zero, List.nil_append] at h
   simpa [c, d] using h
  ·rw [if_neg (fun h => d h.2.1)]
   exact Ev.iteT (by simpa using d) (Ev.some_ rfl)
 ·rw [if_neg (fun h => c h.1)]
  refine Ev.iteF c ?_
  refine Ev.step (fun k => by rw [spec_PlayCalls.j0]) ?_
  exact Ev.iteT rfl (Ev.some_ rfl)
theorem look_some (m : List (ByteArray × Int)) (s : ByteArray) (n : Int) (hs : s.size ≤ 4194304) (h : mget m s = n) : impl_mapLook.f m s = some n := by
 unfold impl_mapLook.f
 rw [if_pos (by omega), h]
theorem put_some (m : List (ByteArray × Int)) (s : ByteArray) (n : Int) (hs : s.size ≤ 4194304) (hm : m.length ≤ 4194304) : impl_mapPut.f m s n = some ((s, n) :: m) := by
 unfold impl_mapPut.f
 rw [if_pos ⟨by omega, by omega⟩]
theorem implPlay_loop (rs : List S44) (hr : RSzS rs) (hd : doubleS rs = true) (l : List S33) (hl : CSzS l) : ∀ (t : List S33) (i : Nat) (a : List Int) (m : List (ByteArray × Int)), l.drop i = t → i ≤ l.length → a.length ≤ i → m.length ≤ i → (∀ s, mget m s = (cntM s (l.take i) : Nat)) →
  Ev (fun k => impl_PlayCalls.l0 k a m l (l.length : Int) (i : Int) rs) (ends rs a (l.take i) t) := by
 have hlen := hl.len
 have hlen2 := hr.len
 intro t
 induction t with
 | nil =>
  intro i a m h hi ha hm hg
  have hl2 := drop_nil h
  exact Ev.step (fun k => rfl) (Ev.iteF (by omega) (Ev.some_ (by simp [ends, playL])))
 | cons b t ih =>
  intro i a m h hi ha hm hg
  obtain ⟨hl2, hb, ht⟩ := drop_cons h
  have hz : CSz b := hl.one b (hb ▸ List.getElem_mem hl2)
  have h0 := hz.s0
  have htk : l.take (i + 1) = l.take i ++ [b] := by rw [List.take_succ_eq_append_getElem hl2, hb]
  refine Ev.step (fun k => rfl) (Ev.iteT (by omega) (Ev.iteT (by omega) (Ev.iteT (by omega) ?_)))
  rw [rdCall_nat _ _ hl2, hb, wrapN (by omega)]
  refine Ev.bind0 (show impl_replyPred.f rs b.f0 b.f1 = some (repV rs b.f0) from rfl) ?_
  by_cases c : repV rs b.f0 < 0
  ·exact Ev.iteT c (Ev.some_ (by unfold ends; rw [List.all_cons, show hasR rs b = false from decide_eq_false (by omega)]; rfl))
  ·have hn := cntM_le b.f0 l i
   obtain ⟨r1, r2, r3⟩ := rep_at rs hlen2 hd b.f0 (cntM b.f0 (l.take i)) (by omega) (by omega)
   have hnext := ih (i + 1) (a ++ [valV rs b.f0 (cntM b.f0 (l.take i))]) ((b.f0, wrap64 (((cntM b.f0 (l.take i) : Nat) : Int) + 1)) :: m) ht (by omega) (by simp; omega) (by simp; omega) (fun s => by
    rw [cntM_take s l i hl2, hb, mget, wrapN (by omega)]
    by_cases e : b.f0.toList = s.toList
    ·have e2 := toList_inj e
     subst e2
     rw [if_pos e, if_pos rfl]
    ·rw [if_neg e, if_neg (fun q => e (by rw [q])), hg s, Nat.add_zero])
   rw [htk, ends_cons rs a _ b t (by omega)] at hnext
   have hlk := look_some m b.f0 _ h0 (hg b.f0)
   have hput := put_some m b.f0 (wrap64 (((cntM b.f0 (l.take i) : Nat) : Int) + 1)) h0 (by omega)
   exact Ev.iteF c (Ev.iteT (by omega) (Ev.iteT r1 (Ev.bind0 hlk (Ev.iteT r2 (Ev.iteT r3 (Ev.iteT (by omega) (Ev.bind0 hlk (Ev.bind0 hput hnext))))))))
theorem implPlay_ev (rs : List S44) (hr : RSzS rs) (l : List S33) (hl : CSzS l) : Ev (fun k => impl_PlayCalls.f k rs l) (playV rs l) := by
 unfold impl_PlayCalls.f playV
 refine Ev.bind (implDouble_ev rs hr) ?_
 by_cases c : doubleS rs = true
 ·refine Ev.iteT c (Ev.bind (validCallsI_ev l hl) ?_)
  refine Ev.step (fun k => by rw [impl_PlayCalls.j0]) ?_
  by_cases d : callsS l = true
  ·refine Ev.iteF (by simp [d]) ?_
   have h := implPlay_loop rs hr c l hl l 0 [] [] rfl (Nat.zero_le _) (Nat.le_refl _) (Nat.le_refl _) (fun s => rfl)
   unfold ends at h
   rw [List.take_zero, List.nil_append] at h
   simpa [c, d] using h
  ·rw [if_neg (fun h => d h.2.1)]
   exact Ev.iteT (by simpa using d) (Ev.some_ rfl)
 ·rw [if_neg (fun h => c h.1)]
  refine Ev.iteF c ?_
  refine Ev.step (fun k => by rw [impl_PlayCalls.j0]) ?_
  exact Ev.iteT rfl (Ev.some_ rfl)
end Go.Proofs.Ytcbkpdgbijdbbaa.N
