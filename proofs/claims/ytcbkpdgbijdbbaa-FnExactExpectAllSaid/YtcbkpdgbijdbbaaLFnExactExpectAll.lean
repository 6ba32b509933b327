/- Plain laws, without Go, that the law FnExactExpectAll leans on. No condition. -/
import Derived.Test.YtcbkpdgbijdbbaaRx0
import Derived.Test.YtcbkpdgbijdbbaaRx1
import Derived.Test.YtcbkpdgbijdbbaaRx2
import Derived.Test.YtcbkpdgbijdbbaaRx3
import Derived.Test.YtcbkpdgbijdbbaaRx4
import Derived.Test.YtcbkpdgbijdbbaaRx5
import Derived.Test.YtcbkpdgbijdbbaaRx6
import Derived.Test.YtcbkpdgbijdbbaaRx7
import Derived.Test.YtcbkpdgbijdbbaaRx8
import Derived.Test.YtcbkpdgbijdbbaaRx9
import Derived.Test.YtcbkpdgbijdbbaaRx10
import Derived.Test.YtcbkpdgbijdbbaaRx11
import Derived.Test.YtcbkpdgbijdbbaaWMore
import Derived.IntWalk
import Derived.Lib.Bytealg
import Derived.Lib.Strings
set_option linter.unusedSimpArgs false
set_option linter.unusedVariables false
namespace Go.Proofs.Ytcbkpdgbijdbbaa.R
open Go.RowKit Go.Proofs.YtcbkpdgbijdbbaaW.PrintWords Go.Proofs.YtcbkpdgbijdbbaaW.PrintLast Go.Proofs.YtcbkpdgbijdbbaaW.PrintMore
theorem Ev.iteT {α : Type} {c : Prop} [Decidable c] {g f : Nat → Option α} {r : α} (h : c) (k : Ev g r) : Ev (fun n => if c then g n else f n) r := by
 simpa only [if_pos h] using k
theorem Ev.iteF {α : Type} {c : Prop} [Decidable c] {g f : Nat → Option α} {r : α} (h : ¬ c) (k : Ev f r) : Ev (fun n => if c then g n else f n) r := by
 simpa only [if_neg h] using k
/-- A callee without rounds. -/
theorem Ev.bind0 {α β : Type} {g : Option α} {f : Nat → α → Option β} {a : α} {r : β} (h : g = some a) (k : Ev (fun n => f n a) r) : Ev (fun n => g.bind (f n)) r := by
 subst h
 simpa only [Option.bind_some] using k
theorem Ev.some_ {α : Type} {x r : α} (h : x = r) : Ev (fun _ => some x) r := ⟨0, fun _ _ => by rw [h]⟩
theorem Ev.bool {b r : Bool} (h : b = r) : Ev (fun _ => some b) r := Ev.some_ h
theorem wrapN {i : Nat} (h : i < 4611686018427387904) : wrap64 ((i : Int) + 1) = ((i + 1 : Nat) : Int) := by
 unfold wrap64
 omega
theorem wrapI {x : Int} (h : -9223372036854775808 ≤ x ∧ x ≤ 9223372036854775807) : wrap64 x = x := by
 unfold wrap64
 omega
theorem rd_nat (l : List Int) (i : Nat) (h : i < l.length) : rd l (i : Int) = l[i] := by
 simp [rd, List.getD_eq_getElem?_getD, List.getElem?_eq_getElem h]
theorem getD_nat {α : Type} (d : α) (l : List α) (i : Nat) (h : i < l.length) : l.getD (i : Int).toNat d = l[i] := by
 simp [List.getD_eq_getElem?_getD, List.getElem?_eq_getElem h]
theorem size_list (s : ByteArray) : s.data.toList.length = s.size := by rw [Array.length_toList]; rfl
theorem bt_nat (s : ByteArray) (i : Nat) (h : i < s.data.toList.length) : bt s (i : Int) = ((s.data.toList[i]).toNat : Int) := by
 have h' : i < s.size := by rw [← size_list]; exact h
 unfold bt
 rw [dif_pos (by simpa using h')]
 rfl
/-- A list seen from place i on. -/
theorem drop_cons {α : Type} {l : List α} {i : Nat} {b : α} {t : List α} (h : l.drop i = b :: t) : ∃ hi : i < l.length, l[i] = b ∧ l.drop (i + 1) = t := by
 have hi : i < l.length := by
  rcases Nat.lt_or_ge i l.length with h1 | h1
  ·exact h1
  ·rw [List.drop_of_length_le h1] at h
   cases h
 refine ⟨hi, ?_, ?_⟩
 ·rw [List.drop_eq_getElem_cons hi] at h
  exact (List.cons.inj h).1
 ·rw [List.drop_eq_getElem_cons hi] at h
  exact (List.cons.inj h).2
theorem drop_nil {α : Type} {l : List α} {i : Nat} (h : l.drop i = []) : l.length ≤ i := by
 have := congrArg List.length h
 rw [List.length_drop] at this
 simpa using Nat.sub_eq_zero_iff_le.1 this
theorem toList_inj {a b : ByteArray} (h : a.toList = b.toList) : a = b := by
 rw [Lib.toList_data, Lib.toList_data] at h
 cases a with
 | mk x => cases b with
  | mk y =>
   have : x = y := Array.ext' h
   rw [this]
theorem toList_iff {a b : ByteArray} : a.toList = b.toList ↔ a = b := ⟨toList_inj, fun h => by rw [h]⟩
def lowB (b : UInt8) : Bool := decide (97 ≤ (b.toNat : Int)) && decide ((b.toNat : Int) ≤ 122)
/-- What is asked of a name behind its letters. -/
def nameEnd (s : ByteArray) : Bool := decide (1 ≤ s.size) && (decide (s.size ≤ 6) && (s.toList != ([97, 110, 100] : List UInt8) && (s.toList != ([111, 114] : List UInt8) && s.toList != ([110, 111, 116] : List UInt8))))
def nameS (s : ByteArray) : Bool := s.data.toList.all lowB && nameEnd s
theorem nameOk_loop (s : ByteArray) (hs : s.size ≤ 4611686018427387903) : ∀ (t : List UInt8) (i : Nat), s.data.toList.drop i = t → i ≤ s.size →
  Ev (fun k => impl_nameOk.l0 k s (s.size : Int) (i : Int)) (t.all lowB && nameEnd s) := by
 intro t
 induction t with
 | nil =>
  intro i h hi
  have hl := drop_nil h
  rw [size_list] at hl
  refine Ev.step (fun k => rfl) (Ev.iteF (by omega) ?_)
  simp only [List.all_nil, Bool.true_and]
  unfold nameEnd
  by_cases h1 : 1 ≤ s.size
  ·refine Ev.iteT (by omega) ?_
   by_cases h2 : s.size ≤ 6
   ·refine Ev.iteT (by omega) ?_
    by_cases h3 : s.toList = ([97, 110, 100] : List UInt8)
    ·exact Ev.iteT h3 (Ev.bool (by simp [h3]))
    ·refine Ev.iteF h3 ?_
     by_cases h4 : s.toList = ([111, 114] : List UInt8)
     ·exact Ev.iteT h4 (Ev.bool (by simp [h4]))
     ·exact Ev.iteF h4 (Ev.bool (by simp [h1, h2, bne_iff_ne.2 h3, bne_iff_ne.2 h4]))
   ·exact Ev.iteF (by omega) (Ev.bool (by simp [h2]))
  ·exact Ev.iteF (by omega) (Ev.bool (by simp [h1]))
 | cons b t ih =>
  intro i h hi
  obtain ⟨hl, hb, ht⟩ := drop_cons h
  have hl' := hl
  rw [size_list] at hl'
  refine Ev.step (fun k => rfl) (Ev.iteT (by omega) (Ev.iteT (by omega) (Ev.iteT (by omega) ?_)))
  rw [bt_nat s i hl, hb]
  by_cases h1 : (b.toNat : Int) < 97
  ·exact Ev.iteT h1 (Ev.bool (by simp [lowB]; omega))
  ·refine Ev.iteF h1 ?_
   by_cases h2 : (b.toNat : Int) > 122
   ·exact Ev.iteT h2 (Ev.bool (by simp [lowB]; omega))
   ·refine Ev.iteF h2 ?_
    rw [wrapN (by omega)]
    have := ih (i + 1) ht (by omega)
    have e : lowB b = true := by simp [lowB]; omega
    simpa [List.all_cons, e] using this
theorem nameOk_ev (s : ByteArray) (hs : s.size ≤ 4611686018427387903) : Ev (fun k => impl_nameOk.f k s) (nameS s) :=
 nameOk_loop s hs _ 0 rfl (Nat.zero_le _)
theorem inRange_ev (a b c : Int) : spec_inRange.f a b c = some (decide (b ≤ a ∧ a ≤ c)) := by
 unfold spec_inRange.f
 by_cases h : b ≤ a
 ·rw [if_pos h]
  simp [h]
 ·rw [if_neg h]
  simp [h]
theorem validName_loop (s : ByteArray) (hs : s.size ≤ 4611686018427387903) : ∀ (t : List UInt8) (i : Nat), s.data.toList.drop i = t → i ≤ s.size →
  Ev (fun k => spec_validName.l0 k s (i : Int)) (t.all lowB && nameEnd s) := by
 intro t
 induction t with
 | nil =>
  intro i h hi
  have hl := drop_nil h
  rw [size_list] at hl
  refine Ev.step (fun k => rfl) (Ev.iteF (by omega) (Ev.bind0 (inRange_ev _ _ _) ?_))
  simp only [List.all_nil, Bool.true_and]
  unfold nameEnd
  by_cases h1 : 1 ≤ s.size
  ·by_cases h2 : s.size ≤ 6
   ·refine Ev.iteT (by simp; omega) ?_
    by_cases h3 : s.toList = ([97, 110, 100] : List UInt8)
    ·exact Ev.iteT h3 (Ev.bool (by simp [h3]))
    ·refine Ev.iteF h3 ?_
     by_cases h4 : s.toList = ([111, 114] : List UInt8)
     ·exact Ev.iteT h4 (Ev.bool (by simp [h4]))
     ·exact Ev.iteF h4 (Ev.bool (by simp [h1, h2, bne_iff_ne.2 h3, bne_iff_ne.2 h4]))
   ·exact Ev.iteF (by simp; omega) (Ev.bool (by simp [h2]))
  ·exact Ev.iteF (by simp; omega) (Ev.bool (by simp [h1]))
 | cons b t ih =>
  intro i h hi
  obtain ⟨hl, hb, ht⟩ := drop_cons h
  have hl' := hl
  rw [size_list] at hl'
  refine Ev.step (fun k => rfl) (Ev.iteT (by omega) (Ev.iteT (by omega) ?_))
  rw [bt_nat s i hl, hb]
  by_cases h1 : (b.toNat : Int) < 97
  ·exact Ev.iteT h1 (Ev.bool (by simp [lowB]; omega))
  ·refine Ev.iteF h1 ?_
   by_cases h2 : (b.toNat : Int) > 122
   ·exact Ev.iteT h2 (Ev.bool (by simp [lowB]; omega))
   ·refine Ev.iteF h2 ?_
    rw [wrapN (by omega)]
    have := ih (i + 1) ht (by omega)
    have e : lowB b = true := by simp [lowB]; omega
    simpa [List.all_cons, e] using this
theorem validName_ev (s : ByteArray) (hs : s.size ≤ 4611686018427387903) : Ev (fun k => spec_validName.f k s) (nameS s) :=
 validName_loop s hs _ 0 rfl (Nat.zero_le _)
/-- What a copy holds after i rounds. -/
def half {α β : Type} (f : α → β) (z : β) (l : List α) (i : Nat) : List β := (l.take i).map f ++ List.replicate (l.length - i) z
theorem half_zero {α β : Type} (f : α → β) (z : β) (l : List α) : half f z l 0 = List.replicate l.length z := by simp [half]
theorem half_full {α β : Type} (f : α → β) (z : β) (l : List α) : half f z l l.length = l.map f := by simp [half]
theorem half_length {α β : Type} (f : α → β) (z : β) (l : List α) (i : Nat) (h : i ≤ l.length) : (half f z l i).length = l.length := by
 simp [half]
 omega
theorem half_set {α β : Type} (f : α → β) (z : β) (l : List α) (i : Nat) (h : i < l.length) : (half f z l i).set i (f l[i]) = half f z l (i + 1) := by
 have e : l.length - i = (l.length - (i + 1)) + 1 := by omega
 have hl : ((l.take i).map f).length = i := by
  rw [List.length_map, List.length_take]
  omega
 unfold half
 rw [List.set_append_right _ _ (by omega), hl, Nat.sub_self, e, List.replicate_succ, List.set_cons_zero, List.take_succ_eq_append_getElem h, List.map_append, List.append_assoc]
 rfl
theorem szIntS_eq (l : List Int) (hl : l.length ≤ maxLen) (left : Int) (h0 : 0 ≤ left) (h1 : left ≤ 1048576) :
  ∃ r, laws_szIntS.f l left = some r ∧ r ≤ 1048576 ∧ (0 ≤ r → l.length ≤ 1048576) := by
 unfold maxLen at hl
 have ew : wrap64 (left - (l.length : Int)) = left - l.length := wrapI (by omega)
 unfold laws_szIntS.f
 rw [ew]
 by_cases c : left - l.length < 0
 ·exact ⟨-1, if_pos c, by omega, fun h => by omega⟩
 ·exact ⟨left - l.length, if_neg c, by omega, fun h => by omega⟩
theorem toIntS_loop (l : List Int) (hl : l.length ≤ 1048576) : ∀ (d i : Nat), i + d = l.length →
  Ev (fun k => laws_toIntS.l0 k l (half id (0 : Int) l i) (i : Int)) l := by
 intro d
 induction d with
 | zero =>
  intro i hd
  obtain rfl : i = l.length := by omega
  exact Ev.step (fun k => rfl) (Ev.iteF (by omega) (Ev.some_ (by rw [half_full]; simp)))
 | succ d ih =>
  intro i hd
  have hi : i < l.length := by omega
  refine Ev.step (fun k => rfl) (Ev.iteT (by omega) (Ev.iteT (by omega) ?_))
  rw [rd_nat _ _ hi]
  refine Ev.iteT (by rw [half_length _ _ _ _ (by omega)]; omega) ?_
  rw [wrapN (by omega), Int.toNat_natCast]
  have := ih (i + 1) (by omega)
  rw [← half_set id _ l i hi] at this
  exact this
theorem toIntS_ev (l : List Int) (hl : l.length ≤ 1048576) : Ev (fun k => laws_toIntS.f k l) l := by
 unfold laws_toIntS.f
 rw [Int.toNat_natCast]
 have := toIntS_loop l hl l.length 0 (by omega)
 rw [half_zero] at this
 exact Ev.iteT (by omega) (Ev.iteT (by omega) this)
theorem eqIntS_loop (l : List Int) (hl : l.length ≤ 4611686018427387903) : ∀ (d i : Nat), i + d = l.length → Ev (fun k => laws_eqIntS.l0 k l l (i : Int)) true := by
 intro d
 induction d with
 | zero =>
  intro i hd
  exact Ev.step (fun k => rfl) (Ev.iteF (by omega) (Ev.some_ rfl))
 | succ d ih =>
  intro i hd
  refine Ev.step (fun k => rfl) (Ev.iteT (by omega) (Ev.iteT (by omega) (Ev.iteT (by omega) (Ev.iteT rfl ?_))))
  rw [wrapN (by omega)]
  exact ih (i + 1) (by omega)
theorem eqIntS_ev (l : List Int) (hl : l.length ≤ 4611686018427387903) : Ev (fun k => laws_eqIntS.f k l l) true := by
 unfold laws_eqIntS.f
 exact Ev.iteT rfl (eqIntS_loop l hl l.length 0 (by omega))
def numS (n : Int) : Bool := decide (-99 ≤ n) && decide (n ≤ 99)
def callV (s : ByteArray) (l : List Int) : Bool := nameS s && (decide ((l.length : Int) ≤ 3) && l.all numS)
def callS (c : S33) : Bool := callV c.f0 c.f1
def callsS (l : List S33) : Bool := l.all callS && decide ((l.length : Int) ≤ 12)
structure CSz (c : S33) : Prop where
 s0 : c.f0.size ≤ 4194304
 s1 : c.f1.length ≤ 4194304
structure CSzS (l : List S33) : Prop where
 len : l.length ≤ 4194304
 one : ∀ c ∈ l, CSz c
theorem rdCall_nat (l : List S33) (i : Nat) (h : i < l.length) : rd_T33 l (i : Int) = l[i] := by
 unfold rd_T33
 exact getD_nat _ _ _ h
theorem numbersOk_loop (l : List Int) (hl : l.length ≤ 4611686018427387903) : ∀ (t : List Int) (i : Nat), l.drop i = t → i ≤ l.length → Ev (fun k => impl_numbersOk.l0 k l (l.length : Int) (i : Int)) (t.all numS) := by
 intro t
 induction t with
 | nil =>
  intro i h hi
  have hl2 := drop_nil h
  exact Ev.step (fun k => rfl) (Ev.iteF (by omega) (Ev.some_ rfl))
 | cons b t ih =>
  intro i h hi
  obtain ⟨hl2, hb, ht⟩ := drop_cons h
  refine Ev.step (fun k => rfl) (Ev.iteT (by omega) (Ev.iteT (by omega) (Ev.iteT (by omega) ?_)))
  rw [rd_nat _ _ hl2, hb, List.all_cons]
  by_cases h1 : b < -99
  ·exact Ev.iteT h1 (Ev.some_ (by rw [show numS b = false by simp [numS]; omega]; rfl))
  ·by_cases h2 : b > 99
   ·exact Ev.iteF h1 (Ev.iteT h2 (Ev.some_ (by rw [show numS b = false by simp [numS]; omega]; rfl)))
   ·refine Ev.iteF h1 (Ev.iteF h2 ?_)
    rw [wrapN (by omega), show numS b = true by simp [numS]; omega, Bool.true_and]
    exact ih (i + 1) ht (by omega)
theorem callOk_ev (s : ByteArray) (l : List Int) (hs : s.size ≤ 4611686018427387903) (hl : l.length ≤ 4611686018427387903) : Ev (fun k => impl_callOk.f k s l) (callV s l) := by
 unfold impl_callOk.f callV
 refine Ev.bind (nameOk_ev s hs) ?_
 cases c0 : nameS s with
 | false => exact Ev.iteF (by simp) (Ev.bool (by simp))
 | true =>
  refine Ev.iteT rfl ?_
  by_cases c1 : (l.length : Int) ≤ 3
  ·exact Ev.iteT c1 (Ev.bind (numbersOk_loop l hl l 0 rfl (Nat.zero_le _)) (Ev.bool (by simp [c1])))
  ·exact Ev.iteF c1 (Ev.bool (by simp [c1]))
theorem validCallsI_loop (l : List S33) (hl : CSzS l) : ∀ (t : List S33) (i : Nat), l.drop i = t → i ≤ l.length → Ev (fun k => impl_ValidCalls.l0 k l l (l.length : Int) (i : Int)) (t.all callS && decide ((l.length : Int) ≤ 12)) := by
 have hlen := hl.len
 intro t
 induction t with
 | nil =>
  intro i h hi
  have hl2 := drop_nil h
  exact Ev.step (fun k => rfl) (Ev.iteF (by omega) (Ev.some_ (by simp)))
 | cons b t ih =>
  intro i h hi
  obtain ⟨hl2, hb, ht⟩ := drop_cons h
  have hs : CSz b := hl.one b (hb ▸ List.getElem_mem hl2)
  have h0 := hs.s0
  have h1 := hs.s1
  refine Ev.step (fun k => rfl) (Ev.iteT (by omega) (Ev.iteT (by omega) (Ev.iteT (by omega) ?_)))
  rw [rdCall_nat _ _ hl2, hb]
  refine Ev.bind (callOk_ev b.f0 b.f1 (by omega) (by omega)) ?_
  rw [List.all_cons, show callS b = callV b.f0 b.f1 from rfl]
  cases c : callV b.f0 b.f1 with
  | false => exact Ev.iteF (by simp) (Ev.bool (by simp))
  | true =>
   refine Ev.iteT rfl ?_
   rw [wrapN (by omega)]
   exact ih (i + 1) ht (by omega)
theorem validCallsI_ev (l : List S33) (hl : CSzS l) : Ev (fun k => impl_ValidCalls.f k l) (callsS l) :=
 validCallsI_loop l hl l 0 rfl (Nat.zero_le _)
theorem specCalls_nums (l : List S33) (hl : CSzS l) (i : Nat) (hi : i < l.length) (r : Bool) (hc : Ev (fun k => spec_validCalls.l0 k l ((i + 1 : Nat) : Int)) r) : ∀ (t : List Int) (j : Nat), (l[i]).f1.drop j = t → j ≤ (l[i]).f1.length →
  Ev (fun k => spec_validCalls.l1 k l (i : Int) (j : Int)) (t.all numS && r) := by
 have hlen := hl.len
 have hs := (hl.one _ (List.getElem_mem hi)).s1
 intro t
 induction t with
 | nil =>
  intro j h hj
  have hl2 := drop_nil h
  refine Ev.step (fun k => rfl) (Ev.iteT (by omega) (Ev.iteT (by omega) ?_))
  rw [rdCall_nat _ _ hi, wrapN (i := i) (by omega)]
  exact Ev.iteF (by omega) (by simpa only [List.all_nil, Bool.true_and] using hc)
 | cons b t ih =>
  intro j h hj
  obtain ⟨hl2, hb, ht⟩ := drop_cons h
  refine Ev.step (fun k => rfl) (Ev.iteT (by omega) (Ev.iteT (by omega) ?_))
  rw [rdCall_nat _ _ hi, rd_nat _ _ hl2, hb, List.all_cons, wrapN (by omega)]
  refine Ev.iteT (by omega) (Ev.iteT (by omega) (Ev.bind0 (inRange_ev _ _ _) ?_))
  by_cases h1 : -99 ≤ b ∧ b ≤ 99
  ·rw [show numS b = true by simp [numS]; omega, Bool.true_and]
   exact Ev.iteT (by simpa using h1) (ih (j + 1) ht (by omega))
  ·rw [show numS b = false by simp [numS]; omega]
   exact Ev.iteF (by simpa using h1) (Ev.bool (by simp))
theorem validCallsS_loop (l : List S33) (hl : CSzS l) : ∀ (t : List S33) (i : Nat), l.drop i = t → i ≤ l.length → Ev (fun k => spec_validCalls.l0 k l (i : Int)) (t.all callS && decide ((l.length : Int) ≤ 12)) := by
 have hlen := hl.len
 intro t
 induction t with
 | nil =>
  intro i h hi
  have hl2 := drop_nil h
  exact Ev.step (fun k => rfl) (Ev.iteF (by omega) (Ev.some_ (by simp)))
 | cons b t ih =>
  intro i h hi
  obtain ⟨hl2, hb, ht⟩ := drop_cons h
  have hs : CSz b := hl.one b (hb ▸ List.getElem_mem hl2)
  have h0 := hs.s0
  have hnums := specCalls_nums l hl i hl2 _ (ih (i + 1) ht (by omega)) (l[i]).f1 0 rfl (Nat.zero_le _)
  rw [hb] at hnums
  refine Ev.step (fun k => rfl) (Ev.iteT (by omega) (Ev.iteT (by omega) ?_))
  rw [rdCall_nat _ _ hl2, hb]
  refine Ev.bind (validName_ev b.f0 (by omega)) ?_
  rw [List.all_cons, show callS b = (nameS b.f0 && (decide ((b.f1.length : Int) ≤ 3) && b.f1.all numS)) from rfl]
  cases c0 : nameS b.f0 with
  | false =>
   refine Ev.iteF (by simp) ?_
   refine Ev.step (fun k => by rw [spec_validCalls.j1]) ?_
   exact Ev.iteT rfl (Ev.bool (by simp))
  | true =>
   refine Ev.iteT rfl ?_
   by_cases c1 : (b.f1.length : Int) ≤ 3
   ·refine Ev.step (fun k => by rw [spec_validCalls.j1]) ?_
    refine Ev.iteF (by simp; omega) ?_
    simpa [c1, Bool.and_assoc] using hnums
   ·refine Ev.step (fun k => by rw [spec_validCalls.j1]) ?_
    exact Ev.iteT (by simp; omega) (Ev.bool (by simp [c1]))
theorem validCallsS_ev (l : List S33) (hl : CSzS l) : Ev (fun k => spec_validCalls.f k l) (callsS l) :=
 validCallsS_loop l hl l 0 rfl (Nat.zero_le _)
def expectS (e : S73) : Bool := callV e.f0 e.f1 && ((!e.f2 || decide (e.f1 = [])) && (decide (0 ≤ e.f3) && (decide (e.f3 ≤ e.f4) && decide (e.f4 ≤ 12))))
def expectsS (l : List S73) : Bool := l.all expectS && decide ((l.length : Int) ≤ 6)
structure ESz (c : S73) : Prop where
 s0 : c.f0.size ≤ 4194304
 s1 : c.f1.length ≤ 4194304
structure ESzS (l : List S73) : Prop where
 len : l.length ≤ 4194304
 one : ∀ c ∈ l, ESz c
theorem rdExpect_nat (l : List S73) (i : Nat) (h : i < l.length) : rd_T73 l (i : Int) = l[i] := by
 unfold rd_T73
 exact getD_nat _ _ _ h
theorem len_nil (l : List Int) : (l.length : Int) = 0 ↔ l = [] := by
 cases l <;> simp
 omega
theorem validExpect_ev (b : S73) (h : ESz b) : Ev (fun k => spec_validExpect.f k b.f0 b.f1 b.f2 b.f3 b.f4) (expectS b) := by
 have hc := validCallsS_ev [⟨b.f0, b.f1⟩] ⟨by simp, fun c hc => by rw [List.mem_singleton.1 hc]; exact ⟨h.s0, h.s1⟩⟩
 have hcv : callsS [⟨b.f0, b.f1⟩] = callV b.f0 b.f1 := by simp [callsS, callS]
 rw [hcv] at hc
 have hne := len_nil b.f1
 unfold spec_validExpect.f expectS
 refine Ev.bind hc ?_
 have hrest : Ev (fun _ => (spec_inRange.f b.f3 0 12).bind fun t191 => if t191 = true then (spec_inRange.f b.f4 b.f3 12).bind fun t192 => some t192 else some false) (decide (0 ≤ b.f3) && (decide (b.f3 ≤ b.f4) && decide (b.f4 ≤ 12))) := by
  refine Ev.bind0 (inRange_ev _ _ _) ?_
  by_cases c1 : 0 ≤ b.f3 ∧ b.f3 ≤ 12
  ·refine Ev.iteT (by simpa using c1) (Ev.bind0 (inRange_ev _ _ _) (Ev.bool ?_))
   simp [c1]
  ·refine Ev.iteF (by simpa using c1) (Ev.bool ?_)
   by_cases c2 : 0 ≤ b.f3
   ·by_cases c3 : b.f3 ≤ b.f4
    ·rw [show decide (b.f4 ≤ 12) = false from decide_eq_false (by omega)]
     simp
    ·rw [show decide (b.f3 ≤ b.f4) = false from decide_eq_false (by omega)]
     simp
   ·rw [show decide (0 ≤ b.f3) = false from decide_eq_false (by omega)]
    rfl
 cases c : callV b.f0 b.f1 with
 | false => exact Ev.iteF (by simp) (Ev.bool (by simp))
 | true =>
  refine Ev.iteT rfl ?_
  cases c2 : b.f2 with
  | false => exact Ev.iteF (by simp) (by simpa using hrest)
  | true =>
   refine Ev.iteT rfl ?_
   by_cases c3 : b.f1 = []
   ·exact Ev.iteT (by rw [c3]; simp) (by simpa [c3, Bool.and_assoc] using hrest)
   ·exact Ev.iteF (fun h => c3 (hne.1 h)) (Ev.bool (by simp [c3]))
theorem validExpects_loop (l : List S73) (hl : ESzS l) : ∀ (t : List S73) (i : Nat), l.drop i = t → i ≤ l.length → Ev (fun k => spec_validExpects.l0 k l (i : Int)) (t.all expectS && decide ((l.length : Int) ≤ 6)) := by
 have hlen := hl.len
 intro t
 induction t with
 | nil =>
  intro i h hi
  have hl2 := drop_nil h
  exact Ev.step (fun k => rfl) (Ev.iteF (by omega) (Ev.some_ (by simp)))
 | cons b t ih =>
  intro i h hi
  obtain ⟨hl2, hb, ht⟩ := drop_cons h
  have hs : ESz b := hl.one b (hb ▸ List.getElem_mem hl2)
  refine Ev.step (fun k => rfl) (Ev.iteT (by omega) (Ev.iteT (by omega) ?_))
  rw [rdExpect_nat _ _ hl2, hb]
  refine Ev.bind (validExpect_ev b hs) ?_
  rw [List.all_cons]
  cases c : expectS b with
  | false => exact Ev.iteF (by simp) (Ev.bool (by simp))
  | true =>
   refine Ev.iteT rfl ?_
   rw [wrapN (by omega)]
   exact ih (i + 1) ht (by omega)
theorem validExpects_ev (l : List S73) (hl : ESzS l) : Ev (fun k => spec_validExpects.f k l) (expectsS l) :=
 validExpects_loop l hl l 0 rfl (Nat.zero_le _)
theorem equal_loop (a b : List Int) (hl : a.length = b.length) (hz : a.length ≤ 4611686018427387903) : ∀ (d i : Nat), i + d = a.length → a.take i = b.take i → Ev (fun k => slices_Equal_int_int.l0 k a b (a.length : Int) (i : Int)) (decide (a = b)) := by
 intro d
 induction d with
 | zero =>
  intro i hd he
  rw [List.take_of_length_le (by omega), List.take_of_length_le (by omega)] at he
  exact Ev.step (fun k => rfl) (Ev.iteF (by omega) (Ev.some_ (by simp [he])))
 | succ d ih =>
  intro i hd he
  have hi : i < a.length := by omega
  have hi2 : i < b.length := by omega
  refine Ev.step (fun k => rfl) (Ev.iteT (by omega) (Ev.iteT (by omega) (Ev.iteT (by omega) (Ev.iteT (by omega) ?_))))
  rw [rd_nat _ _ hi, rd_nat _ _ hi2]
  by_cases c : a[i] = b[i]
  ·refine Ev.iteT c ?_
   rw [wrapN (by omega)]
   exact ih (i + 1) (by omega) (by rw [List.take_succ_eq_append_getElem hi, List.take_succ_eq_append_getElem hi2, he, c])
  ·exact Ev.iteF c (Ev.some_ (by rw [eq_comm, decide_eq_false_iff_not]; intro e; subst e; exact c rfl))
theorem equal_ev (a b : List Int) (hz : a.length ≤ 4611686018427387903) : Ev (fun k => slices_Equal_int_int.f k a b) (decide (a = b)) := by
 unfold slices_Equal_int_int.f
 by_cases c : a.length = b.length
 ·exact Ev.iteT (by omega) (equal_loop a b c hz a.length 0 (by omega) (by simp))
 ·exact Ev.iteF (by omega) (Ev.some_ (by rw [eq_comm, decide_eq_false_iff_not]; intro e; exact c (by rw [e])))
theorem same_loop (s1 s2 : ByteArray) (a b : List Int) (hl : a.length = b.length) (hz : a.length ≤ 4611686018427387903) : ∀ (d i : Nat), i + d = a.length → a.take i = b.take i → Ev (fun k => spec_sameCall.l0 k (i : Int) s1 a s2 b) (decide (a = b)) := by
 intro d
 induction d with
 | zero =>
  intro i hd he
  rw [List.take_of_length_le (by omega), List.take_of_length_le (by omega)] at he
  exact Ev.step (fun k => rfl) (Ev.iteF (by omega) (Ev.some_ (by simp [he])))
 | succ d ih =>
  intro i hd he
  have hi : i < a.length := by omega
  have hi2 : i < b.length := by omega
  refine Ev.step (fun k => rfl) (Ev.iteT (by omega) (Ev.iteT (by omega) (Ev.iteT (by omega) ?_)))
  rw [rd_nat _ _ hi, rd_nat _ _ hi2]
  by_cases c : a[i] = b[i]
  ·refine Ev.iteT c ?_
   rw [wrapN (by omega)]
   exact ih (i + 1) (by omega) (by rw [List.take_succ_eq_append_getElem hi, List.take_succ_eq_append_getElem hi2, he, c])
  ·exact Ev.iteF c (Ev.some_ (by rw [eq_comm, decide_eq_false_iff_not]; intro e; subst e; exact c rfl))
theorem same_ev (s1 s2 : ByteArray) (a b : List Int) (hz : a.length ≤ 4611686018427387903) : Ev (fun k => spec_sameCall.f k s1 a s2 b) (decide (s1 = s2) && decide (a = b)) := by
 unfold spec_sameCall.f
 by_cases c0 : s1 = s2
 ·refine Ev.iteT (by rw [c0]) ?_
  by_cases c : a.length = b.length
  ·refine Ev.step (fun k => by rw [spec_sameCall.j0]) ?_
   exact Ev.iteF (by simp [c]) (by simpa [c0] using same_loop s1 s2 a b c hz a.length 0 (by omega) (by simp))
  ·refine Ev.step (fun k => by rw [spec_sameCall.j0]) ?_
   exact Ev.iteT (by simp; omega) (Ev.some_ (by rw [show decide (a = b) = false from decide_eq_false (fun e => c (by rw [e]))]; simp))
 ·refine Ev.iteF (by rw [toList_iff]; exact c0) ?_
  refine Ev.step (fun k => by rw [spec_sameCall.j0]) ?_
  exact Ev.iteT rfl (Ev.some_ (by simp [c0]))
def eqC (c x : S33) : Bool := decide (x.f0 = c.f0) && decide (x.f1 = c.f1)
theorem eqC_iff {c x : S33} : eqC c x = true ↔ x = c := by
 unfold eqC
 simp only [Bool.and_eq_true, decide_eq_true_eq]
 constructor
 ·rintro ⟨h1, h2⟩
  cases x
  cases c
  simp only at h1 h2
  rw [h1, h2]
 ·rintro rfl
  exact ⟨rfl, rfl⟩
def cntC (l : List S33) (c : S33) : Nat := l.countP (eqC c)
theorem cntC_le (l : List S33) (c : S33) : cntC l c ≤ l.length := List.countP_le_length
theorem cntC_zero {l : List S33} {c : S33} : cntC l c = 0 ↔ c ∉ l := by
 unfold cntC
 rw [List.countP_eq_zero]
 constructor
 ·intro h hc
  exact h c hc (eqC_iff.2 rfl)
 ·intro h x hx he
  rw [eqC_iff.1 he] at hx
  exact h hx
theorem implSame_ev (x c : S33) (h : CSz x) : Ev (fun k => impl_sameCall.f k x.f0 x.f1 c.f0 c.f1) (eqC c x) := by
 have h1 := h.s1
 unfold impl_sameCall.f eqC
 by_cases e : x.f0 = c.f0
 ·exact Ev.iteT (by rw [e]) (Ev.bind (equal_ev x.f1 c.f1 (by omega)) (Ev.some_ (by simp [e])))
 ·exact Ev.iteF (by rw [toList_iff]; exact e) (Ev.some_ (by simp [e]))
theorem implCount_loop (l : List S33) (hl : CSzS l) (c : S33) : ∀ (t : List S33) (i m : Nat), l.drop i = t → i ≤ l.length → m ≤ i → Ev (fun k => impl_countCall.l0 k (m : Int) l (l.length : Int) (i : Int) c.f0 c.f1) ((m + cntC t c : Nat) : Int) := by
 have hlen := hl.len
 intro t
 induction t with
 | nil =>
  intro i m h hi hm
  have hl2 := drop_nil h
  exact Ev.step (fun k => rfl) (Ev.iteF (by omega) (Ev.some_ (by simp [cntC])))
 | cons b t ih =>
  intro i m h hi hm
  obtain ⟨hl2, hb, ht⟩ := drop_cons h
  refine Ev.step (fun k => rfl) (Ev.iteT (by omega) (Ev.iteT (by omega) (Ev.iteT (by omega) ?_)))
  rw [rdCall_nat _ _ hl2, hb]
  refine Ev.bind (implSame_ev b c (hl.one b (hb ▸ List.getElem_mem hl2))) ?_
  rw [wrapN (i := i) (by omega), wrapN (i := m) (by omega)]
  cases e : eqC c b with
  | true =>
   rw [show m + cntC (b :: t) c = m + 1 + cntC t c by unfold cntC; rw [List.countP_cons_of_pos e]; omega]
   exact Ev.iteT rfl (ih (i + 1) (m + 1) ht (by omega) (by omega))
  | false =>
   rw [show m + cntC (b :: t) c = m + cntC t c by unfold cntC; rw [List.countP_cons_of_neg (by simp [e])]]
   exact Ev.iteF (by simp) (ih (i + 1) m ht (by omega) (by omega))
theorem implCount_ev (l : List S33) (hl : CSzS l) (c : S33) : Ev (fun k => impl_countCall.f k l c.f0 c.f1) ((cntC l c : Nat) : Int) := by
 have := implCount_loop l hl c l 0 0 rfl (Nat.zero_le _) (Nat.le_refl _)
 rw [Nat.zero_add] at this
 exact this
theorem specCount_loop (l : List S33) (hl : CSzS l) (c : S33) : ∀ (t : List S33) (i m : Nat), l.drop i = t → i ≤ l.length → m ≤ i → Ev (fun k => spec_countCall.l0 k l (m : Int) (i : Int) c.f0 c.f1) ((m + cntC t c : Nat) : Int) := by
 have hlen := hl.len
 intro t
 induction t with
 | nil =>
  intro i m h hi hm
  have hl2 := drop_nil h
  exact Ev.step (fun k => rfl) (Ev.iteF (by omega) (Ev.some_ (by simp [cntC])))
 | cons b t ih =>
  intro i m h hi hm
  obtain ⟨hl2, hb, ht⟩ := drop_cons h
  have hs := (hl.one b (hb ▸ List.getElem_mem hl2)).s1
  refine Ev.step (fun k => rfl) (Ev.iteT (by omega) (Ev.iteT (by omega) ?_))
  rw [rdCall_nat _ _ hl2, hb]
  refine Ev.bind (same_ev b.f0 c.f0 b.f1 c.f1 (by omega)) ?_
  rw [wrapN (i := i) (by omega), wrapN (i := m) (by omega), show (decide (b.f0 = c.f0) && decide (b.f1 = c.f1)) = eqC c b from rfl]
  cases e : eqC c b with
  | true =>
   rw [show m + cntC (b :: t) c = m + 1 + cntC t c by unfold cntC; rw [List.countP_cons_of_pos e]; omega]
   exact Ev.iteT rfl (ih (i + 1) (m + 1) ht (by omega) (by omega))
  | false =>
   rw [show m + cntC (b :: t) c = m + cntC t c by unfold cntC; rw [List.countP_cons_of_neg (by simp [e])]]
   exact Ev.iteF (by simp) (ih (i + 1) m ht (by omega) (by omega))
theorem specCount_ev (l : List S33) (hl : CSzS l) (c : S33) : Ev (fun k => spec_countCall.f k l c.f0 c.f1) ((cntC l c : Nat) : Int) := by
 have := specCount_loop l hl c l 0 0 rfl (Nat.zero_le _) (Nat.le_refl _)
 rw [Nat.zero_add] at this
 exact this
def expE (L : List S33) (c : S33) : S73 := ⟨c.f0, c.f1, false, (cntC L c : Nat), (cntC L c : Nat)⟩
/-- What is expected of the calls from place i on. -/
def expF (L : List S33) : List S33 → Nat → List S73
 | [], _ => []
 | c :: t, i => if cntC (L.take i) c = 0 then expE L c :: expF L t (i + 1) else expF L t (i + 1)
theorem expF_length (L : List S33) : ∀ (t : List S33) (i : Nat), (expF L t i).length ≤ t.length
 | [], _ => Nat.le_refl _
 | c :: t, i => by
  have := expF_length L t (i + 1)
  rw [expF]
  split <;> simp <;> omega
theorem expF_mem (L : List S33) : ∀ (t : List S33) (i : Nat) (e : S73), e ∈ expF L t i → ∃ c ∈ t, c ∉ L.take i ∧ e = expE L c
 | [], i, e, h => by simp [expF] at h
 | c :: t, i, e, h => by
  rw [expF] at h
  have ih := expF_mem L t (i + 1) e
  have up : (∃ d ∈ t, d ∉ L.take (i + 1) ∧ e = expE L d) → ∃ d ∈ c :: t, d ∉ L.take i ∧ e = expE L d := by
   rintro ⟨d, h1, h2, h3⟩
   exact ⟨d, by simp [h1], fun hq => h2 ((List.take_subset_take_left L (by omega)) hq), h3⟩
  split at h
  ·next hz =>
   rcases List.mem_cons.1 h with rfl | h
   ·exact ⟨c, by simp, cntC_zero.1 hz, rfl⟩
   ·exact up (ih h)
  ·exact up (ih h)
def expV (L : List S33) : List S73 × Bool := if callsS L = true then (if (expF L L 0).length ≤ 6 then (expF L L 0, true) else ([], false)) else ([], false)
theorem clone_eq (l : List Int) (h : l.length < 17592186044416) : slices_Clone_int_int.f l = some l := by
 unfold slices_Clone_int_int.f
 simp [h]
theorem implExp_loop (L : List S33) (hL : CSzS L) : ∀ (t : List S33) (i : Nat) (x4 : List S73), L.drop i = t → i ≤ L.length → x4.length ≤ i →
  Ev (fun k => impl_ExpectAll.l0 k L x4 L (L.length : Int) (i : Int)) (if (x4 ++ expF L t i).length ≤ 6 then (x4 ++ expF L t i, true) else ([], false)) := by
 have hlen := hL.len
 intro t
 induction t with
 | nil =>
  intro i x4 h hi hx
  have hl2 := drop_nil h
  refine Ev.step (fun k => rfl) (Ev.iteF (by omega) ?_)
  rw [expF, List.append_nil]
  by_cases c : x4.length ≤ 6
  ·exact Ev.iteF (by omega) (Ev.some_ (by rw [if_pos c]))
  ·exact Ev.iteT (by omega) (Ev.some_ (by rw [if_neg c]))
 | cons b t ih =>
  intro i x4 h hi hx
  obtain ⟨hl2, hb, ht⟩ := drop_cons h
  have hs := hL.one b (hb ▸ List.getElem_mem hl2)
  have hs1 := hs.s1
  have htk : CSzS (L.take i) := ⟨by rw [List.length_take]; omega, fun q hq => hL.one q (List.mem_of_mem_take hq)⟩
  refine Ev.step (fun k => rfl) (Ev.iteT (by omega) (Ev.iteT (by omega) (Ev.iteT (by omega) (Ev.iteT (by omega) ?_))))
  rw [rdCall_nat _ _ hl2, hb, Int.toNat_natCast]
  refine Ev.bind (implCount_ev _ htk b) ?_
  rw [wrapN (by omega), expF]
  by_cases c : cntC (L.take i) b = 0
  ·rw [if_pos c]
   have := ih (i + 1) (x4 ++ [expE L b]) ht (by omega) (by simp; omega)
   rw [List.append_assoc] at this
   exact Ev.iteT (by omega) (Ev.bind (implCount_ev L hL b) (Ev.bind0 (clone_eq b.f1 (by omega)) (Ev.iteT (by omega) this)))
  ·rw [if_neg c]
   exact Ev.iteF (by omega) (ih (i + 1) x4 ht (by omega) (by omega))
theorem implExp_ev (L : List S33) (hL : CSzS L) : Ev (fun k => impl_ExpectAll.f k L) (expV L) := by
 have hgo := implExp_loop L hL L 0 [] rfl (Nat.zero_le _) (Nat.le_refl _)
 rw [List.nil_append] at hgo
 unfold impl_ExpectAll.f expV
 refine Ev.bind (validCallsI_ev L hL) ?_
 by_cases c : callsS L = true
 ·rw [if_pos c]
  exact Ev.iteT c hgo
 ·rw [if_neg c]
  exact Ev.iteF c (Ev.some_ rfl)
theorem expE_valid (L : List S33) (h : callsS L = true) (c : S33) (hc : c ∈ L) : expectS (expE L c) = true := by
 unfold callsS at h
 simp only [Bool.and_eq_true, decide_eq_true_eq, List.all_eq_true] at h
 have h1 := h.1 c hc
 have h2 := cntC_le L c
 unfold callS at h1
 unfold expectS expE
 simp only [h1, Bool.true_and, Bool.not_false, Bool.true_or, Bool.and_eq_true, decide_eq_true_eq]
 omega
theorem expF_valid (L : List S33) (h : callsS L = true) : expectsS (expF L L 0) = decide ((expF L L 0).length ≤ 6) := by
 unfold expectsS
 have : (expF L L 0).all expectS = true := by
  rw [List.all_eq_true]
  intro e he
  obtain ⟨c, hc, _, rfl⟩ := expF_mem L L 0 e he
  exact expE_valid L h c hc
 rw [this, Bool.true_and]
 exact decide_eq_decide.2 (by omega)
theorem expF_sizes (L : List S33) (hL : CSzS L) (t : List S33) (i : Nat) (ht : ∀ c ∈ t, c ∈ L) (hl : t.length ≤ L.length) : ESzS (expF L t i) := by
 have hlen := hL.len
 have := expF_length L t i
 refine ⟨by omega, fun e he => ?_⟩
 obtain ⟨c, hc, _, rfl⟩ := expF_mem L t i e he
 have hs := hL.one c (ht c hc)
 exact ⟨hs.s0, hs.s1⟩
theorem specExp_loop (L : List S33) (hL : CSzS L) (hv : callsS L = true) : ∀ (t : List S33) (i : Nat) (x4 : List S73), L.drop i = t → i ≤ L.length → x4.length ≤ i → x4 ++ expF L t i = expF L L 0 →
  Ev (fun k => spec_ExpectAll.l0 k L x4 (i : Int)) (if (expF L L 0).length ≤ 6 then (expF L L 0, true) else ([], false)) := by
 have hlen := hL.len
 intro t
 induction t with
 | nil =>
  intro i x4 h hi hx he
  have hl2 := drop_nil h
  rw [expF, List.append_nil] at he
  subst he
  refine Ev.step (fun k => rfl) (Ev.iteF (by omega) (Ev.bind (validExpects_ev _ (expF_sizes L hL L 0 (fun _ h => h) (Nat.le_refl _))) ?_))
  rw [expF_valid L hv]
  by_cases c : (expF L L 0).length ≤ 6
  ·exact Ev.iteT (by simpa using c) (Ev.some_ (by rw [if_pos c]))
  ·exact Ev.iteF (by simpa using c) (Ev.some_ (by rw [if_neg c]))
 | cons b t ih =>
  intro i x4 h hi hx he
  obtain ⟨hl2, hb, ht⟩ := drop_cons h
  have hs := hL.one b (hb ▸ List.getElem_mem hl2)
  have hs1 := hs.s1
  have htk : CSzS (L.take i) := ⟨by rw [List.length_take]; omega, fun q hq => hL.one q (List.mem_of_mem_take hq)⟩
  refine Ev.step (fun k => rfl) (Ev.iteT (by omega) (Ev.iteT (by omega) (Ev.iteT (by omega) ?_)))
  rw [rdCall_nat _ _ hl2, hb, Int.toNat_natCast]
  refine Ev.bind (specCount_ev _ htk b) ?_
  rw [wrapN (by omega)]
  rw [expF] at he
  by_cases c : cntC (L.take i) b = 0
  ·rw [if_pos c] at he
   have := ih (i + 1) (x4 ++ [expE L b]) ht (by omega) (by simp; omega) (by rw [← he, List.append_assoc]; rfl)
   refine Ev.iteT (by omega) (Ev.bind (specCount_ev L hL b) (Ev.bind0 rfl (Ev.iteT (by simp; omega) (Ev.iteT (by omega) ?_))))
   rw [List.nil_append]
   exact this
  ·rw [if_neg c] at he
   exact Ev.iteF (by omega) (ih (i + 1) x4 ht (by omega) (by omega) he)
theorem specExp_ev (L : List S33) (hL : CSzS L) : Ev (fun k => spec_ExpectAll.f k L) (expV L) := by
 unfold spec_ExpectAll.f expV
 refine Ev.bind (validCallsS_ev L hL) ?_
 by_cases c : callsS L = true
 ·rw [if_pos c]
  exact Ev.iteT c (specExp_loop L hL c L 0 [] rfl (Nat.zero_le _) (Nat.le_refl _) (by rw [List.nil_append]))
 ·rw [if_neg c]
  exact Ev.iteF c (Ev.some_ rfl)
theorem markText_loop (n : Nat) : ∀ (x : ByteArray), n ≤ 4503599627370496 → x.size + n ≤ 4611686018427387903 → ∃ s, Ev (fun k => laws_markText.l0 k (n : Int) x) s := by
 induction n using Nat.strongRecOn with
 | _ n ih =>
  intro x hn hx
  by_cases h : (n : Int) > 0
  ·have ed : Int.tdiv (n : Int) 10 = ((n / 10 : Nat) : Int) := by
    rw [Int.tdiv_eq_ediv_of_nonneg (by omega)]
    omega
   have es : (strOfNums [(wrap64 (48 + (Int.tmod (n : Int) 10))) % 256]).size = 1 := rfl
   obtain ⟨s, hs⟩ := ih (n / 10) (by omega) (strOfNums [(wrap64 (48 + (Int.tmod (n : Int) 10))) % 256] ++ x) (by omega) (by rw [ByteArray.size_append, es]; omega)
   refine ⟨s, Ev.step (fun k => rfl) (Ev.iteT h (Ev.bind0 rfl (Ev.iteT (by rw [es]; omega) ?_)))⟩
   rw [ed, wrapI (by omega)]
   exact hs
  ·exact ⟨_, Ev.step (fun k => rfl) (Ev.iteF h (Ev.iteT (by omega) (Ev.some_ rfl)))⟩
theorem markText_ev (n : Int) (h0 : 0 ≤ n) (h1 : n ≤ 4503599627370496) : ∃ s, Ev (fun k => laws_markText.f k n) s := by
 unfold laws_markText.f
 by_cases h : n ≤ 0
 ·exact ⟨_, Ev.iteT h (Ev.some_ rfl)⟩
 ·obtain ⟨m, rfl⟩ := Int.eq_ofNat_of_zero_le h0
  obtain ⟨s, hs⟩ := markText_loop m ⟨#[]⟩ (by omega) (by show 0 + m ≤ _; omega)
  exact ⟨s, Ev.iteF h hs⟩
def HoldsInts (l : List Int) (a : Int) : Prop := ∀ (i : Nat) (h : i < l.length), l[i] = a + i
theorem heldIntS_loop (l : List Int) (a : Int) (ha : 0 ≤ a) (hb : a + l.length ≤ 4503599627370496) (hh : HoldsInts l a) : ∀ (d i : Nat), i + d = l.length →
  Ev (fun k => laws_heldIntS.l0 k l (a + i) (i : Int)) (a + l.length) := by
 intro d
 induction d with
 | zero =>
  intro i hd
  exact Ev.step (fun k => rfl) (Ev.iteF (by omega) (Ev.some_ (by rw [show i = l.length by omega])))
 | succ d ih =>
  intro i hd
  have hi : i < l.length := by omega
  refine Ev.step (fun k => rfl) (Ev.iteT (by omega) (Ev.iteT (by omega) (Ev.iteT (by rw [rd_nat _ _ hi]; exact hh i hi) ?_)))
  rw [wrapN (by omega), wrapI (x := a + i + 1) (by omega)]
  have := ih (i + 1) (by omega)
  rw [show a + ((i + 1 : Nat) : Int) = a + i + 1 by omega] at this
  exact this
theorem heldIntS_ev (l : List Int) (a : Int) (ha : 0 ≤ a) (hb : a + l.length ≤ 4503599627370496) (hh : HoldsInts l a) : Ev (fun k => laws_heldIntS.f k l a) (a + l.length) := by
 have := heldIntS_loop l a ha hb hh l.length 0 (by omega)
 simp only [Int.natCast_zero, Int.add_zero] at this
 exact this
theorem markIntS_loop (n : Nat) (a : Int) (ha : 0 ≤ a) (hb : a + n ≤ 4503599627370496) : ∀ (d i : Nat) (l : List Int), i + d = n → l.length = n → (∀ (j : Nat) (h : j < l.length), j < i → l[j] = a + j) →
  ∃ m, Ev (fun k => laws_markIntS.l0 k l (a + i) (i : Int)) (a + n, m) ∧ m.length = n ∧ HoldsInts m a := by
 intro d
 induction d with
 | zero =>
  intro i l hd hl hh
  exact ⟨l, Ev.step (fun k => rfl) (Ev.iteF (by omega) (Ev.some_ (by rw [show i = n by omega]))), hl, fun j hj => hh j hj (by omega)⟩
 | succ d ih =>
  intro i l hd hl hh
  have hi : i < l.length := by omega
  obtain ⟨m, hm, h1, h2⟩ := ih (i + 1) (l.set i (a + i)) (by omega) (by rw [List.length_set]; exact hl) (fun j hj hlt => by
   rw [List.getElem_set]
   by_cases e : i = j
   ·subst e
    rw [if_pos rfl]
   ·rw [if_neg e]
    exact hh j (by rw [List.length_set] at hj; exact hj) (by omega))
  refine ⟨m, Ev.step (fun k => rfl) (Ev.iteT (by omega) (Ev.iteT (by omega) ?_)), h1, h2⟩
  rw [wrapN (by omega), wrapI (x := a + i + 1) (by omega), Int.toNat_natCast]
  rw [show a + ((i + 1 : Nat) : Int) = a + i + 1 by omega] at hm
  exact hm
theorem markIntS_ev (l : List Int) (a : Int) (ha : 0 ≤ a) (hb : a + l.length ≤ 4503599627370496) : ∃ m, Ev (fun k => laws_markIntS.f k l a) (a + l.length, m) ∧ m.length = l.length ∧ HoldsInts m a := by
 obtain ⟨m, h1, h2, h3⟩ := markIntS_loop l.length a ha hb l.length 0 l (by omega) rfl (fun j hj h => absurd h (by omega))
 refine ⟨m, ?_, h2, h3⟩
 simp only [Int.natCast_zero, Int.add_zero] at h1
 exact h1
theorem rdIExpect_nat (l : List S73) (i : Nat) (h : i < l.length) : rd_T73 l (i : Int) = l[i] := by
 unfold rd_T73
 exact getD_nat _ _ _ h
structure SzExpect (q : S73) : Prop where
 yes : True
 r1 : q.f1.length ≤ 1048576
theorem eqExpect_ev (q : S73) (h : SzExpect q) : Ev (fun k => laws_eqExpect.f k q.f0 q.f1 q.f2 q.f3 q.f4 q.f0 q.f1 q.f2 q.f3 q.f4) true := by
 unfold laws_eqExpect.f
 exact Ev.iteT rfl (Ev.bind (eqIntS_ev q.f1 (by have := h.r1; omega)) (Ev.iteT rfl (Ev.iteF (by simp) (Ev.iteT rfl (Ev.iteT rfl (Ev.some_ rfl))))))
theorem eqExpectS_loop (l : List S73) (hl : l.length ≤ 4194304) (hz : ∀ q ∈ l, SzExpect q) : ∀ (d i : Nat), i + d = l.length → Ev (fun k => laws_eqExpectS.l0 k l l (i : Int)) true := by
 intro d
 induction d with
 | zero =>
  intro i hd
  exact Ev.step (fun k => rfl) (Ev.iteF (by omega) (Ev.some_ rfl))
 | succ d ih =>
  intro i hd
  have hi : i < l.length := by omega
  refine Ev.step (fun k => rfl) (Ev.iteT (by omega) (Ev.iteT (by omega) (Ev.iteT (by omega) ?_)))
  rw [rdIExpect_nat _ _ hi]
  refine Ev.bind (eqExpect_ev _ (hz _ (List.getElem_mem hi))) (Ev.iteT rfl ?_)
  rw [wrapN (by omega)]
  exact ih (i + 1) (by omega)
theorem eqExpectS_ev (l : List S73) (hl : l.length ≤ 4194304) (hz : ∀ q ∈ l, SzExpect q) : Ev (fun k => laws_eqExpectS.f k l l) true := by
 unfold laws_eqExpectS.f
 exact Ev.iteT rfl (eqExpectS_loop l hl hz l.length 0 (by omega))
/-- The marks from a on stand in the list, and b is the number behind them. -/
def HeldE : List S73 → Int → Int → Prop
 | [], a, b => b = a
 | x :: t, a, b => Ev (fun k => laws_markText.f k a) x.f0 ∧ HoldsInts x.f1 (a + 1) ∧ x.f1.length ≤ 1048576 ∧ x.f2 = decide (Int.tmod (a + 1 + x.f1.length) 3 = 0) ∧ x.f3 = a + 1 + x.f1.length + 1 ∧ x.f4 = a + 1 + x.f1.length + 2 ∧ HeldE t (a + 1 + x.f1.length + 3) b
theorem markExpectC_ev : ∀ (l : List S73) (a : Int), (∀ q ∈ l, q.f1.length ≤ 1048576) → 0 ≤ a → a + 1048580 * l.length ≤ 4503599627370496 →
  ∃ b m, Ev (fun k => laws_markExpectS.g k l a) (b, m) ∧ HeldE m a b ∧ m.length = l.length ∧ a ≤ b
 | [], a, _, _, _ => ⟨a, [], ⟨0, fun k _ => by unfold laws_markExpectS.g; rfl⟩, rfl, rfl, Int.le_refl _⟩
 | x :: t, a, hz, h0, h1 => by
  have hx := hz x (by simp)
  simp only [List.length_cons] at h1
  obtain ⟨s, hs⟩ := markText_ev a h0 (by omega)
  obtain ⟨p, hp, hp2, hp3⟩ := markIntS_ev x.f1 (a + 1) (by omega) (by omega)
  obtain ⟨b, m, hm, hm2, hm3, hm4⟩ := markExpectC_ev t (a + 1 + x.f1.length + 3) (fun q hq => hz q (by simp [hq])) (by omega) (by omega)
  refine ⟨b, (⟨s, p, decide (Int.tmod (a + 1 + x.f1.length) 3 = 0), a + 1 + x.f1.length + 1, a + 1 + x.f1.length + 2⟩ : S73) :: m, ?_, ?_, by simp [hm3], by omega⟩
  ·refine Ev.congr (f := fun k => (laws_markText.f k a).bind fun t0 => (laws_markIntS.f k x.f1 (wrap64 (a + 1))).bind fun p1 => (laws_markExpectS.g k t (wrap64 (wrap64 (wrap64 (p1.1 + 1) + 1) + 1))).bind fun q => some (q.1, (⟨t0, p1.2, decide (Int.tmod (p1.1) 3 = 0), wrap64 (p1.1 + 1), wrap64 (wrap64 (p1.1 + 1) + 1)⟩ : S73) :: q.2)) (fun k => by rw [laws_markExpectS.g]) ?_
   rw [wrapI (x := a + 1) (by omega)]
   refine Ev.bind hs (Ev.bind hp ?_)
   show Ev (fun k => (laws_markExpectS.g k t (wrap64 (wrap64 (wrap64 (a + 1 + x.f1.length + 1) + 1) + 1))).bind fun q => some (q.1, (⟨s, p, decide (Int.tmod (a + 1 + x.f1.length) 3 = 0), wrap64 (a + 1 + x.f1.length + 1), wrap64 (wrap64 (a + 1 + x.f1.length + 1) + 1)⟩ : S73) :: q.2)) _
   rw [wrapI (x := a + 1 + x.f1.length + 1) (by omega), wrapI (x := a + 1 + x.f1.length + 1 + 1) (by omega), wrapI (x := a + 1 + x.f1.length + 1 + 1 + 1) (by omega), show a + 1 + (x.f1.length : Int) + 1 + 1 + 1 = a + 1 + x.f1.length + 3 by omega, show a + 1 + (x.f1.length : Int) + 1 + 1 = a + 1 + x.f1.length + 2 by omega]
   exact Ev.bind hm (Ev.some_ rfl)
  ·unfold HeldE
   rw [show (⟨s, p, decide (Int.tmod (a + 1 + x.f1.length) 3 = 0), a + 1 + x.f1.length + 1, a + 1 + x.f1.length + 2⟩ : S73).f1 = p from rfl, hp2]
   exact ⟨hs, hp3, hx, rfl, rfl, rfl, hm2⟩
theorem heldExpectC_loop (L : List S73) (hL : L.length ≤ 1048576) : ∀ (t : List S73) (i : Nat) (a b : Int), L.drop i = t → i ≤ L.length → 0 ≤ a → a + 1048580 * t.length ≤ 4503599627370496 → HeldE t a b →
  Ev (fun k => laws_heldExpectS.l0 k L a (i : Int)) b := by
 intro t
 induction t with
 | nil =>
  intro i a b h hi h0 h1 hh
  have hl2 := drop_nil h
  obtain rfl : b = a := hh
  exact Ev.step (fun k => rfl) (Ev.iteF (by omega) (Ev.some_ rfl))
 | cons x t ih =>
  intro i a b h hi h0 h1 hh
  obtain ⟨hl2, hb, ht⟩ := drop_cons h
  obtain ⟨g0, g1, g5, g2, g3, g4, g6⟩ := hh
  simp only [List.length_cons] at h1
  have hnext := ih (i + 1) _ b ht (by omega) (by omega) (by omega) g6
  have hi := heldIntS_ev x.f1 (a + 1) (by omega) (by omega) g1
  refine Ev.step (fun k => rfl) (Ev.iteT (by omega) (Ev.iteT (by omega) ?_))
  rw [rdIExpect_nat _ _ hl2, hb, wrapI (x := a + 1) (by omega), wrapN (by omega)]
  refine Ev.bind g0 (Ev.iteT rfl (Ev.bind hi (Ev.iteF (by omega) (Ev.iteF ?_ ?_))))
  ·rw [g2]
   by_cases c : Int.tmod (a + 1 + x.f1.length) 3 = 0 <;> simp [c]
  ·rw [wrapI (x := a + 1 + x.f1.length + 1) (by omega), wrapI (x := a + 1 + x.f1.length + 1 + 1) (by omega), wrapI (x := a + 1 + x.f1.length + 1 + 1 + 1) (by omega), show a + 1 + (x.f1.length : Int) + 1 + 1 + 1 = a + 1 + x.f1.length + 3 by omega]
   exact Ev.iteT g3 (Ev.iteT (by omega) hnext)
theorem heldExpectC_ev (L : List S73) (hL : L.length ≤ 1048576) (a b : Int) (h0 : 0 ≤ a) (h1 : a + 1048580 * L.length ≤ 4503599627370496) (hh : HeldE L a b) : Ev (fun k => laws_heldExpectS.f k L a) b :=
 heldExpectC_loop L hL L 0 a b rfl (Nat.zero_le _) h0 h1 hh
theorem rdLCall_nat (l : List S90) (i : Nat) (h : i < l.length) : rd_T90 l (i : Int) = l[i] := by
 unfold rd_T90
 exact getD_nat _ _ _ h
theorem rdICall_nat (l : List S33) (i : Nat) (h : i < l.length) : rd_T33 l (i : Int) = l[i] := by
 unfold rd_T33
 exact getD_nat _ _ _ h
structure RawCall (q : S90) : Prop where
 r0 : q.f0.size ≤ maxLen
 r1 : q.f1.length ≤ maxLen
structure FewCall (q : S90) : Prop where
 r0 : q.f0.size ≤ 1048576
 r1 : q.f1.length ≤ 1048576
theorem szCall_ev (q : S90) (h : RawCall q) (left : Int) (h0 : 0 ≤ left) (h1 : left ≤ 1048576) :
  ∃ r, Ev (fun k => laws_szCall.f q.f0 q.f1 left) r ∧ r ≤ 1048576 ∧ (0 ≤ r → FewCall q) := by
 unfold laws_szCall.f
 have hm0 := h.r0
 unfold maxLen at hm0
 have ew0 : wrap64 (left - (q.f0.size : Int)) = (left - (q.f0.size : Int)) := wrapI (by omega)
 rw [ew0]
 by_cases c0 : (left - (q.f0.size : Int)) < 0
 ·exact ⟨-1, Ev.iteT c0 (Ev.some_ rfl), by omega, fun h => by omega⟩
 obtain ⟨r1, hr1, hb1, hf1⟩ := szIntS_eq q.f1 h.r1 (left - (q.f0.size : Int)) (by omega) (by omega)
 by_cases c1 : r1 < 0
 ·exact ⟨-1, Ev.iteF c0 (Ev.bind0 hr1 (Ev.iteT c1 (Ev.some_ rfl))), by omega, fun h => by omega⟩
 exact ⟨r1, Ev.iteF c0 (Ev.bind0 hr1 (Ev.iteF c1 (Ev.some_ rfl))), by omega, fun _ => ⟨by omega, hf1 (by omega)⟩⟩
structure FewCallS (l : List S90) : Prop where
 len : l.length ≤ 1048576
 one : ∀ q ∈ l, FewCall q
theorem szCallS_loop (l : List S90) (hl : l.length ≤ 1048576) (hz : ∀ q ∈ l, RawCall q) : ∀ (t : List S90) (i : Nat) (left : Int), l.drop i = t → i ≤ l.length → 0 ≤ left → left ≤ 1048576 →
  ∃ r, Ev (fun k => laws_szCallS.l0 k l left (i : Int)) r ∧ r ≤ 1048576 ∧ (0 ≤ r → ∀ q ∈ t, FewCall q) := by
 intro t
 induction t with
 | nil =>
  intro i left h hi h0 h1
  have hl2 := drop_nil h
  exact ⟨left, Ev.step (fun k => rfl) (Ev.iteF (by omega) (Ev.some_ rfl)), h1, fun _ q hq => by cases hq⟩
 | cons q t ih =>
  intro i left h hi h0 h1
  obtain ⟨hl2, hb, ht⟩ := drop_cons h
  have hq : RawCall q := hz q (hb ▸ List.getElem_mem hl2)
  obtain ⟨s, hs, hs2, hsf⟩ := szCall_ev q hq left h0 h1
  by_cases c : s < 0
  ·refine ⟨-1, Ev.step (fun k => rfl) (Ev.iteT (by omega) (Ev.iteT (by omega) ?_)), by omega, fun h => by omega⟩
   rw [rdLCall_nat _ _ hl2, hb]
   exact Ev.bind hs (Ev.iteT c (Ev.some_ rfl))
  ·obtain ⟨r, hr, h2, h3⟩ := ih (i + 1) s ht (by omega) (by omega) (by omega)
   refine ⟨r, Ev.step (fun k => rfl) (Ev.iteT (by omega) (Ev.iteT (by omega) ?_)), h2, fun h0 p hp => ?_⟩
   ·rw [rdLCall_nat _ _ hl2, hb]
    refine Ev.bind hs (Ev.iteF c ?_)
    rw [wrapN (by omega)]
    exact hr
   ·rcases List.mem_cons.1 hp with rfl | hp
    ·exact hsf (by omega)
    ·exact h3 h0 p hp
theorem szCallS_ev (l : List S90) (hl : l.length ≤ maxLen) (hz : ∀ q ∈ l, RawCall q) (left : Int) (h0 : 0 ≤ left) (h1 : left ≤ 1048576) :
  ∃ r, Ev (fun k => laws_szCallS.f k l left) r ∧ r ≤ 1048576 ∧ (0 ≤ r → FewCallS l) := by
 unfold maxLen at hl
 have ew : wrap64 (left - (l.length : Int)) = left - l.length := wrapI (by omega)
 unfold laws_szCallS.f
 rw [ew]
 by_cases c : left - l.length < 0
 ·exact ⟨-1, Ev.iteT c (Ev.some_ rfl), by omega, fun h => by omega⟩
 ·obtain ⟨r, hr, h2, h3⟩ := szCallS_loop l (by omega) hz l 0 (left - l.length) rfl (Nat.zero_le _) (by omega) (by omega)
  exact ⟨r, Ev.iteF c hr, h2, fun h => ⟨by omega, h3 h⟩⟩
def to_Call (q : S90) : S33 := ⟨q.f0, q.f1⟩
theorem toCall_ev (q : S90) (h : FewCall q) : Ev (fun k => laws_toCall.f k q.f0 q.f1) (q.f0, q.f1) := by
 unfold laws_toCall.f
 exact Ev.bind (toIntS_ev q.f1 h.r1) (Ev.some_ rfl)
theorem toCallS_loop (l : List S90) (hl : FewCallS l) : ∀ (d i : Nat), i + d = l.length →
  Ev (fun k => laws_toCallS.l0 k l (half to_Call z33 l i) (i : Int)) (l.map to_Call) := by
 have hlen := hl.len
 intro d
 induction d with
 | zero =>
  intro i hd
  obtain rfl : i = l.length := by omega
  exact Ev.step (fun k => rfl) (Ev.iteF (by omega) (Ev.some_ (half_full _ _ _)))
 | succ d ih =>
  intro i hd
  have hi : i < l.length := by omega
  refine Ev.step (fun k => rfl) (Ev.iteT (by omega) (Ev.iteT (by omega) ?_))
  rw [rdLCall_nat _ _ hi]
  refine Ev.bind (toCall_ev l[i] (hl.one _ (List.getElem_mem hi))) (Ev.iteT (by rw [half_length _ _ _ _ (by omega)]; omega) ?_)
  rw [wrapN (by omega), Int.toNat_natCast]
  have := ih (i + 1) (by omega)
  rw [← half_set to_Call _ l i hi] at this
  exact this
theorem toCallS_ev (l : List S90) (hl : FewCallS l) : Ev (fun k => laws_toCallS.f k l) (l.map to_Call) := by
 have hlen := hl.len
 unfold laws_toCallS.f
 rw [Int.toNat_natCast]
 have := toCallS_loop l hl l.length 0 (by omega)
 rw [half_zero] at this
 exact Ev.iteT (by omega) (Ev.iteT (by omega) this)
structure SzCall (q : S33) : Prop where
 yes : True
 r1 : q.f1.length ≤ 1048576
theorem eqCall_ev (q : S33) (h : SzCall q) : Ev (fun k => laws_eqCall.f k q.f0 q.f1 q.f0 q.f1) true := by
 unfold laws_eqCall.f
 exact Ev.iteT rfl (Ev.bind (eqIntS_ev q.f1 (by have := h.r1; omega)) (Ev.iteT rfl (Ev.some_ rfl)))
theorem eqCallS_loop (l : List S33) (hl : l.length ≤ 4194304) (hz : ∀ q ∈ l, SzCall q) : ∀ (d i : Nat), i + d = l.length → Ev (fun k => laws_eqCallS.l0 k l l (i : Int)) true := by
 intro d
 induction d with
 | zero =>
  intro i hd
  exact Ev.step (fun k => rfl) (Ev.iteF (by omega) (Ev.some_ rfl))
 | succ d ih =>
  intro i hd
  have hi : i < l.length := by omega
  refine Ev.step (fun k => rfl) (Ev.iteT (by omega) (Ev.iteT (by omega) (Ev.iteT (by omega) ?_)))
  rw [rdICall_nat _ _ hi]
  refine Ev.bind (eqCall_ev _ (hz _ (List.getElem_mem hi))) (Ev.iteT rfl ?_)
  rw [wrapN (by omega)]
  exact ih (i + 1) (by omega)
theorem eqCallS_ev (l : List S33) (hl : l.length ≤ 4194304) (hz : ∀ q ∈ l, SzCall q) : Ev (fun k => laws_eqCallS.f k l l) true := by
 unfold laws_eqCallS.f
 exact Ev.iteT rfl (eqCallS_loop l hl hz l.length 0 (by omega))
theorem FewCallS.small {l : List S90} (h : FewCallS l) : (l.map to_Call).length ≤ 1048576 ∧ ∀ q ∈ l.map to_Call, SzCall q := by
 refine ⟨by rw [List.length_map]; exact h.len, fun q hq => ?_⟩
 obtain ⟨p, hp, rfl⟩ := List.mem_map.1 hq
 have := h.one p hp
 exact ⟨trivial, this.r1⟩
theorem markIntN_ev : ∀ (n : Nat) (a : Int), 0 ≤ a → a + n ≤ 4503599627370496 → Ev (fun k => laws_markIntS.n k n a) (a + n)
 | 0, a, _, _ => ⟨0, fun k _ => by unfold laws_markIntS.n; simp⟩
 | n + 1, a, h0, h1 => by
  have := markIntN_ev n (a + 1) (by omega) (by omega)
  rw [show a + 1 + (n : Int) = a + ((n + 1 : Nat) : Int) by omega] at this
  refine Ev.congr (f := fun k => laws_markIntS.n k n (wrap64 (a + 1))) (fun k => by rw [laws_markIntS.n]) ?_
  rw [wrapI (by omega)]
  exact this
theorem markCallN_ev : ∀ (l : List S33) (a : Int), (∀ q ∈ l, SzCall q) → 0 ≤ a → a + 1048577 * l.length ≤ 4503599627370496 → ∃ r, Ev (fun k => laws_markCallS.n k l a) r ∧ a ≤ r ∧ r ≤ a + 1048577 * l.length
 | [], a, _, _, _ => ⟨a, ⟨0, fun k _ => by unfold laws_markCallS.n; rfl⟩, Int.le_refl _, by simp⟩
 | x :: t, a, hz, h0, h1 => by
  have hx := hz x (by simp)
  have h2 := hx.r1
  simp only [List.length_cons] at h1
  obtain ⟨s, hs⟩ := markText_ev a h0 (by omega)
  have m2 := markIntN_ev x.f1.length (a + 1) (by omega) (by omega)
  obtain ⟨r, hr, hle, hle2⟩ := markCallN_ev t (a + 1 + x.f1.length) (fun q hq => hz q (by simp [hq])) (by omega) (by omega)
  refine ⟨r, Ev.congr (f := fun k => (laws_markText.f k a).bind fun _ => (laws_markIntS.n k x.f1.length (wrap64 (a + 1))).bind fun b1 => laws_markCallS.n k t b1) (fun k => by rw [laws_markCallS.n]) ?_, by omega, by simp only [List.length_cons]; omega⟩
  rw [wrapI (x := a + 1) (by omega)]
  exact Ev.bind hs (Ev.bind m2 hr)
theorem markCallS_ev (l : List S33) (hl : l.length ≤ 1048576) (hz : ∀ q ∈ l, SzCall q) : ∃ r, Ev (fun k => laws_markCallS.f k l 1) r ∧ 1 ≤ r ∧ r ≤ 1099512676353 := by
 obtain ⟨r, hr, h1, h2⟩ := markCallN_ev l 1 hz (by omega) (by omega)
 exact ⟨r, hr, h1, by omega⟩
end Go.Proofs.Ytcbkpdgbijdbbaa.R
