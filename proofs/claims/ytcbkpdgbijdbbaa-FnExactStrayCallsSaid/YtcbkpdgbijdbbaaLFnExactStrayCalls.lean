/- Plain laws, without Go, that the law FnExactStrayCalls leans on. No condition. -/
import Derived.Test.YtcbkpdgbijdbbaaJx0
import Derived.Test.YtcbkpdgbijdbbaaJx1
import Derived.Test.YtcbkpdgbijdbbaaJx2
import Derived.Test.YtcbkpdgbijdbbaaJx3
import Derived.Test.YtcbkpdgbijdbbaaJx4
import Derived.Test.YtcbkpdgbijdbbaaJx5
import Derived.Test.YtcbkpdgbijdbbaaJx6
import Derived.Test.YtcbkpdgbijdbbaaJx7
import Derived.Test.YtcbkpdgbijdbbaaJx8
import Derived.Test.YtcbkpdgbijdbbaaJx9
import Derived.Test.YtcbkpdgbijdbbaaJx10
import Derived.Test.YtcbkpdgbijdbbaaJx11
import Derived.Test.YtcbkpdgbijdbbaaWMore
import Derived.IntWalk
import Derived.Lib.Bytealg
import Derived.Lib.Strings
set_option linter.unusedSimpArgs false
set_option linter.unusedVariables false
namespace Go.Proofs.Ytcbkpdgbijdbbaa.J
open Go.RowKit Go.Proofs.YtcbkpdgbijdbbaaW.PrintWords Go.Proofs.YtcbkpdgbijdbbaaW.PrintLast Go.Proofs.YtcbkpdgbijdbbaaW.PrintMore
theorem Ev.iteT {α : Type} {c : Prop} [Decidable c] {g f : Nat → Option α} {r : α} (h : c) (k : Ev g r) : Ev (fun n => if c then g n else f n) r := by
  simpa only [if_pos h] using k
theorem Ev.iteF {α : Type} {c : Prop} [Decidable c] {g f : Nat → Option α} {r : α} (h : ¬ c) (k : Ev f r) : Ev (fun n => if c then g n else f n) r := by
  simpa only [if_neg h] using k
/-- A callee without rounds. -/
theorem Ev.bind0 {α β : Type} {g : Option α} {f : Nat → α → Option β} {a : α} {r : β} (h : g = some a) (k : Ev (fun n => f n a) r) : Ev (fun n => g.bind (f n)) r := by
  subst h
  simpa only [Option.bind_some] using k
theorem Ev.some_ {α : Type} {x r : α} (h : x = r) : Ev (fun _ => some x) r := ⟨0, fun _ _ => by rw [h]⟩
theorem Ev.bool {b r : Bool} (h : b = r) : Ev (fun _ => some b) r := Ev.some_ h
theorem wrapN {i : Nat} (h : i < 4611686018427387904) : wrap64 ((i : Int) + 1) = ((i + 1 : Nat) : Int) := by
  unfold wrap64
  omega
theorem wrapI {x : Int} (h : -9223372036854775808 ≤ x ∧ x ≤ 9223372036854775807) : wrap64 x = x := by
  unfold wrap64
  omega
theorem rd_nat (l : List Int) (i : Nat) (h : i < l.length) : rd l (i : Int) = l[i] := by
  simp [rd, List.getD_eq_getElem?_getD, List.getElem?_eq_getElem h]
theorem getD_nat {α : Type} (d : α) (l : List α) (i : Nat) (h : i < l.length) : l.getD (i : Int).toNat d = l[i] := by
  simp [List.getD_eq_getElem?_getD, List.getElem?_eq_getElem h]
theorem size_list (s : ByteArray) : s.data.toList.length = s.size := by rw [Array.length_toList]; rfl
theorem bt_nat (s : ByteArray) (i : Nat) (h : i < s.data.toList.length) : bt s (i : Int) = ((s.data.toList[i]).toNat : Int) := by
  have h' : i < s.size := by rw [← size_list]; exact h
  unfold bt
  rw [dif_pos (by simpa using h')]
  rfl
/-- A list seen from place i on. -/
theorem drop_cons {α : Type} {l : List α} {i : Nat} {b : α} {t : List α} (h : l.drop i = b :: t) : ∃ hi : i < l.length, l[i] = b ∧ l.drop (i + 1) = t := by
  have hi : i < l.length := by
    rcases Nat.lt_or_ge i l.length with h1 | h1
    · exact h1
    · rw [List.drop_of_length_le h1] at h
      cases h
  refine ⟨hi, ?_, ?_⟩
  · rw [List.drop_eq_getElem_cons hi] at h
    exact (List.cons.inj h).1
  · rw [List.drop_eq_getElem_cons hi] at h
    exact (List.cons.inj h).2
theorem drop_nil {α : Type} {l : List α} {i : Nat} (h : l.drop i = []) : l.length ≤ i := by
  have := congrArg List.length h
  rw [List.length_drop] at this
  simpa using Nat.sub_eq_zero_iff_le.1 this
theorem toList_inj {a b : ByteArray} (h : a.toList = b.toList) : a = b := by
  rw [Lib.toList_data, Lib.toList_data] at h
  cases a with
  | mk x => cases b with
    | mk y =>
      have : x = y := Array.ext' h
      rw [this]
theorem toList_iff {a b : ByteArray} : a.toList = b.toList ↔ a = b := ⟨toList_inj, fun h => by rw [h]⟩
def lowB (b : UInt8) : Bool := decide (97 ≤ (b.toNat : Int)) && decide ((b.toNat : Int) ≤ 122)
/-- What is asked of a name behind its letters. -/
def nameEnd (s : ByteArray) : Bool := decide (1 ≤ s.size) && (decide (s.size ≤ 6) && (s.toList != ([97, 110, 100] : List UInt8) && (s.toList != ([111, 114] : List UInt8) && s.toList != ([110, 111, 116] : List UInt8))))
def nameS (s : ByteArray) : Bool := s.data.toList.all lowB && nameEnd s
theorem nameOk_loop (s : ByteArray) (hs : s.size ≤ 4611686018427387903) : ∀ (t : List UInt8) (i : Nat), s.data.toList.drop i = t → i ≤ s.size →
    Ev (fun k => impl_nameOk.l0 k s (s.size : Int) (i : Int)) (t.all lowB && nameEnd s) := by
  intro t
  induction t with
  | nil =>
    intro i h hi
    have hl := drop_nil h
    rw [size_list] at hl
    refine Ev.step (fun k => rfl) (Ev.iteF (by omega) ?_)
    simp only [List.all_nil, Bool.true_and]
    unfold nameEnd
    by_cases h1 : 1 ≤ s.size
    · refine Ev.iteT (by omega) ?_
      by_cases h2 : s.size ≤ 6
      · refine Ev.iteT (by omega) ?_
        by_cases h3 : s.toList = ([97, 110, 100] : List UInt8)
        · exact Ev.iteT h3 (Ev.bool (by simp [h3]))
        · refine Ev.iteF h3 ?_
          by_cases h4 : s.toList = ([111, 114] : List UInt8)
          · exact Ev.iteT h4 (Ev.bool (by simp [h4]))
          · exact Ev.iteF h4 (Ev.bool (by simp [h1, h2, bne_iff_ne.2 h3, bne_iff_ne.2 h4]))
      · exact Ev.iteF (by omega) (Ev.bool (by simp [h2]))
    · exact Ev.iteF (by omega) (Ev.bool (by simp [h1]))
  | cons b t ih =>
    intro i h hi
    obtain ⟨hl, hb, ht⟩ := drop_cons h
    have hl' := hl
    rw [size_list] at hl'
    refine Ev.step (fun k => rfl) (Ev.iteT (by omega) (Ev.iteT (by omega) (Ev.iteT (by omega) ?_)))
    rw [bt_nat s i hl, hb]
    by_cases h1 : (b.toNat : Int) < 97
    · exact Ev.iteT h1 (Ev.bool (by simp [lowB]; omega))
    · refine Ev.iteF h1 ?_
      by_cases h2 : (b.toNat : Int) > 122
      · exact Ev.iteT h2 (Ev.bool (by simp [lowB]; omega))
      · refine Ev.iteF h2 ?_
        rw [wrapN (by omega)]
        have := ih (i + 1) ht (by omega)
        have e : lowB b = true := by simp [lowB]; omega
        simpa [List.all_cons, e] using this
theorem nameOk_ev (s : ByteArray) (hs : s.size ≤ 4611686018427387903) : Ev (fun k => impl_nameOk.f k s) (nameS s) :=
  nameOk_loop s hs _ 0 rfl (Nat.zero_le _)
theorem inRange_ev (a b c : Int) : spec_inRange.f a b c = some (decide (b ≤ a ∧ a ≤ c)) := by
  unfold spec_inRange.f
  by_cases h : b ≤ a
  · rw [if_pos h]
    simp [h]
  · rw [if_neg h]
    simp [h]
theorem validName_loop (s : ByteArray) (hs : s.size ≤ 4611686018427387903) : ∀ (t : List UInt8) (i : Nat), s.data.toList.drop i = t → i ≤ s.size →
    Ev (fun k => spec_validName.l0 k s (i : Int)) (t.all lowB && nameEnd s) := by
  intro t
  induction t with
  | nil =>
    intro i h hi
    have hl := drop_nil h
    rw [size_list] at hl
    refine Ev.step (fun k => rfl) (Ev.iteF (by omega) (Ev.bind0 (inRange_ev _ _ _) ?_))
    simp only [List.all_nil, Bool.true_and]
    unfold nameEnd
    by_cases h1 : 1 ≤ s.size
    · by_cases h2 : s.size ≤ 6
      · refine Ev.iteT (by simp; omega) ?_
        by_cases h3 : s.toList = ([97, 110, 100] : List UInt8)
        · exact Ev.iteT h3 (Ev.bool (by simp [h3]))
        · refine Ev.iteF h3 ?_
          by_cases h4 : s.toList = ([111, 114] : List UInt8)
          · exact Ev.iteT h4 (Ev.bool (by simp [h4]))
          · exact Ev.iteF h4 (Ev.bool (by simp [h1, h2, bne_iff_ne.2 h3, bne_iff_ne.2 h4]))
      · exact Ev.iteF (by simp; omega) (Ev.bool (by simp [h2]))
    · exact Ev.iteF (by simp; omega) (Ev.bool (by simp [h1]))
  | cons b t ih =>
    intro i h hi
    obtain ⟨hl, hb, ht⟩ := drop_cons h
    have hl' := hl
    rw [size_list] at hl'
    refine Ev.step (fun k => rfl) (Ev.iteT (by omega) (Ev.iteT (by omega) ?_))
    rw [bt_nat s i hl, hb]
    by_cases h1 : (b.toNat : Int) < 97
    · exact Ev.iteT h1 (Ev.bool (by simp [lowB]; omega))
    · refine Ev.iteF h1 ?_
      by_cases h2 : (b.toNat : Int) > 122
      · exact Ev.iteT h2 (Ev.bool (by simp [lowB]; omega))
      · refine Ev.iteF h2 ?_
        rw [wrapN (by omega)]
        have := ih (i + 1) ht (by omega)
        have e : lowB b = true := by simp [lowB]; omega
        simpa [List.all_cons, e] using this
theorem validName_ev (s : ByteArray) (hs : s.size ≤ 4611686018427387903) : Ev (fun k => spec_validName.f k s) (nameS s) :=
  validName_loop s hs _ 0 rfl (Nat.zero_le _)
/-- What a copy holds after i rounds. -/
def half {α β : Type} (f : α → β) (z : β) (l : List α) (i : Nat) : List β := (l.take i).map f ++ List.replicate (l.length - i) z
theorem half_zero {α β : Type} (f : α → β) (z : β) (l : List α) : half f z l 0 = List.replicate l.length z := by simp [half]
theorem half_full {α β : Type} (f : α → β) (z : β) (l : List α) : half f z l l.length = l.map f := by simp [half]
theorem half_length {α β : Type} (f : α → β) (z : β) (l : List α) (i : Nat) (h : i ≤ l.length) : (half f z l i).length = l.length := by
  simp [half]
  omega
theorem half_set {α β : Type} (f : α → β) (z : β) (l : List α) (i : Nat) (h : i < l.length) : (half f z l i).set i (f l[i]) = half f z l (i + 1) := by
  have e : l.length - i = (l.length - (i + 1)) + 1 := by omega
  have hl : ((l.take i).map f).length = i := by
    rw [List.length_map, List.length_take]
    omega
  unfold half
  rw [List.set_append_right _ _ (by omega), hl, Nat.sub_self, e, List.replicate_succ, List.set_cons_zero, List.take_succ_eq_append_getElem h, List.map_append, List.append_assoc]
  rfl
theorem szIntS_eq (l : List Int) (hl : l.length ≤ maxLen) (left : Int) (h0 : 0 ≤ left) (h1 : left ≤ 1048576) :
    ∃ r, laws_szIntS.f l left = some r ∧ r ≤ 1048576 ∧ (0 ≤ r → l.length ≤ 1048576) := by
  unfold maxLen at hl
  have ew : wrap64 (left - (l.length : Int)) = left - l.length := wrapI (by omega)
  unfold laws_szIntS.f
  rw [ew]
  by_cases c : left - l.length < 0
  · exact ⟨-1, if_pos c, by omega, fun h => by omega⟩
  · exact ⟨left - l.length, if_neg c, by omega, fun h => by omega⟩
theorem toIntS_loop (l : List Int) (hl : l.length ≤ 1048576) : ∀ (d i : Nat), i + d = l.length →
    Ev (fun k => laws_toIntS.l0 k l (half id (0 : Int) l i) (i : Int)) l := by
  intro d
  induction d with
  | zero =>
    intro i hd
    obtain rfl : i = l.length := by omega
    exact Ev.step (fun k => rfl) (Ev.iteF (by omega) (Ev.some_ (by rw [half_full]; simp)))
  | succ d ih =>
    intro i hd
    have hi : i < l.length := by omega
    refine Ev.step (fun k => rfl) (Ev.iteT (by omega) (Ev.iteT (by omega) ?_))
    rw [rd_nat _ _ hi]
    refine Ev.iteT (by rw [half_length _ _ _ _ (by omega)]; omega) ?_
    rw [wrapN (by omega), Int.toNat_natCast]
    have := ih (i + 1) (by omega)
    rw [← half_set id _ l i hi] at this
    exact this
theorem toIntS_ev (l : List Int) (hl : l.length ≤ 1048576) : Ev (fun k => laws_toIntS.f k l) l := by
  unfold laws_toIntS.f
  rw [Int.toNat_natCast]
  have := toIntS_loop l hl l.length 0 (by omega)
  rw [half_zero] at this
  exact Ev.iteT (by omega) (Ev.iteT (by omega) this)
theorem eqIntS_loop (l : List Int) (hl : l.length ≤ 4611686018427387903) : ∀ (d i : Nat), i + d = l.length → Ev (fun k => laws_eqIntS.l0 k l l (i : Int)) true := by
  intro d
  induction d with
  | zero =>
    intro i hd
    exact Ev.step (fun k => rfl) (Ev.iteF (by omega) (Ev.some_ rfl))
  | succ d ih =>
    intro i hd
    refine Ev.step (fun k => rfl) (Ev.iteT (by omega) (Ev.iteT (by omega) (Ev.iteT (by omega) (Ev.iteT rfl ?_))))
    rw [wrapN (by omega)]
    exact ih (i + 1) (by omega)
theorem eqIntS_ev (l : List Int) (hl : l.length ≤ 4611686018427387903) : Ev (fun k => laws_eqIntS.f k l l) true := by
  unfold laws_eqIntS.f
  exact Ev.iteT rfl (eqIntS_loop l hl l.length 0 (by omega))
def numS (n : Int) : Bool := decide (-99 ≤ n) && decide (n ≤ 99)
def callV (s : ByteArray) (l : List Int) : Bool := nameS s && (decide ((l.length : Int) ≤ 3) && l.all numS)
def callS (c : S33) : Bool := callV c.f0 c.f1
def callsS (l : List S33) : Bool := l.all callS && decide ((l.length : Int) ≤ 12)
structure CSz (c : S33) : Prop where
  s0 : c.f0.size ≤ 4194304
  s1 : c.f1.length ≤ 4194304
structure CSzS (l : List S33) : Prop where
  len : l.length ≤ 4194304
  one : ∀ c ∈ l, CSz c
theorem rdCall_nat (l : List S33) (i : Nat) (h : i < l.length) : rd_T33 l (i : Int) = l[i] := by
  unfold rd_T33
  exact getD_nat _ _ _ h
theorem numbersOk_loop (l : List Int) (hl : l.length ≤ 4611686018427387903) : ∀ (t : List Int) (i : Nat), l.drop i = t → i ≤ l.length → Ev (fun k => impl_numbersOk.l0 k l (l.length : Int) (i : Int)) (t.all numS) := by
  intro t
  induction t with
  | nil =>
    intro i h hi
    have hl2 := drop_nil h
    exact Ev.step (fun k => rfl) (Ev.iteF (by omega) (Ev.some_ rfl))
  | cons b t ih =>
    intro i h hi
    obtain ⟨hl2, hb, ht⟩ := drop_cons h
    refine Ev.step (fun k => rfl) (Ev.iteT (by omega) (Ev.iteT (by omega) (Ev.iteT (by omega) ?_)))
    rw [rd_nat _ _ hl2, hb, List.all_cons]
    by_cases h1 : b < -99
    · exact Ev.iteT h1 (Ev.some_ (by rw [show numS b = false by simp [numS]; omega]; rfl))
    · by_cases h2 : b > 99
      · exact Ev.iteF h1 (Ev.iteT h2 (Ev.some_ (by rw [show numS b = false by simp [numS]; omega]; rfl)))
      · refine Ev.iteF h1 (Ev.iteF h2 ?_)
        rw [wrapN (by omega), show numS b = true by simp [numS]; omega, Bool.true_and]
        exact ih (i + 1) ht (by omega)
theorem callOk_ev (s : ByteArray) (l : List Int) (hs : s.size ≤ 4611686018427387903) (hl : l.length ≤ 4611686018427387903) : Ev (fun k => impl_callOk.f k s l) (callV s l) := by
  unfold impl_callOk.f callV
  refine Ev.bind (nameOk_ev s hs) ?_
  cases c0 : nameS s with
  | false => exact Ev.iteF (by simp) (Ev.bool (by simp))
  | true =>
    refine Ev.iteT rfl ?_
    by_cases c1 : (l.length : Int) ≤ 3
    · exact Ev.iteT c1 (Ev.bind (numbersOk_loop l hl l 0 rfl (Nat.zero_le _)) (Ev.bool (by simp [c1])))
    · exact Ev.iteF c1 (Ev.bool (by simp [c1]))
theorem validCallsI_loop (l : List S33) (hl : CSzS l) : ∀ (t : List S33) (i : Nat), l.drop i = t → i ≤ l.length → Ev (fun k => impl_ValidCalls.l0 k l l (l.length : Int) (i : Int)) (t.all callS && decide ((l.length : Int) ≤ 12)) := by
  have hlen := hl.len
  intro t
  induction t with
  | nil =>
    intro i h hi
    have hl2 := drop_nil h
    exact Ev.step (fun k => rfl) (Ev.iteF (by omega) (Ev.some_ (by simp)))
  | cons b t ih =>
    intro i h hi
    obtain ⟨hl2, hb, ht⟩ := drop_cons h
    have hs : CSz b := hl.one b (hb ▸ List.getElem_mem hl2)
    have h0 := hs.s0
    have h1 := hs.s1
    refine Ev.step (fun k => rfl) (Ev.iteT (by omega) (Ev.iteT (by omega) (Ev.iteT (by omega) ?_)))
    rw [rdCall_nat _ _ hl2, hb]
    refine Ev.bind (callOk_ev b.f0 b.f1 (by omega) (by omega)) ?_
    rw [List.all_cons, show callS b = callV b.f0 b.f1 from rfl]
    cases c : callV b.f0 b.f1 with
    | false => exact Ev.iteF (by simp) (Ev.bool (by simp))
    | true =>
      refine Ev.iteT rfl ?_
      rw [wrapN (by omega)]
      exact ih (i + 1) ht (by omega)
theorem validCallsI_ev (l : List S33) (hl : CSzS l) : Ev (fun k => impl_ValidCalls.f k l) (callsS l) :=
  validCallsI_loop l hl l 0 rfl (Nat.zero_le _)
theorem specCalls_nums (l : List S33) (hl : CSzS l) (i : Nat) (hi : i < l.length) (r : Bool) (hc : Ev (fun k => spec_validCalls.l0 k l ((i + 1 : Nat) : Int)) r) : ∀ (t : List Int) (j : Nat), (l[i]).f1.drop j = t → j ≤ (l[i]).f1.length →
    Ev (fun k => spec_validCalls.l1 k l (i : Int) (j : Int)) (t.all numS && r) := by
  have hlen := hl.len
  have hs := (hl.one _ (List.getElem_mem hi)).s1
  intro t
  induction t with
  | nil =>
    intro j h hj
    have hl2 := drop_nil h
    refine Ev.step (fun k => rfl) (Ev.iteT (by omega) (Ev.iteT (by omega) ?_))
    rw [rdCall_nat _ _ hi, wrapN (i := i) (by omega)]
    exact Ev.iteF (by omega) (by simpa only [List.all_nil, Bool.true_and] using hc)
  | cons b t ih =>
    intro j h hj
    obtain ⟨hl2, hb, ht⟩ := drop_cons h
    refine Ev.step (fun k => rfl) (Ev.iteT (by omega) (Ev.iteT (by omega) ?_))
    rw [rdCall_nat _ _ hi, rd_nat _ _ hl2, hb, List.all_cons, wrapN (by omega)]
    refine Ev.iteT (by omega) (Ev.iteT (by omega) (Ev.bind0 (inRange_ev _ _ _) ?_))
    by_cases h1 : -99 ≤ b ∧ b ≤ 99
    · rw [show numS b = true by simp [numS]; omega, Bool.true_and]
      exact Ev.iteT (by simpa using h1) (ih (j + 1) ht (by omega))
    · rw [show numS b = false by simp [numS]; omega]
      exact Ev.iteF (by simpa using h1) (Ev.bool (by simp))
theorem validCallsS_loop (l : List S33) (hl : CSzS l) : ∀ (t : List S33) (i : Nat), l.drop i = t → i ≤ l.length → Ev (fun k => spec_validCalls.l0 k l (i : Int)) (t.all callS && decide ((l.length : Int) ≤ 12)) := by
  have hlen := hl.len
  intro t
  induction t with
  | nil =>
    intro i h hi
    have hl2 := drop_nil h
    exact Ev.step (fun k => rfl) (Ev.iteF (by omega) (Ev.some_ (by simp)))
  | cons b t ih =>
    intro i h hi
    obtain ⟨hl2, hb, ht⟩ := drop_cons h
    have hs : CSz b := hl.one b (hb ▸ List.getElem_mem hl2)
    have h0 := hs.s0
    have hnums := specCalls_nums l hl i hl2 _ (ih (i + 1) ht (by omega)) (l[i]).f1 0 rfl (Nat.zero_le _)
    rw [hb] at hnums
    refine Ev.step (fun k => rfl) (Ev.iteT (by omega) (Ev.iteT (by omega) ?_))
    rw [rdCall_nat _ _ hl2, hb]
    refine Ev.bind (validName_ev b.f0 (by omega)) ?_
    rw [List.all_cons, show callS b = (nameS b.f0 && (decide ((b.f1.length : Int) ≤ 3) && b.f1.all numS)) from rfl]
    cases c0 : nameS b.f0 with
    | false =>
      refine Ev.iteF (by simp) ?_
      refine Ev.step (fun k => by rw [spec_validCalls.j1]) ?_
      exact Ev.iteT rfl (Ev.bool (by simp))
    | true =>
      refine Ev.iteT rfl ?_
      by_cases c1 : (b.f1.length : Int) ≤ 3
      · refine Ev.step (fun k => by rw [spec_validCalls.j1]) ?_
        refine Ev.iteF (by simp; omega) ?_
        simpa [c1, Bool.and_assoc] using hnums
      · refine Ev.step (fun k => by rw [spec_validCalls.j1]) ?_
        exact Ev.iteT (by simp; omega) (Ev.bool (by simp [c1]))
theorem validCallsS_ev (l : List S33) (hl : CSzS l) : Ev (fun k => spec_validCalls.f k l) (callsS l) :=
  validCallsS_loop l hl l 0 rfl (Nat.zero_le _)
def expectS (e : S73) : Bool := callV e.f0 e.f1 && ((!e.f2 || decide (e.f1 = [])) && (decide (0 ≤ e.f3) && (decide (e.f3 ≤ e.f4) && decide (e.f4 ≤ 12))))
def expectsS (l : List S73) : Bool := l.all expectS && decide ((l.length : Int) ≤ 6)
structure ESz (c : S73) : Prop where
  s0 : c.f0.size ≤ 4194304
  s1 : c.f1.length ≤ 4194304
structure ESzS (l : List S73) : Prop where
  len : l.length ≤ 4194304
  one : ∀ c ∈ l, ESz c
theorem rdExpect_nat (l : List S73) (i : Nat) (h : i < l.length) : rd_T73 l (i : Int) = l[i] := by
  unfold rd_T73
  exact getD_nat _ _ _ h
theorem len_nil (l : List Int) : (l.length : Int) = 0 ↔ l = [] := by
  cases l <;> simp
  omega
theorem expectsOk_loop (l : List S73) (hl : ESzS l) : ∀ (t : List S73) (i : Nat), l.drop i = t → i ≤ l.length → Ev (fun k => impl_expectsOk.l0 k l l (l.length : Int) (i : Int)) (t.all expectS && decide ((l.length : Int) ≤ 6)) := by
  have hlen := hl.len
  intro t
  induction t with
  | nil =>
    intro i h hi
    have hl2 := drop_nil h
    exact Ev.step (fun k => rfl) (Ev.iteF (by omega) (Ev.some_ (by simp)))
  | cons b t ih =>
    intro i h hi
    obtain ⟨hl2, hb, ht⟩ := drop_cons h
    have hs : ESz b := hl.one b (hb ▸ List.getElem_mem hl2)
    have h0 := hs.s0
    have h1 := hs.s1
    have hnext := ih (i + 1) ht (by omega)
    have hne := len_nil b.f1
    refine Ev.step (fun k => rfl) (Ev.iteT (by omega) (Ev.iteT (by omega) (Ev.iteT (by omega) ?_)))
    rw [rdExpect_nat _ _ hl2, hb]
    refine Ev.bind (callOk_ev b.f0 b.f1 (by omega) (by omega)) ?_
    rw [List.all_cons, wrapN (by omega), show expectS b = (callV b.f0 b.f1 && ((!b.f2 || decide (b.f1 = [])) && (decide (0 ≤ b.f3) && (decide (b.f3 ≤ b.f4) && decide (b.f4 ≤ 12))))) from rfl]
    have hrest : Ev (fun k => if b.f3 < 0 then some false else if b.f3 > b.f4 then some false else if b.f4 > 12 then some false else impl_expectsOk.l0 k l l (l.length : Int) ((i + 1 : Nat) : Int)) ((decide (0 ≤ b.f3) && (decide (b.f3 ≤ b.f4) && decide (b.f4 ≤ 12))) && (t.all expectS && decide ((l.length : Int) ≤ 6))) := by
      by_cases c1 : b.f3 < 0
      · exact Ev.iteT c1 (Ev.bool (by rw [show decide (0 ≤ b.f3) = false from decide_eq_false (by omega)]; rfl))
      · by_cases c2 : b.f3 > b.f4
        · exact Ev.iteF c1 (Ev.iteT c2 (Ev.bool (by rw [show decide (b.f3 ≤ b.f4) = false from decide_eq_false (by omega)]; simp)))
        · by_cases c3 : b.f4 > 12
          · exact Ev.iteF c1 (Ev.iteF c2 (Ev.iteT c3 (Ev.bool (by rw [show decide (b.f4 ≤ 12) = false from decide_eq_false (by omega)]; simp))))
          · refine Ev.iteF c1 (Ev.iteF c2 (Ev.iteF c3 ?_))
            rw [show decide (0 ≤ b.f3) = true from decide_eq_true (by omega), show decide (b.f3 ≤ b.f4) = true from decide_eq_true (by omega), show decide (b.f4 ≤ 12) = true from decide_eq_true (by omega)]
            simpa using hnext
    cases c : callV b.f0 b.f1 with
    | false => exact Ev.iteF (by simp) (Ev.bool (by simp))
    | true =>
      refine Ev.iteT rfl ?_
      cases c2 : b.f2 with
      | false => exact Ev.iteF (by simp) (by simpa [Bool.and_assoc] using hrest)
      | true =>
        refine Ev.iteT rfl ?_
        by_cases c3 : b.f1 = []
        · exact Ev.iteF (by rw [c3]; simp) (by simpa [c3, Bool.and_assoc] using hrest)
        · exact Ev.iteT (by have h3 : ¬ (b.f1.length : Int) = 0 := fun h => c3 (hne.1 h); omega) (Ev.bool (by simp [c3]))
theorem expectsOk_ev (l : List S73) (hl : ESzS l) : Ev (fun k => impl_expectsOk.f k l) (expectsS l) :=
  expectsOk_loop l hl l 0 rfl (Nat.zero_le _)
theorem validExpect_ev (b : S73) (h : ESz b) : Ev (fun k => spec_validExpect.f k b.f0 b.f1 b.f2 b.f3 b.f4) (expectS b) := by
  have hc := validCallsS_ev [⟨b.f0, b.f1⟩] ⟨by simp, fun c hc => by rw [List.mem_singleton.1 hc]; exact ⟨h.s0, h.s1⟩⟩
  have hcv : callsS [⟨b.f0, b.f1⟩] = callV b.f0 b.f1 := by simp [callsS, callS]
  rw [hcv] at hc
  have hne := len_nil b.f1
  unfold spec_validExpect.f expectS
  refine Ev.bind hc ?_
  have hrest : Ev (fun _ => (spec_inRange.f b.f3 0 12).bind fun t191 => if t191 = true then (spec_inRange.f b.f4 b.f3 12).bind fun t192 => some t192 else some false) (decide (0 ≤ b.f3) && (decide (b.f3 ≤ b.f4) && decide (b.f4 ≤ 12))) := by
    refine Ev.bind0 (inRange_ev _ _ _) ?_
    by_cases c1 : 0 ≤ b.f3 ∧ b.f3 ≤ 12
    · refine Ev.iteT (by simpa using c1) (Ev.bind0 (inRange_ev _ _ _) (Ev.bool ?_))
      simp [c1]
    · refine Ev.iteF (by simpa using c1) (Ev.bool ?_)
      by_cases c2 : 0 ≤ b.f3
      · by_cases c3 : b.f3 ≤ b.f4
        · rw [show decide (b.f4 ≤ 12) = false from decide_eq_false (by omega)]
          simp
        · rw [show decide (b.f3 ≤ b.f4) = false from decide_eq_false (by omega)]
          simp
      · rw [show decide (0 ≤ b.f3) = false from decide_eq_false (by omega)]
        rfl
  cases c : callV b.f0 b.f1 with
  | false => exact Ev.iteF (by simp) (Ev.bool (by simp))
  | true =>
    refine Ev.iteT rfl ?_
    cases c2 : b.f2 with
    | false => exact Ev.iteF (by simp) (by simpa using hrest)
    | true =>
      refine Ev.iteT rfl ?_
      by_cases c3 : b.f1 = []
      · exact Ev.iteT (by rw [c3]; simp) (by simpa [c3, Bool.and_assoc] using hrest)
      · exact Ev.iteF (fun h => c3 (hne.1 h)) (Ev.bool (by simp [c3]))
theorem validExpects_loop (l : List S73) (hl : ESzS l) : ∀ (t : List S73) (i : Nat), l.drop i = t → i ≤ l.length → Ev (fun k => spec_validExpects.l0 k l (i : Int)) (t.all expectS && decide ((l.length : Int) ≤ 6)) := by
  have hlen := hl.len
  intro t
  induction t with
  | nil =>
    intro i h hi
    have hl2 := drop_nil h
    exact Ev.step (fun k => rfl) (Ev.iteF (by omega) (Ev.some_ (by simp)))
  | cons b t ih =>
    intro i h hi
    obtain ⟨hl2, hb, ht⟩ := drop_cons h
    have hs : ESz b := hl.one b (hb ▸ List.getElem_mem hl2)
    refine Ev.step (fun k => rfl) (Ev.iteT (by omega) (Ev.iteT (by omega) ?_))
    rw [rdExpect_nat _ _ hl2, hb]
    refine Ev.bind (validExpect_ev b hs) ?_
    rw [List.all_cons]
    cases c : expectS b with
    | false => exact Ev.iteF (by simp) (Ev.bool (by simp))
    | true =>
      refine Ev.iteT rfl ?_
      rw [wrapN (by omega)]
      exact ih (i + 1) ht (by omega)
theorem validExpects_ev (l : List S73) (hl : ESzS l) : Ev (fun k => spec_validExpects.f k l) (expectsS l) :=
  validExpects_loop l hl l 0 rfl (Nat.zero_le _)
theorem equal_loop (a b : List Int) (hl : a.length = b.length) (hz : a.length ≤ 4611686018427387903) : ∀ (d i : Nat), i + d = a.length → a.take i = b.take i → Ev (fun k => slices_Equal_int_int.l0 k a b (a.length : Int) (i : Int)) (decide (a = b)) := by
  intro d
  induction d with
  | zero =>
    intro i hd he
    rw [List.take_of_length_le (by omega), List.take_of_length_le (by omega)] at he
    exact Ev.step (fun k => rfl) (Ev.iteF (by omega) (Ev.some_ (by simp [he])))
  | succ d ih =>
    intro i hd he
    have hi : i < a.length := by omega
    have hi2 : i < b.length := by omega
    refine Ev.step (fun k => rfl) (Ev.iteT (by omega) (Ev.iteT (by omega) (Ev.iteT (by omega) (Ev.iteT (by omega) ?_))))
    rw [rd_nat _ _ hi, rd_nat _ _ hi2]
    by_cases c : a[i] = b[i]
    · refine Ev.iteT c ?_
      rw [wrapN (by omega)]
      exact ih (i + 1) (by omega) (by rw [List.take_succ_eq_append_getElem hi, List.take_succ_eq_append_getElem hi2, he, c])
    · exact Ev.iteF c (Ev.some_ (by rw [eq_comm, decide_eq_false_iff_not]; intro e; subst e; exact c rfl))
theorem equal_ev (a b : List Int) (hz : a.length ≤ 4611686018427387903) : Ev (fun k => slices_Equal_int_int.f k a b) (decide (a = b)) := by
  unfold slices_Equal_int_int.f
  by_cases c : a.length = b.length
  · exact Ev.iteT (by omega) (equal_loop a b c hz a.length 0 (by omega) (by simp))
  · exact Ev.iteF (by omega) (Ev.some_ (by rw [eq_comm, decide_eq_false_iff_not]; intro e; exact c (by rw [e])))
def meetsS (e : S73) (c : S33) : Bool := decide (e.f0 = c.f0) && (e.f2 || decide (e.f1 = c.f1))
theorem implMeets_ev (e : S73) (c : S33) (h : ESz e) : Ev (fun k => impl_Expect_meets.f k e.f0 e.f1 e.f2 e.f3 e.f4 c.f0 c.f1) (meetsS e c) := by
  have h1 := h.s1
  unfold impl_Expect_meets.f meetsS
  by_cases c0 : e.f0 = c.f0
  · refine Ev.iteT (by rw [c0]) ?_
    cases c1 : e.f2 with
    | true => exact Ev.iteT rfl (Ev.some_ (by simp [c0]))
    | false => exact Ev.iteF (by simp) (Ev.bind (equal_ev e.f1 c.f1 (by omega)) (Ev.some_ (by simp [c0])))
  · exact Ev.iteF (by rw [toList_iff]; exact c0) (Ev.some_ (by simp [c0]))
theorem same_loop (s1 s2 : ByteArray) (a b : List Int) (hl : a.length = b.length) (hz : a.length ≤ 4611686018427387903) : ∀ (d i : Nat), i + d = a.length → a.take i = b.take i → Ev (fun k => spec_sameCall.l0 k (i : Int) s1 a s2 b) (decide (a = b)) := by
  intro d
  induction d with
  | zero =>
    intro i hd he
    rw [List.take_of_length_le (by omega), List.take_of_length_le (by omega)] at he
    exact Ev.step (fun k => rfl) (Ev.iteF (by omega) (Ev.some_ (by simp [he])))
  | succ d ih =>
    intro i hd he
    have hi : i < a.length := by omega
    have hi2 : i < b.length := by omega
    refine Ev.step (fun k => rfl) (Ev.iteT (by omega) (Ev.iteT (by omega) (Ev.iteT (by omega) ?_)))
    rw [rd_nat _ _ hi, rd_nat _ _ hi2]
    by_cases c : a[i] = b[i]
    · refine Ev.iteT c ?_
      rw [wrapN (by omega)]
      exact ih (i + 1) (by omega) (by rw [List.take_succ_eq_append_getElem hi, List.take_succ_eq_append_getElem hi2, he, c])
    · exact Ev.iteF c (Ev.some_ (by rw [eq_comm, decide_eq_false_iff_not]; intro e; subst e; exact c rfl))
theorem same_ev (s1 s2 : ByteArray) (a b : List Int) (hz : a.length ≤ 4611686018427387903) : Ev (fun k => spec_sameCall.f k s1 a s2 b) (decide (s1 = s2) && decide (a = b)) := by
  unfold spec_sameCall.f
  by_cases c0 : s1 = s2
  · refine Ev.iteT (by rw [c0]) ?_
    by_cases c : a.length = b.length
    · refine Ev.step (fun k => by rw [spec_sameCall.j0]) ?_
      exact Ev.iteF (by simp [c]) (by simpa [c0] using same_loop s1 s2 a b c hz a.length 0 (by omega) (by simp))
    · refine Ev.step (fun k => by rw [spec_sameCall.j0]) ?_
      exact Ev.iteT (by simp; omega) (Ev.some_ (by rw [show decide (a = b) = false from decide_eq_false (fun e => c (by rw [e]))]; simp))
  · refine Ev.iteF (by rw [toList_iff]; exact c0) ?_
    refine Ev.step (fun k => by rw [spec_sameCall.j0]) ?_
    exact Ev.iteT rfl (Ev.some_ (by simp [c0]))
theorem specMeets_ev (e : S73) (c : S33) (h : CSz c) : Ev (fun k => spec_meets.f k c.f0 c.f1 e.f0 e.f1 e.f2 e.f3 e.f4) (meetsS e c) := by
  have h1 := h.s1
  unfold spec_meets.f meetsS
  cases c1 : e.f2 with
  | true =>
    refine Ev.iteT rfl ?_
    by_cases c0 : c.f0 = e.f0
    · exact Ev.iteT (by rw [c0]) (Ev.some_ (by simp [c0]))
    · exact Ev.iteF (by rw [toList_iff]; exact c0) (Ev.some_ (by rw [show decide (e.f0 = c.f0) = false from decide_eq_false (fun e => c0 e.symm)]; rfl))
  | false =>
    refine Ev.iteF (by simp) (Ev.bind (same_ev c.f0 e.f0 c.f1 e.f1 (by omega)) (Ev.some_ ?_))
    rw [Bool.false_or]
    congr 1 <;> exact decide_eq_decide.2 eq_comm
/-- The places from i on of what is unmet. -/
def placesF {α : Type} (p : α → Bool) : List α → Nat → List Int
  | [], _ => []
  | x :: t, i => if p x = true then (i : Int) :: placesF p t (i + 1) else placesF p t (i + 1)
theorem placesF_length {α : Type} (p : α → Bool) : ∀ (l : List α) (i : Nat), (placesF p l i).length ≤ l.length
  | [], _ => Nat.le_refl _
  | x :: t, i => by
    have := placesF_length p t (i + 1)
    unfold placesF
    split <;> simp <;> omega
theorem markText_loop (n : Nat) : ∀ (x : ByteArray), n ≤ 4503599627370496 → x.size + n ≤ 4611686018427387903 → ∃ s, Ev (fun k => laws_markText.l0 k (n : Int) x) s := by
  induction n using Nat.strongRecOn with
  | _ n ih =>
    intro x hn hx
    by_cases h : (n : Int) > 0
    · have ed : Int.tdiv (n : Int) 10 = ((n / 10 : Nat) : Int) := by
        rw [Int.tdiv_eq_ediv_of_nonneg (by omega)]
        omega
      have es : (strOfNums [(wrap64 (48 + (Int.tmod (n : Int) 10))) % 256]).size = 1 := rfl
      obtain ⟨s, hs⟩ := ih (n / 10) (by omega) (strOfNums [(wrap64 (48 + (Int.tmod (n : Int) 10))) % 256] ++ x) (by omega) (by rw [ByteArray.size_append, es]; omega)
      refine ⟨s, Ev.step (fun k => rfl) (Ev.iteT h (Ev.bind0 rfl (Ev.iteT (by rw [es]; omega) ?_)))⟩
      rw [ed, wrapI (by omega)]
      exact hs
    · exact ⟨_, Ev.step (fun k => rfl) (Ev.iteF h (Ev.iteT (by omega) (Ev.some_ rfl)))⟩
theorem markText_ev (n : Int) (h0 : 0 ≤ n) (h1 : n ≤ 4503599627370496) : ∃ s, Ev (fun k => laws_markText.f k n) s := by
  unfold laws_markText.f
  by_cases h : n ≤ 0
  · exact ⟨_, Ev.iteT h (Ev.some_ rfl)⟩
  · obtain ⟨m, rfl⟩ := Int.eq_ofNat_of_zero_le h0
    obtain ⟨s, hs⟩ := markText_loop m ⟨#[]⟩ (by omega) (by show 0 + m ≤ _; omega)
    exact ⟨s, Ev.iteF h hs⟩
def HoldsInts (l : List Int) (a : Int) : Prop := ∀ (i : Nat) (h : i < l.length), l[i] = a + i
theorem heldIntS_loop (l : List Int) (a : Int) (ha : 0 ≤ a) (hb : a + l.length ≤ 4503599627370496) (hh : HoldsInts l a) : ∀ (d i : Nat), i + d = l.length →
    Ev (fun k => laws_heldIntS.l0 k l (a + i) (i : Int)) (a + l.length) := by
  intro d
  induction d with
  | zero =>
    intro i hd
    exact Ev.step (fun k => rfl) (Ev.iteF (by omega) (Ev.some_ (by rw [show i = l.length by omega])))
  | succ d ih =>
    intro i hd
    have hi : i < l.length := by omega
    refine Ev.step (fun k => rfl) (Ev.iteT (by omega) (Ev.iteT (by omega) (Ev.iteT (by rw [rd_nat _ _ hi]; exact hh i hi) ?_)))
    rw [wrapN (by omega), wrapI (x := a + i + 1) (by omega)]
    have := ih (i + 1) (by omega)
    rw [show a + ((i + 1 : Nat) : Int) = a + i + 1 by omega] at this
    exact this
theorem heldIntS_ev (l : List Int) (a : Int) (ha : 0 ≤ a) (hb : a + l.length ≤ 4503599627370496) (hh : HoldsInts l a) : Ev (fun k => laws_heldIntS.f k l a) (a + l.length) := by
  have := heldIntS_loop l a ha hb hh l.length 0 (by omega)
  simp only [Int.natCast_zero, Int.add_zero] at this
  exact this
theorem markIntS_loop (n : Nat) (a : Int) (ha : 0 ≤ a) (hb : a + n ≤ 4503599627370496) : ∀ (d i : Nat) (l : List Int), i + d = n → l.length = n → (∀ (j : Nat) (h : j < l.length), j < i → l[j] = a + j) →
    ∃ m, Ev (fun k => laws_markIntS.l0 k l (a + i) (i : Int)) (a + n, m) ∧ m.length = n ∧ HoldsInts m a := by
  intro d
  induction d with
  | zero =>
    intro i l hd hl hh
    exact ⟨l, Ev.step (fun k => rfl) (Ev.iteF (by omega) (Ev.some_ (by rw [show i = n by omega]))), hl, fun j hj => hh j hj (by omega)⟩
  | succ d ih =>
    intro i l hd hl hh
    have hi : i < l.length := by omega
    obtain ⟨m, hm, h1, h2⟩ := ih (i + 1) (l.set i (a + i)) (by omega) (by rw [List.length_set]; exact hl) (fun j hj hlt => by
      rw [List.getElem_set]
      by_cases e : i = j
      · subst e
        rw [if_pos rfl]
      · rw [if_neg e]
        exact hh j (by rw [List.length_set] at hj; exact hj) (by omega))
    refine ⟨m, Ev.step (fun k => rfl) (Ev.iteT (by omega) (Ev.iteT (by omega) ?_)), h1, h2⟩
    rw [wrapN (by omega), wrapI (x := a + i + 1) (by omega), Int.toNat_natCast]
    rw [show a + ((i + 1 : Nat) : Int) = a + i + 1 by omega] at hm
    exact hm
theorem markIntS_ev (l : List Int) (a : Int) (ha : 0 ≤ a) (hb : a + l.length ≤ 4503599627370496) : ∃ m, Ev (fun k => laws_markIntS.f k l a) (a + l.length, m) ∧ m.length = l.length ∧ HoldsInts m a := by
  obtain ⟨m, h1, h2, h3⟩ := markIntS_loop l.length a ha hb l.length 0 l (by omega) rfl (fun j hj h => absurd h (by omega))
  refine ⟨m, ?_, h2, h3⟩
  simp only [Int.natCast_zero, Int.add_zero] at h1
  exact h1
theorem rdLCall_nat (l : List S90) (i : Nat) (h : i < l.length) : rd_T90 l (i : Int) = l[i] := by
  unfold rd_T90
  exact getD_nat _ _ _ h
theorem rdICall_nat (l : List S33) (i : Nat) (h : i < l.length) : rd_T33 l (i : Int) = l[i] := by
  unfold rd_T33
  exact getD_nat _ _ _ h
structure RawCall (q : S90) : Prop where
  r0 : q.f0.size ≤ maxLen
  r1 : q.f1.length ≤ maxLen
structure FewCall (q : S90) : Prop where
  r0 : q.f0.size ≤ 1048576
  r1 : q.f1.length ≤ 1048576
theorem szCall_ev (q : S90) (h : RawCall q) (left : Int) (h0 : 0 ≤ left) (h1 : left ≤ 1048576) :
    ∃ r, Ev (fun k => laws_szCall.f q.f0 q.f1 left) r ∧ r ≤ 1048576 ∧ (0 ≤ r → FewCall q) := by
  unfold laws_szCall.f
  have hm0 := h.r0
  unfold maxLen at hm0
  have ew0 : wrap64 (left - (q.f0.size : Int)) = (left - (q.f0.size : Int)) := wrapI (by omega)
  rw [ew0]
  by_cases c0 : (left - (q.f0.size : Int)) < 0
  · exact ⟨-1, Ev.iteT c0 (Ev.some_ rfl), by omega, fun h => by omega⟩
  obtain ⟨r1, hr1, hb1, hf1⟩ := szIntS_eq q.f1 h.r1 (left - (q.f0.size : Int)) (by omega) (by omega)
  by_cases c1 : r1 < 0
  · exact ⟨-1, Ev.iteF c0 (Ev.bind0 hr1 (Ev.iteT c1 (Ev.some_ rfl))), by omega, fun h => by omega⟩
  exact ⟨r1, Ev.iteF c0 (Ev.bind0 hr1 (Ev.iteF c1 (Ev.some_ rfl))), by omega, fun _ => ⟨by omega, hf1 (by omega)⟩⟩
structure FewCallS (l : List S90) : Prop where
  len : l.length ≤ 1048576
  one : ∀ q ∈ l, FewCall q
theorem szCallS_loop (l : List S90) (hl : l.length ≤ 1048576) (hz : ∀ q ∈ l, RawCall q) : ∀ (t : List S90) (i : Nat) (left : Int), l.drop i = t → i ≤ l.length → 0 ≤ left → left ≤ 1048576 →
    ∃ r, Ev (fun k => laws_szCallS.l0 k l left (i : Int)) r ∧ r ≤ 1048576 ∧ (0 ≤ r → ∀ q ∈ t, FewCall q) := by
  intro t
  induction t with
  | nil =>
    intro i left h hi h0 h1
    have hl2 := drop_nil h
    exact ⟨left, Ev.step (fun k => rfl) (Ev.iteF (by omega) (Ev.some_ rfl)), h1, fun _ q hq => by cases hq⟩
  | cons q t ih =>
    intro i left h hi h0 h1
    obtain ⟨hl2, hb, ht⟩ := drop_cons h
    have hq : RawCall q := hz q (hb ▸ List.getElem_mem hl2)
    obtain ⟨s, hs, hs2, hsf⟩ := szCall_ev q hq left h0 h1
    by_cases c : s < 0
    · refine ⟨-1, Ev.step (fun k => rfl) (Ev.iteT (by omega) (Ev.iteT (by omega) ?_)), by omega, fun h => by omega⟩
      rw [rdLCall_nat _ _ hl2, hb]
      exact Ev.bind hs (Ev.iteT c (Ev.some_ rfl))
    · obtain ⟨r, hr, h2, h3⟩ := ih (i + 1) s ht (by omega) (by omega) (by omega)
      refine ⟨r, Ev.step (fun k => rfl) (Ev.iteT (by omega) (Ev.iteT (by omega) ?_)), h2, fun h0 p hp => ?_⟩
      · rw [rdLCall_nat _ _ hl2, hb]
        refine Ev.bind hs (Ev.iteF c ?_)
        rw [wrapN (by omega)]
        exact hr
      · rcases List.mem_cons.1 hp with rfl | hp
        · exact hsf (by omega)
        · exact h3 h0 p hp
theorem szCallS_ev (l : List S90) (hl : l.length ≤ maxLen) (hz : ∀ q ∈ l, RawCall q) (left : Int) (h0 : 0 ≤ left) (h1 : left ≤ 1048576) :
    ∃ r, Ev (fun k => laws_szCallS.f k l left) r ∧ r ≤ 1048576 ∧ (0 ≤ r → FewCallS l) := by
  unfold maxLen at hl
  have ew : wrap64 (left - (l.length : Int)) = left - l.length := wrapI (by omega)
  unfold laws_szCallS.f
  rw [ew]
  by_cases c : left - l.length < 0
  · exact ⟨-1, Ev.iteT c (Ev.some_ rfl), by omega, fun h => by omega⟩
  · obtain ⟨r, hr, h2, h3⟩ := szCallS_loop l (by omega) hz l 0 (left - l.length) rfl (Nat.zero_le _) (by omega) (by omega)
    exact ⟨r, Ev.iteF c hr, h2, fun h => ⟨by omega, h3 h⟩⟩
def to_Call (q : S90) : S33 := ⟨q.f0, q.f1⟩
theorem toCall_ev (q : S90) (h : FewCall q) : Ev (fun k => laws_toCall.f k q.f0 q.f1) (q.f0, q.f1) := by
  unfold laws_toCall.f
  exact Ev.bind (toIntS_ev q.f1 h.r1) (Ev.some_ rfl)
theorem toCallS_loop (l : List S90) (hl : FewCallS l) : ∀ (d i : Nat), i + d = l.length →
    Ev (fun k => laws_toCallS.l0 k l (half to_Call z33 l i) (i : Int)) (l.map to_Call) := by
  have hlen := hl.len
  intro d
  induction d with
  | zero =>
    intro i hd
    obtain rfl : i = l.length := by omega
    exact Ev.step (fun k => rfl) (Ev.iteF (by omega) (Ev.some_ (half_full _ _ _)))
  | succ d ih =>
    intro i hd
    have hi : i < l.length := by omega
    refine Ev.step (fun k => rfl) (Ev.iteT (by omega) (Ev.iteT (by omega) ?_))
    rw [rdLCall_nat _ _ hi]
    refine Ev.bind (toCall_ev l[i] (hl.one _ (List.getElem_mem hi))) (Ev.iteT (by rw [half_length _ _ _ _ (by omega)]; omega) ?_)
    rw [wrapN (by omega), Int.toNat_natCast]
    have := ih (i + 1) (by omega)
    rw [← half_set to_Call _ l i hi] at this
    exact this
theorem toCallS_ev (l : List S90) (hl : FewCallS l) : Ev (fun k => laws_toCallS.f k l) (l.map to_Call) := by
  have hlen := hl.len
  unfold laws_toCallS.f
  rw [Int.toNat_natCast]
  have := toCallS_loop l hl l.length 0 (by omega)
  rw [half_zero] at this
  exact Ev.iteT (by omega) (Ev.iteT (by omega) this)
structure SzCall (q : S33) : Prop where
  yes : True
  r1 : q.f1.length ≤ 1048576
theorem eqCall_ev (q : S33) (h : SzCall q) : Ev (fun k => laws_eqCall.f k q.f0 q.f1 q.f0 q.f1) true := by
  unfold laws_eqCall.f
  exact Ev.iteT rfl (Ev.bind (eqIntS_ev q.f1 (by have := h.r1; omega)) (Ev.iteT rfl (Ev.some_ rfl)))
theorem eqCallS_loop (l : List S33) (hl : l.length ≤ 4194304) (hz : ∀ q ∈ l, SzCall q) : ∀ (d i : Nat), i + d = l.length → Ev (fun k => laws_eqCallS.l0 k l l (i : Int)) true := by
  intro d
  induction d with
  | zero =>
    intro i hd
    exact Ev.step (fun k => rfl) (Ev.iteF (by omega) (Ev.some_ rfl))
  | succ d ih =>
    intro i hd
    have hi : i < l.length := by omega
    refine Ev.step (fun k => rfl) (Ev.iteT (by omega) (Ev.iteT (by omega) (Ev.iteT (by omega) ?_)))
    rw [rdICall_nat _ _ hi]
    refine Ev.bind (eqCall_ev _ (hz _ (List.getElem_mem hi))) (Ev.iteT rfl ?_)
    rw [wrapN (by omega)]
    exact ih (i + 1) (by omega)
theorem eqCallS_ev (l : List S33) (hl : l.length ≤ 4194304) (hz : ∀ q ∈ l, SzCall q) : Ev (fun k => laws_eqCallS.f k l l) true := by
  unfold laws_eqCallS.f
  exact Ev.iteT rfl (eqCallS_loop l hl hz l.length 0 (by omega))
theorem FewCallS.small {l : List S90} (h : FewCallS l) : (l.map to_Call).length ≤ 1048576 ∧ ∀ q ∈ l.map to_Call, SzCall q := by
  refine ⟨by rw [List.length_map]; exact h.len, fun q hq => ?_⟩
  obtain ⟨p, hp, rfl⟩ := List.mem_map.1 hq
  have := h.one p hp
  exact ⟨trivial, this.r1⟩
theorem rdLExpect_nat (l : List S96) (i : Nat) (h : i < l.length) : rd_T96 l (i : Int) = l[i] := by
  unfold rd_T96
  exact getD_nat _ _ _ h
theorem rdIExpect_nat (l : List S73) (i : Nat) (h : i < l.length) : rd_T73 l (i : Int) = l[i] := by
  unfold rd_T73
  exact getD_nat _ _ _ h
structure RawExpect (q : S96) : Prop where
  r0 : q.f0.size ≤ maxLen
  r1 : q.f1.length ≤ maxLen
structure FewExpect (q : S96) : Prop where
  r0 : q.f0.size ≤ 1048576
  r1 : q.f1.length ≤ 1048576
theorem szExpect_ev (q : S96) (h : RawExpect q) (left : Int) (h0 : 0 ≤ left) (h1 : left ≤ 1048576) :
    ∃ r, Ev (fun k => laws_szExpect.f q.f0 q.f1 q.f2 q.f3 q.f4 left) r ∧ r ≤ 1048576 ∧ (0 ≤ r → FewExpect q) := by
  unfold laws_szExpect.f
  have hm0 := h.r0
  unfold maxLen at hm0
  have ew0 : wrap64 (left - (q.f0.size : Int)) = (left - (q.f0.size : Int)) := wrapI (by omega)
  rw [ew0]
  by_cases c0 : (left - (q.f0.size : Int)) < 0
  · exact ⟨-1, Ev.iteT c0 (Ev.some_ rfl), by omega, fun h => by omega⟩
  obtain ⟨r1, hr1, hb1, hf1⟩ := szIntS_eq q.f1 h.r1 (left - (q.f0.size : Int)) (by omega) (by omega)
  by_cases c1 : r1 < 0
  · exact ⟨-1, Ev.iteF c0 (Ev.bind0 hr1 (Ev.iteT c1 (Ev.some_ rfl))), by omega, fun h => by omega⟩
  exact ⟨r1, Ev.iteF c0 (Ev.bind0 hr1 (Ev.iteF c1 (Ev.some_ rfl))), by omega, fun _ => ⟨by omega, hf1 (by omega)⟩⟩
structure FewExpectS (l : List S96) : Prop where
  len : l.length ≤ 1048576
  one : ∀ q ∈ l, FewExpect q
theorem szExpectS_loop (l : List S96) (hl : l.length ≤ 1048576) (hz : ∀ q ∈ l, RawExpect q) : ∀ (t : List S96) (i : Nat) (left : Int), l.drop i = t → i ≤ l.length → 0 ≤ left → left ≤ 1048576 →
    ∃ r, Ev (fun k => laws_szExpectS.l0 k l left (i : Int)) r ∧ r ≤ 1048576 ∧ (0 ≤ r → ∀ q ∈ t, FewExpect q) := by
  intro t
  induction t with
  | nil =>
    intro i left h hi h0 h1
    have hl2 := drop_nil h
    exact ⟨left, Ev.step (fun k => rfl) (Ev.iteF (by omega) (Ev.some_ rfl)), h1, fun _ q hq => by cases hq⟩
  | cons q t ih =>
    intro i left h hi h0 h1
    obtain ⟨hl2, hb, ht⟩ := drop_cons h
    have hq : RawExpect q := hz q (hb ▸ List.getElem_mem hl2)
    obtain ⟨s, hs, hs2, hsf⟩ := szExpect_ev q hq left h0 h1
    by_cases c : s < 0
    · refine ⟨-1, Ev.step (fun k => rfl) (Ev.iteT (by omega) (Ev.iteT (by omega) ?_)), by omega, fun h => by omega⟩
      rw [rdLExpect_nat _ _ hl2, hb]
      exact Ev.bind hs (Ev.iteT c (Ev.some_ rfl))
    · obtain ⟨r, hr, h2, h3⟩ := ih (i + 1) s ht (by omega) (by omega) (by omega)
      refine ⟨r, Ev.step (fun k => rfl) (Ev.iteT (by omega) (Ev.iteT (by omega) ?_)), h2, fun h0 p hp => ?_⟩
      · rw [rdLExpect_nat _ _ hl2, hb]
        refine Ev.bind hs (Ev.iteF c ?_)
        rw [wrapN (by omega)]
        exact hr
      · rcases List.mem_cons.1 hp with rfl | hp
        · exact hsf (by omega)
        · exact h3 h0 p hp
theorem szExpectS_ev (l : List S96) (hl : l.length ≤ maxLen) (hz : ∀ q ∈ l, RawExpect q) (left : Int) (h0 : 0 ≤ left) (h1 : left ≤ 1048576) :
    ∃ r, Ev (fun k => laws_szExpectS.f k l left) r ∧ r ≤ 1048576 ∧ (0 ≤ r → FewExpectS l) := by
  unfold maxLen at hl
  have ew : wrap64 (left - (l.length : Int)) = left - l.length := wrapI (by omega)
  unfold laws_szExpectS.f
  rw [ew]
  by_cases c : left - l.length < 0
  · exact ⟨-1, Ev.iteT c (Ev.some_ rfl), by omega, fun h => by omega⟩
  · obtain ⟨r, hr, h2, h3⟩ := szExpectS_loop l (by omega) hz l 0 (left - l.length) rfl (Nat.zero_le _) (by omega) (by omega)
    exact ⟨r, Ev.iteF c hr, h2, fun h => ⟨by omega, h3 h⟩⟩
def to_Expect (q : S96) : S73 := ⟨q.f0, q.f1, q.f2, q.f3, q.f4⟩
theorem toExpect_ev (q : S96) (h : FewExpect q) : Ev (fun k => laws_toExpect.f k q.f0 q.f1 q.f2 q.f3 q.f4) (q.f0, q.f1, q.f2, q.f3, q.f4) := by
  unfold laws_toExpect.f
  exact Ev.bind (toIntS_ev q.f1 h.r1) (Ev.some_ rfl)
theorem toExpectS_loop (l : List S96) (hl : FewExpectS l) : ∀ (d i : Nat), i + d = l.length →
    Ev (fun k => laws_toExpectS.l0 k l (half to_Expect z73 l i) (i : Int)) (l.map to_Expect) := by
  have hlen := hl.len
  intro d
  induction d with
  | zero =>
    intro i hd
    obtain rfl : i = l.length := by omega
    exact Ev.step (fun k => rfl) (Ev.iteF (by omega) (Ev.some_ (half_full _ _ _)))
  | succ d ih =>
    intro i hd
    have hi : i < l.length := by omega
    refine Ev.step (fun k => rfl) (Ev.iteT (by omega) (Ev.iteT (by omega) ?_))
    rw [rdLExpect_nat _ _ hi]
    refine Ev.bind (toExpect_ev l[i] (hl.one _ (List.getElem_mem hi))) (Ev.iteT (by rw [half_length _ _ _ _ (by omega)]; omega) ?_)
    rw [wrapN (by omega), Int.toNat_natCast]
    have := ih (i + 1) (by omega)
    rw [← half_set to_Expect _ l i hi] at this
    exact this
theorem toExpectS_ev (l : List S96) (hl : FewExpectS l) : Ev (fun k => laws_toExpectS.f k l) (l.map to_Expect) := by
  have hlen := hl.len
  unfold laws_toExpectS.f
  rw [Int.toNat_natCast]
  have := toExpectS_loop l hl l.length 0 (by omega)
  rw [half_zero] at this
  exact Ev.iteT (by omega) (Ev.iteT (by omega) this)
structure SzExpect (q : S73) : Prop where
  yes : True
  r1 : q.f1.length ≤ 1048576
theorem eqExpect_ev (q : S73) (h : SzExpect q) : Ev (fun k => laws_eqExpect.f k q.f0 q.f1 q.f2 q.f3 q.f4 q.f0 q.f1 q.f2 q.f3 q.f4) true := by
  unfold laws_eqExpect.f
  exact Ev.iteT rfl (Ev.bind (eqIntS_ev q.f1 (by have := h.r1; omega)) (Ev.iteT rfl (Ev.iteF (by simp) (Ev.iteT rfl (Ev.iteT rfl (Ev.some_ rfl))))))
theorem eqExpectS_loop (l : List S73) (hl : l.length ≤ 4194304) (hz : ∀ q ∈ l, SzExpect q) : ∀ (d i : Nat), i + d = l.length → Ev (fun k => laws_eqExpectS.l0 k l l (i : Int)) true := by
  intro d
  induction d with
  | zero =>
    intro i hd
    exact Ev.step (fun k => rfl) (Ev.iteF (by omega) (Ev.some_ rfl))
  | succ d ih =>
    intro i hd
    have hi : i < l.length := by omega
    refine Ev.step (fun k => rfl) (Ev.iteT (by omega) (Ev.iteT (by omega) (Ev.iteT (by omega) ?_)))
    rw [rdIExpect_nat _ _ hi]
    refine Ev.bind (eqExpect_ev _ (hz _ (List.getElem_mem hi))) (Ev.iteT rfl ?_)
    rw [wrapN (by omega)]
    exact ih (i + 1) (by omega)
theorem eqExpectS_ev (l : List S73) (hl : l.length ≤ 4194304) (hz : ∀ q ∈ l, SzExpect q) : Ev (fun k => laws_eqExpectS.f k l l) true := by
  unfold laws_eqExpectS.f
  exact Ev.iteT rfl (eqExpectS_loop l hl hz l.length 0 (by omega))
theorem FewExpectS.small {l : List S96} (h : FewExpectS l) : (l.map to_Expect).length ≤ 1048576 ∧ ∀ q ∈ l.map to_Expect, SzExpect q := by
  refine ⟨by rw [List.length_map]; exact h.len, fun q hq => ?_⟩
  obtain ⟨p, hp, rfl⟩ := List.mem_map.1 hq
  have := h.one p hp
  exact ⟨trivial, this.r1⟩
theorem markIntN_ev : ∀ (n : Nat) (a : Int), 0 ≤ a → a + n ≤ 4503599627370496 → Ev (fun k => laws_markIntS.n k n a) (a + n)
  | 0, a, _, _ => ⟨0, fun k _ => by unfold laws_markIntS.n; simp⟩
  | n + 1, a, h0, h1 => by
    have := markIntN_ev n (a + 1) (by omega) (by omega)
    rw [show a + 1 + (n : Int) = a + ((n + 1 : Nat) : Int) by omega] at this
    refine Ev.congr (f := fun k => laws_markIntS.n k n (wrap64 (a + 1))) (fun k => by rw [laws_markIntS.n]) ?_
    rw [wrapI (by omega)]
    exact this
theorem markCallN_ev : ∀ (l : List S33) (a : Int), (∀ q ∈ l, SzCall q) → 0 ≤ a → a + 1048577 * l.length ≤ 4503599627370496 → ∃ r, Ev (fun k => laws_markCallS.n k l a) r ∧ a ≤ r ∧ r ≤ a + 1048577 * l.length
  | [], a, _, _, _ => ⟨a, ⟨0, fun k _ => by unfold laws_markCallS.n; rfl⟩, Int.le_refl _, by simp⟩
  | x :: t, a, hz, h0, h1 => by
    have hx := hz x (by simp)
    have h2 := hx.r1
    simp only [List.length_cons] at h1
    obtain ⟨s, hs⟩ := markText_ev a h0 (by omega)
    have m2 := markIntN_ev x.f1.length (a + 1) (by omega) (by omega)
    obtain ⟨r, hr, hle, hle2⟩ := markCallN_ev t (a + 1 + x.f1.length) (fun q hq => hz q (by simp [hq])) (by omega) (by omega)
    refine ⟨r, Ev.congr (f := fun k => (laws_markText.f k a).bind fun _ => (laws_markIntS.n k x.f1.length (wrap64 (a + 1))).bind fun b1 => laws_markCallS.n k t b1) (fun k => by rw [laws_markCallS.n]) ?_, by omega, by simp only [List.length_cons]; omega⟩
    rw [wrapI (x := a + 1) (by omega)]
    exact Ev.bind hs (Ev.bind m2 hr)
theorem markExpectN_ev : ∀ (l : List S73) (a : Int), (∀ q ∈ l, SzExpect q) → 0 ≤ a → a + 1048580 * l.length ≤ 4503599627370496 → ∃ r, Ev (fun k => laws_markExpectS.n k l a) r ∧ a ≤ r
  | [], a, _, _, _ => ⟨a, ⟨0, fun k _ => by unfold laws_markExpectS.n; rfl⟩, Int.le_refl _⟩
  | x :: t, a, hz, h0, h1 => by
    have hx := hz x (by simp)
    have h2 := hx.r1
    simp only [List.length_cons] at h1
    obtain ⟨s, hs⟩ := markText_ev a h0 (by omega)
    have m2 := markIntN_ev x.f1.length (a + 1) (by omega) (by omega)
    obtain ⟨r, hr, hle⟩ := markExpectN_ev t (a + 1 + x.f1.length + 1 + 1 + 1) (fun q hq => hz q (by simp [hq])) (by omega) (by omega)
    refine ⟨r, Ev.congr (f := fun k => (laws_markText.f k a).bind fun _ => (laws_markIntS.n k x.f1.length (wrap64 (a + 1))).bind fun b1 => laws_markExpectS.n k t (wrap64 (wrap64 (wrap64 (b1 + 1) + 1) + 1))) (fun k => by rw [laws_markExpectS.n]) ?_, by omega⟩
    rw [wrapI (x := a + 1) (by omega)]
    refine Ev.bind hs (Ev.bind m2 ?_)
    rw [wrapI (x := a + 1 + x.f1.length + 1) (by omega), wrapI (x := a + 1 + x.f1.length + 1 + 1) (by omega), wrapI (x := a + 1 + x.f1.length + 1 + 1 + 1) (by omega)]
    exact hr
theorem markCallS_ev (l : List S33) (hl : l.length ≤ 1048576) (hz : ∀ q ∈ l, SzCall q) : ∃ r, Ev (fun k => laws_markCallS.f k l 1) r ∧ 1 ≤ r ∧ r ≤ 1099512676353 := by
  obtain ⟨r, hr, h1, h2⟩ := markCallN_ev l 1 hz (by omega) (by omega)
  exact ⟨r, hr, h1, by omega⟩
theorem markExpectS_ev (l : List S73) (hl : l.length ≤ 1048576) (hz : ∀ q ∈ l, SzExpect q) (a : Int) (h0 : 0 ≤ a) (h1 : a ≤ 1099512676353) : ∃ r, Ev (fun k => laws_markExpectS.f k l a) r ∧ a ≤ r :=
  markExpectN_ev l a hz h0 (by omega)
def strayB (l : List S73) (c : S33) : Bool := !(l.any fun e => meetsS e c)
def strayV (calls : List S33) (l : List S73) : List Int := if callsS calls = true ∧ expectsS l = true then placesF (strayB l) calls 0 else []
theorem strayV_length (calls : List S33) (l : List S73) : (strayV calls l).length ≤ calls.length := by
  unfold strayV
  split
  · exact placesF_length _ _ _
  · simp
theorem strayFind_ev (c : S33) : ∀ (l : List S73) (i : Nat), (∀ e ∈ l, ESz e) → ∃ j : Int, Ev (fun k => impl_strayPred.find k c.f0 c.f1 l i) j ∧ (decide (j ≥ 0) = l.any fun e => meetsS e c)
  | [], i, _ => ⟨-1, ⟨0, fun k _ => by unfold impl_strayPred.find; rfl⟩, by simp⟩
  | e :: t, i, h => by
    obtain ⟨j, hj, hj2⟩ := strayFind_ev c t (i + 1) (fun q hq => h q (by simp [hq]))
    have he := implMeets_ev e c (h e (by simp))
    cases hm : meetsS e c with
    | true =>
      refine ⟨(i : Int), Ev.congr (f := fun k => (impl_Expect_meets.f k e.f0 e.f1 e.f2 e.f3 e.f4 c.f0 c.f1).bind fun b => if b = true then some (i : Int) else impl_strayPred.find k c.f0 c.f1 t (i + 1)) (fun k => by rw [impl_strayPred.find]) (Ev.bind he (Ev.iteT hm (Ev.some_ rfl))), ?_⟩
      rw [List.any_cons, hm, Bool.true_or]
      exact decide_eq_true (by omega)
    | false =>
      refine ⟨j, Ev.congr (f := fun k => (impl_Expect_meets.f k e.f0 e.f1 e.f2 e.f3 e.f4 c.f0 c.f1).bind fun b => if b = true then some (i : Int) else impl_strayPred.find k c.f0 c.f1 t (i + 1)) (fun k => by rw [impl_strayPred.find]) (Ev.bind he (Ev.iteF (by simp [hm]) hj)), ?_⟩
      rw [List.any_cons, hm, Bool.false_or]
      exact hj2
theorem strayPred_ev (c : S33) (l : List S73) (h : ESzS l) : Ev (fun k => impl_strayPred.f k l c.f0 c.f1) (l.any fun e => meetsS e c) := by
  obtain ⟨j, hj, hj2⟩ := strayFind_ev c l 0 h.one
  unfold impl_strayPred.f
  exact Ev.bind hj (Ev.some_ hj2)
theorem strayB_not (l : List S73) (c : S33) : (l.any fun e => meetsS e c) = !strayB l c := by simp [strayB]
theorem implStray_l0 (L : List S73) (hL : ESzS L) (x0 : List S33) (h0 : CSzS x0) : ∀ (t : List S33) (i : Nat) (x5 : List Int), x0.drop i = t → i ≤ x0.length → x5.length ≤ i →
    Ev (fun k => impl_StrayCalls.l0 k L x5 x0 (x0.length : Int) (i : Int)) (x5 ++ placesF (strayB L) t i) := by
  have hlen := h0.len
  intro t
  induction t with
  | nil =>
    intro i x5 h hi hx
    have hl2 := drop_nil h
    exact Ev.step (fun k => rfl) (Ev.iteF (by omega) (Ev.some_ (by simp [placesF])))
  | cons b t ih =>
    intro i x5 h hi hx
    obtain ⟨hl2, hb, ht⟩ := drop_cons h
    refine Ev.step (fun k => rfl) (Ev.iteT (by omega) (Ev.iteT (by omega) (Ev.iteT (by omega) ?_)))
    rw [rdCall_nat _ _ hl2, hb, placesF]
    refine Ev.bind (strayPred_ev b L hL) ?_
    rw [strayB_not, wrapN (by omega)]
    cases hm : strayB L b with
    | true =>
      refine Ev.iteF (by simp) (Ev.iteT (by omega) ?_)
      have := ih (i + 1) (x5 ++ [(i : Int)]) ht (by omega) (by simp; omega)
      simpa using this
    | false =>
      refine Ev.iteT (by simp) ?_
      have := ih (i + 1) x5 ht (by omega) (by omega)
      simpa using this
theorem implStray_ev (x0 : List S33) (h0 : CSzS x0) (L : List S73) (hL : ESzS L) : Ev (fun k => impl_StrayCalls.f k x0 L) (strayV x0 L) := by
  have hgo := implStray_l0 L hL x0 h0 x0 0 [] rfl (Nat.zero_le _) (Nat.le_refl _)
  rw [List.nil_append] at hgo
  unfold impl_StrayCalls.f strayV
  refine Ev.bind (validCallsI_ev x0 h0) ?_
  by_cases c : callsS x0 = true
  · refine Ev.iteT c (Ev.bind (expectsOk_ev L hL) ?_)
    refine Ev.step (fun k => by rw [impl_StrayCalls.j0]) ?_
    by_cases d : expectsS L = true
    · rw [if_pos ⟨c, d⟩]
      exact Ev.iteF (by simp [d]) hgo
    · rw [if_neg (fun h => d h.2)]
      exact Ev.iteT (by simpa using d) (Ev.some_ rfl)
  · rw [if_neg (fun h => c h.1)]
    refine Ev.iteF c ?_
    refine Ev.step (fun k => by rw [impl_StrayCalls.j0]) ?_
    exact Ev.iteT rfl (Ev.some_ rfl)
theorem specStray_l1 (x0 : List S33) (h0 : CSzS x0) (L : List S73) (hL : ESzS L) (q : Nat) (hq : q < x0.length) (x5 : List Int) (hx5 : x5.length ≤ 4194304) (r : List Int)
    (hc : Ev (fun k => spec_StrayCalls.l0 k x0 L (if strayB L x0[q] = true then x5 ++ [(q : Int)] else x5) ((q + 1 : Nat) : Int)) r) : ∀ (t : List S73) (i : Nat) (m : Bool), L.drop i = t → i ≤ L.length → (m || t.any fun e => meetsS e x0[q]) = !strayB L x0[q] →
    Ev (fun k => spec_StrayCalls.l1 k x0 L x5 (q : Int) m (i : Int)) r := by
  have hlen := h0.len
  have hlen2 := hL.len
  intro t
  induction t with
  | nil =>
    intro i m h hi hm
    have hl2 := drop_nil h
    refine Ev.step (fun k => rfl) (Ev.iteF (by omega) ?_)
    rw [List.any_nil, Bool.or_false] at hm
    subst hm
    rw [wrapN (by omega)]
    cases hs : strayB L x0[q] with
    | true =>
      rw [if_pos hs] at hc
      exact Ev.iteF (by simp) (Ev.iteT (by omega) hc)
    | false =>
      rw [if_neg (by simp [hs])] at hc
      exact Ev.iteT rfl hc
  | cons b t ih =>
    intro i m h hi hm
    obtain ⟨hl2, hb, ht⟩ := drop_cons h
    refine Ev.step (fun k => rfl) (Ev.iteT (by omega) ?_)
    rw [wrapN (by omega)]
    rw [List.any_cons] at hm
    cases m with
    | true => exact Ev.iteT rfl (ih (i + 1) true ht (by omega) (by simpa using hm))
    | false =>
      refine Ev.iteF (by simp) (Ev.iteT (by omega) (Ev.iteT (by omega) (Ev.iteT (by omega) ?_)))
      rw [rdCall_nat _ _ hq, rdExpect_nat _ _ hl2, hb]
      refine Ev.bind (specMeets_ev b x0[q] (h0.one _ (List.getElem_mem hq))) ?_
      exact ih (i + 1) _ ht (by omega) (by simpa using hm)
theorem specStray_l0 (x0 : List S33) (h0 : CSzS x0) (L : List S73) (hL : ESzS L) : ∀ (t : List S33) (i : Nat) (x5 : List Int), x0.drop i = t → i ≤ x0.length → x5.length ≤ i →
    Ev (fun k => spec_StrayCalls.l0 k x0 L x5 (i : Int)) (x5 ++ placesF (strayB L) t i) := by
  have hlen := h0.len
  intro t
  induction t with
  | nil =>
    intro i x5 h hi hx
    have hl2 := drop_nil h
    exact Ev.step (fun k => rfl) (Ev.iteF (by omega) (Ev.some_ (by simp [placesF])))
  | cons b t ih =>
    intro i x5 h hi hx
    obtain ⟨hl2, hb, ht⟩ := drop_cons h
    subst hb
    have hnext := ih (i + 1) (if strayB L x0[i] = true then x5 ++ [(i : Int)] else x5) ht (by omega) (by split <;> (try simp) <;> omega)
    have e : (if strayB L x0[i] = true then x5 ++ [(i : Int)] else x5) ++ placesF (strayB L) t (i + 1) = x5 ++ placesF (strayB L) (x0[i] :: t) i := by
      rw [placesF.eq_def (strayB L) (x0[i] :: t) i]
      dsimp only
      split <;> simp
    rw [e] at hnext
    refine Ev.step (fun k => rfl) (Ev.iteT (by omega) ?_)
    exact specStray_l1 x0 h0 L hL i hl2 x5 (by omega) _ hnext L 0 false rfl (Nat.zero_le _) (by rw [Bool.false_or, strayB_not])
theorem specStray_ev (x0 : List S33) (h0 : CSzS x0) (L : List S73) (hL : ESzS L) : Ev (fun k => spec_StrayCalls.f k x0 L) (strayV x0 L) := by
  have hgo := specStray_l0 x0 h0 L hL x0 0 [] rfl (Nat.zero_le _) (Nat.le_refl _)
  rw [List.nil_append] at hgo
  unfold spec_StrayCalls.f strayV
  refine Ev.bind (validCallsS_ev x0 h0) ?_
  by_cases c : callsS x0 = true
  · refine Ev.iteT c (Ev.bind (validExpects_ev L hL) ?_)
    refine Ev.step (fun k => by rw [spec_StrayCalls.j0]) ?_
    by_cases d : expectsS L = true
    · rw [if_pos ⟨c, d⟩]
      exact Ev.iteF (by simp [d]) hgo
    · rw [if_neg (fun h => d h.2)]
      exact Ev.iteT (by simpa using d) (Ev.some_ rfl)
  · rw [if_neg (fun h => c h.1)]
    refine Ev.iteF c ?_
    refine Ev.step (fun k => by rw [spec_StrayCalls.j0]) ?_
    exact Ev.iteT rfl (Ev.some_ rfl)
end Go.Proofs.Ytcbkpdgbijdbbaa.J
