/- Plain laws, without Go, that the law FnExactReportText leans on. No condition. -/
import Derived.Test.YtieghkchhjailaaPx0
import Derived.Test.YtieghkchhjailaaPx4
import Derived.Test.YtieghkchhjailaaPx5
import Derived.Test.YtieghkchhjailaaPx9
import Derived.Test.YtieghkchhjailaaPx10
import Derived.Test.YtieghkchhjailaaPx11
import Derived.Test.YtieghkchhjailaaPx12
import Derived.Test.YtieghkchhjailaaPx13
import Derived.Test.YtieghkchhjailaaPx15
import Derived.Test.YtieghkchhjailaaWMore
import Derived.IntWalk
import Derived.Lib.Bytealg
import Derived.Lib.Strings
set_option linter.unusedSimpArgs false
set_option linter.unusedVariables false
namespace Go.Proofs.Ytieghkchhjailaa.P
open Go.RowKit Go.Proofs.YtieghkchhjailaaW.PrintWords Go.Proofs.YtieghkchhjailaaW.PrintLast Go.Proofs.YtieghkchhjailaaW.PrintMore
theorem Ev.iteT {α : Type} {c : Prop} [Decidable c] {g f : Nat → Option α} {r : α} (h : c) (k : Ev g r) : Ev (fun n => if c then g n else f n) r := by
  simpa only [if_pos h] using k
theorem Ev.iteF {α : Type} {c : Prop} [Decidable c] {g f : Nat → Option α} {r : α} (h : ¬ c) (k : Ev f r) : Ev (fun n => if c then g n else f n) r := by
  simpa only [if_neg h] using k
/-- A callee without rounds. -/
theorem Ev.bind0 {α β : Type} {g : Option α} {f : Nat → α → Option β} {a : α} {r : β} (h : g = some a) (k : Ev (fun n => f n a) r) : Ev (fun n => g.bind (f n)) r := by
  subst h
  simpa only [Option.bind_some] using k
theorem Ev.some_ {α : Type} {x r : α} (h : x = r) : Ev (fun _ => some x) r := ⟨0, fun _ _ => by rw [h]⟩
theorem Ev.bool {b r : Bool} (h : b = r) : Ev (fun _ => some b) r := Ev.some_ h
theorem wrapN {i : Nat} (h : i < 4611686018427387904) : wrap64 ((i : Int) + 1) = ((i + 1 : Nat) : Int) := by
  unfold wrap64
  omega
theorem wrapI {x : Int} (h : -9223372036854775808 ≤ x ∧ x ≤ 9223372036854775807) : wrap64 x = x := by
  unfold wrap64
  omega
theorem rdOf_nat {α : Type} (d : α) (l : List α) (i : Nat) (h : i < l.length) : rdOf d l (i : Int) = l[i] := by
  simp [rdOf, List.getD_eq_getElem?_getD, List.getElem?_eq_getElem h]
theorem getD_nat {α : Type} (d : α) (l : List α) (i : Nat) (h : i < l.length) : l.getD (i : Int).toNat d = l[i] := by
  simp [List.getD_eq_getElem?_getD, List.getElem?_eq_getElem h]
theorem size_list (s : ByteArray) : s.data.toList.length = s.size := by rw [Array.length_toList]; rfl
theorem bt_nat (s : ByteArray) (i : Nat) (h : i < s.data.toList.length) : bt s (i : Int) = ((s.data.toList[i]).toNat : Int) := by
  have h' : i < s.size := by rw [← size_list]; exact h
  unfold bt
  rw [dif_pos (by simpa using h')]
  rfl
/-- A list seen from place i on. -/
theorem drop_cons {α : Type} {l : List α} {i : Nat} {b : α} {t : List α} (h : l.drop i = b :: t) : ∃ hi : i < l.length, l[i] = b ∧ l.drop (i + 1) = t := by
  have hi : i < l.length := by
    rcases Nat.lt_or_ge i l.length with h1 | h1
    · exact h1
    · rw [List.drop_of_length_le h1] at h
      cases h
  refine ⟨hi, ?_, ?_⟩
  · rw [List.drop_eq_getElem_cons hi] at h
    exact (List.cons.inj h).1
  · rw [List.drop_eq_getElem_cons hi] at h
    exact (List.cons.inj h).2
theorem drop_nil {α : Type} {l : List α} {i : Nat} (h : l.drop i = []) : l.length ≤ i := by
  have := congrArg List.length h
  rw [List.length_drop] at this
  simpa using Nat.sub_eq_zero_iff_le.1 this
def lowB (b : UInt8) : Bool := decide (97 ≤ (b.toNat : Int)) && decide ((b.toNat : Int) ≤ 122)
/-- What is asked of a name behind its letters. -/
def nameEnd (s : ByteArray) : Bool := decide (1 ≤ s.size) && (decide (s.size ≤ 6) && (s.toList != ([97, 110, 100] : List UInt8) && (s.toList != ([111, 114] : List UInt8) && s.toList != ([110, 111, 116] : List UInt8))))
def nameS (s : ByteArray) : Bool := s.data.toList.all lowB && nameEnd s
theorem nameOk_loop (s : ByteArray) (hs : s.size ≤ 4611686018427387903) : ∀ (t : List UInt8) (i : Nat), s.data.toList.drop i = t → i ≤ s.size →
    Ev (fun k => impl_nameOk.l0 k s (s.size : Int) (i : Int)) (t.all lowB && nameEnd s) := by
  intro t
  induction t with
  | nil =>
    intro i h hi
    have hl := drop_nil h
    rw [size_list] at hl
    refine Ev.step (fun k => rfl) (Ev.iteF (by omega) ?_)
    simp only [List.all_nil, Bool.true_and]
    unfold nameEnd
    by_cases h1 : 1 ≤ s.size
    · refine Ev.iteT (by omega) ?_
      by_cases h2 : s.size ≤ 6
      · refine Ev.iteT (by omega) ?_
        by_cases h3 : s.toList = ([97, 110, 100] : List UInt8)
        · exact Ev.iteT h3 (Ev.bool (by simp [h3]))
        · refine Ev.iteF h3 ?_
          by_cases h4 : s.toList = ([111, 114] : List UInt8)
          · exact Ev.iteT h4 (Ev.bool (by simp [h4]))
          · exact Ev.iteF h4 (Ev.bool (by simp [h1, h2, bne_iff_ne.2 h3, bne_iff_ne.2 h4]))
      · exact Ev.iteF (by omega) (Ev.bool (by simp [h2]))
    · exact Ev.iteF (by omega) (Ev.bool (by simp [h1]))
  | cons b t ih =>
    intro i h hi
    obtain ⟨hl, hb, ht⟩ := drop_cons h
    have hl' := hl
    rw [size_list] at hl'
    refine Ev.step (fun k => rfl) (Ev.iteT (by omega) (Ev.iteT (by omega) (Ev.iteT (by omega) ?_)))
    rw [bt_nat s i hl, hb]
    by_cases h1 : (b.toNat : Int) < 97
    · exact Ev.iteT h1 (Ev.bool (by simp [lowB]; omega))
    · refine Ev.iteF h1 ?_
      by_cases h2 : (b.toNat : Int) > 122
      · exact Ev.iteT h2 (Ev.bool (by simp [lowB]; omega))
      · refine Ev.iteF h2 ?_
        rw [wrapN (by omega)]
        have := ih (i + 1) ht (by omega)
        have e : lowB b = true := by simp [lowB]; omega
        simpa [List.all_cons, e] using this
theorem nameOk_ev (s : ByteArray) (hs : s.size ≤ 4611686018427387903) : Ev (fun k => impl_nameOk.f k s) (nameS s) :=
  nameOk_loop s hs _ 0 rfl (Nat.zero_le _)
theorem inRange_ev (a b c : Int) : spec_inRange.f a b c = some (decide (b ≤ a ∧ a ≤ c)) := by
  unfold spec_inRange.f
  by_cases h : b ≤ a
  · rw [if_pos h]
    simp [h]
  · rw [if_neg h]
    simp [h]
theorem validName_loop (s : ByteArray) (hs : s.size ≤ 4611686018427387903) : ∀ (t : List UInt8) (i : Nat), s.data.toList.drop i = t → i ≤ s.size →
    Ev (fun k => spec_validName.l0 k s (i : Int)) (t.all lowB && nameEnd s) := by
  intro t
  induction t with
  | nil =>
    intro i h hi
    have hl := drop_nil h
    rw [size_list] at hl
    refine Ev.step (fun k => rfl) (Ev.iteF (by omega) (Ev.bind0 (inRange_ev _ _ _) ?_))
    simp only [List.all_nil, Bool.true_and]
    unfold nameEnd
    by_cases h1 : 1 ≤ s.size
    · by_cases h2 : s.size ≤ 6
      · refine Ev.iteT (by simp; omega) ?_
        by_cases h3 : s.toList = ([97, 110, 100] : List UInt8)
        · exact Ev.iteT h3 (Ev.bool (by simp [h3]))
        · refine Ev.iteF h3 ?_
          by_cases h4 : s.toList = ([111, 114] : List UInt8)
          · exact Ev.iteT h4 (Ev.bool (by simp [h4]))
          · exact Ev.iteF h4 (Ev.bool (by simp [h1, h2, bne_iff_ne.2 h3, bne_iff_ne.2 h4]))
      · exact Ev.iteF (by simp; omega) (Ev.bool (by simp [h2]))
    · exact Ev.iteF (by simp; omega) (Ev.bool (by simp [h1]))
  | cons b t ih =>
    intro i h hi
    obtain ⟨hl, hb, ht⟩ := drop_cons h
    have hl' := hl
    rw [size_list] at hl'
    refine Ev.step (fun k => rfl) (Ev.iteT (by omega) (Ev.iteT (by omega) ?_))
    rw [bt_nat s i hl, hb]
    by_cases h1 : (b.toNat : Int) < 97
    · exact Ev.iteT h1 (Ev.bool (by simp [lowB]; omega))
    · refine Ev.iteF h1 ?_
      by_cases h2 : (b.toNat : Int) > 122
      · exact Ev.iteT h2 (Ev.bool (by simp [lowB]; omega))
      · refine Ev.iteF h2 ?_
        rw [wrapN (by omega)]
        have := ih (i + 1) ht (by omega)
        have e : lowB b = true := by simp [lowB]; omega
        simpa [List.all_cons, e] using this
theorem validName_ev (s : ByteArray) (hs : s.size ≤ 4611686018427387903) : Ev (fun k => spec_validName.f k s) (nameS s) :=
  validName_loop s hs _ 0 rfl (Nat.zero_le _)
theorem extract_size_le (s : ByteArray) (a b : Nat) : (s.extract a b).size ≤ s.size := by
  rw [ByteArray.size_extract]
  omega
theorem indexByte_cons (b : UInt8) (l : List UInt8) (c : UInt8) : Lib.indexByte (b :: l) c = if b = c then 0 else if Lib.indexByte l c < 0 then -1 else Lib.indexByte l c + 1 := by
  have hg := Lib.indexByte_ge l c
  rw [Lib.indexByte]
  by_cases h : b = c
  · simp [h]
  · have h1 : (b == c) = false := by simpa using h
    rw [h1, if_neg h]
    simp only [Bool.false_eq_true, if_false]
    by_cases h2 : Lib.indexByte l c = -1
    · rw [h2]
      simp
    · have h3 : (Lib.indexByte l c == -1) = false := by simpa using h2
      have h4 : ¬ Lib.indexByte l c < 0 := by omega
      rw [h3, if_neg h4]
      simp
theorem indexByte_lt (l : List UInt8) (c : UInt8) : Lib.indexByte l c < l.length := by
  induction l with
  | nil => simp [Lib.indexByte]
  | cons b l ih =>
    rw [indexByte_cons]
    have hg := Lib.indexByte_ge l c
    simp only [List.length_cons]
    split
    · omega
    · split <;> omega
/-- Where the first point stands, and whether both sides of it are names. -/
def idS (s : ByteArray) : Bool := decide (0 ≤ Lib.indexByte s.data.toList 46) && (nameS (s.extract 0 (Lib.indexByte s.data.toList 46).toNat) && nameS (s.extract ((Lib.indexByte s.data.toList 46).toNat + 1) s.size))
theorem stringsCut_at (s : ByteArray) (c : UInt8) (hs : s.size ≤ 4611686018427387903) :
    strings_Cut.f s ⟨#[c]⟩ = some (if 0 ≤ Lib.indexByte s.data.toList c then (s.extract 0 (Lib.indexByte s.data.toList c).toNat, s.extract ((Lib.indexByte s.data.toList c).toNat + 1) s.size, true) else (s, ⟨#[]⟩, false)) := by
  have hg := Lib.indexByte_ge s.data.toList c
  have hl := indexByte_lt s.data.toList c
  rw [size_list] at hl
  have e1 : (⟨#[c]⟩ : ByteArray).size = 1 := rfl
  have e : stringslite_Index.f s ⟨#[c]⟩ = some (Lib.indexByte s.data.toList c) := rfl
  unfold strings_Cut.f stringslite_Cut.f
  rw [e]
  simp only [Option.bind_some, e1]
  generalize Lib.indexByte s.data.toList c = i at hg hl ⊢
  by_cases h : 0 ≤ i
  · have ew : wrap64 (i + ((1 : Nat) : Int)) = ((i.toNat + 1 : Nat) : Int) := by unfold wrap64; omega
    rw [if_pos h, if_pos h, if_pos (by omega), ew, if_pos (by omega), if_pos (by omega), if_pos h, Int.toNat_natCast]
    rfl
  · rw [if_neg h, if_neg h]
    rfl
theorem idOk_ev (s : ByteArray) (hs : s.size ≤ 4611686018427387903) : Ev (fun k => impl_idOk.f k s) (idS s) := by
  unfold impl_idOk.f idS
  refine Ev.bind0 (stringsCut_at s 46 hs) ?_
  by_cases h : 0 ≤ Lib.indexByte s.data.toList 46
  · simp only [if_pos h]
    have n1 := nameOk_ev (s.extract 0 (Lib.indexByte s.data.toList 46).toNat) (by have := extract_size_le s 0 (Lib.indexByte s.data.toList 46).toNat; omega)
    have n2 := nameOk_ev (s.extract ((Lib.indexByte s.data.toList 46).toNat + 1) s.size) (by have := extract_size_le s ((Lib.indexByte s.data.toList 46).toNat + 1) s.size; omega)
    refine Ev.iteT (by trivial) (Ev.bind n1 ?_)
    cases hn : nameS (s.extract 0 (Lib.indexByte s.data.toList 46).toNat) with
    | true => exact Ev.iteT rfl (Ev.bind n2 (Ev.bool (by simp [h])))
    | false => exact Ev.iteF (by simp) (Ev.bool (by simp))
  · simp only [if_neg h]
    exact Ev.iteF (by simp) (Ev.bool (by simp [h]))
theorem validId_loop (s : ByteArray) (hs : s.size ≤ 4611686018427387903) : ∀ (t : List UInt8) (i : Nat), s.data.toList.drop i = t → i ≤ s.size →
    Ev (fun k => spec_validId.l0 k s (i : Int)) (decide (0 ≤ Lib.indexByte t 46) && (nameS (s.extract 0 (i + (Lib.indexByte t 46).toNat)) && nameS (s.extract (i + (Lib.indexByte t 46).toNat + 1) s.size))) := by
  intro t
  induction t with
  | nil =>
    intro i h hi
    have hl := drop_nil h
    rw [size_list] at hl
    exact Ev.step (fun k => rfl) (Ev.iteF (by omega) (Ev.bool (by simp [Lib.indexByte])))
  | cons b t ih =>
    intro i h hi
    obtain ⟨hl, hb, ht⟩ := drop_cons h
    have hl' := hl
    rw [size_list] at hl'
    refine Ev.step (fun k => rfl) (Ev.iteT (by omega) (Ev.iteT (by omega) ?_))
    rw [bt_nat s i hl, hb]
    by_cases h1 : b = 46
    · subst h1
      refine Ev.iteT (by decide) (Ev.iteT (by omega) ?_)
      have n1 := validName_ev (s.extract 0 i) (by have := extract_size_le s 0 i; omega)
      have n2 := validName_ev (s.extract (i + 1) s.size) (by have := extract_size_le s (i + 1) s.size; omega)
      rw [indexByte_cons, if_pos rfl]
      simp only [Int.toNat_natCast, Int.toNat_zero, Nat.add_zero, Int.le_refl, decide_true, Bool.true_and]
      refine Ev.bind n1 ?_
      rw [wrapN (by omega)]
      cases hn : nameS (s.extract 0 i) with
      | true =>
        refine Ev.iteT rfl (Ev.iteT (by omega) (Ev.iteT (by omega) ?_))
        rw [Int.toNat_natCast]
        exact Ev.bind n2 (Ev.bool (by simp))
      | false => exact Ev.iteF (by simp) (Ev.bool (by simp))
    · have hne : ¬ (b.toNat : Int) = 46 := fun h2 => h1 (by apply UInt8.toNat.inj; simp; omega)
      refine Ev.iteF hne ?_
      rw [wrapN (by omega)]
      have := ih (i + 1) ht (by omega)
      rw [indexByte_cons, if_neg h1]
      have hg := Lib.indexByte_ge t 46
      by_cases h2 : Lib.indexByte t 46 < 0
      · rw [if_pos h2]
        rw [show decide (0 ≤ Lib.indexByte t 46) = false from decide_eq_false (by omega)] at this
        simpa using this
      · rw [if_neg h2]
        have e1 : (Lib.indexByte t 46 + 1).toNat = (Lib.indexByte t 46).toNat + 1 := by omega
        rw [e1, show i + ((Lib.indexByte t 46).toNat + 1) = i + 1 + (Lib.indexByte t 46).toNat from by omega, show decide (0 ≤ Lib.indexByte t 46 + 1) = true from decide_eq_true (by omega)]
        rw [show decide (0 ≤ Lib.indexByte t 46) = true from decide_eq_true (by omega)] at this
        exact this
theorem validId_ev (s : ByteArray) (hs : s.size ≤ 4611686018427387903) : Ev (fun k => spec_validId.f k s) (idS s) := by
  have := validId_loop s hs _ 0 rfl (Nat.zero_le _)
  simp only [Nat.zero_add] at this
  exact this
/-- What a copy holds after i rounds. -/
def half {α β : Type} (f : α → β) (z : β) (l : List α) (i : Nat) : List β := (l.take i).map f ++ List.replicate (l.length - i) z
theorem half_zero {α β : Type} (f : α → β) (z : β) (l : List α) : half f z l 0 = List.replicate l.length z := by simp [half]
theorem half_full {α β : Type} (f : α → β) (z : β) (l : List α) : half f z l l.length = l.map f := by simp [half]
theorem half_length {α β : Type} (f : α → β) (z : β) (l : List α) (i : Nat) (h : i ≤ l.length) : (half f z l i).length = l.length := by
  simp [half]
  omega
theorem half_set {α β : Type} (f : α → β) (z : β) (l : List α) (i : Nat) (h : i < l.length) : (half f z l i).set i (f l[i]) = half f z l (i + 1) := by
  have e : l.length - i = (l.length - (i + 1)) + 1 := by omega
  have hl : ((l.take i).map f).length = i := by
    rw [List.length_map, List.length_take]
    omega
  unfold half
  rw [List.set_append_right _ _ (by omega), hl, Nat.sub_self, e, List.replicate_succ, List.set_cons_zero, List.take_succ_eq_append_getElem h, List.map_append, List.append_assoc]
  rfl
theorem rdLResult_nat (l : List S123) (i : Nat) (h : i < l.length) : rd_T123 l (i : Int) = l[i] := by
  unfold rd_T123
  exact getD_nat _ _ _ h
theorem rdIResult_nat (l : List S87) (i : Nat) (h : i < l.length) : rd_T87 l (i : Int) = l[i] := by
  unfold rd_T87
  exact getD_nat _ _ _ h
structure RawResult (q : S123) : Prop where
  r0 : q.f0.size ≤ maxLen
structure FewResult (q : S123) : Prop where
  r0 : q.f0.size ≤ 1048576
theorem szResult_ev (q : S123) (h : RawResult q) (left : Int) (h0 : 0 ≤ left) (h1 : left ≤ 1048576) :
    ∃ r, Ev (fun k => laws_szResult.f q.f0 q.f1 left) r ∧ r ≤ 1048576 ∧ (0 ≤ r → FewResult q) := by
  unfold laws_szResult.f
  have hm0 := h.r0
  unfold maxLen at hm0
  have ew0 : wrap64 (left - (q.f0.size : Int)) = (left - (q.f0.size : Int)) := wrapI (by omega)
  rw [ew0]
  by_cases c0 : (left - (q.f0.size : Int)) < 0
  · exact ⟨-1, Ev.iteT c0 (Ev.some_ rfl), by omega, fun h => by omega⟩
  exact ⟨(left - (q.f0.size : Int)), Ev.iteF c0 (Ev.some_ rfl), by omega, fun _ => ⟨by omega⟩⟩
structure FewResultS (l : List S123) : Prop where
  len : l.length ≤ 1048576
  one : ∀ q ∈ l, FewResult q
theorem szResultS_loop (l : List S123) (hl : l.length ≤ 1048576) (hz : ∀ q ∈ l, RawResult q) : ∀ (t : List S123) (i : Nat) (left : Int), l.drop i = t → i ≤ l.length → 0 ≤ left → left ≤ 1048576 →
    ∃ r, Ev (fun k => laws_szResultS.l0 k l left (i : Int)) r ∧ r ≤ 1048576 ∧ (0 ≤ r → ∀ q ∈ t, FewResult q) := by
  intro t
  induction t with
  | nil =>
    intro i left h hi h0 h1
    have hl2 := drop_nil h
    exact ⟨left, Ev.step (fun k => rfl) (Ev.iteF (by omega) (Ev.some_ rfl)), h1, fun _ q hq => by cases hq⟩
  | cons q t ih =>
    intro i left h hi h0 h1
    obtain ⟨hl2, hb, ht⟩ := drop_cons h
    have hq : RawResult q := hz q (hb ▸ List.getElem_mem hl2)
    obtain ⟨s, hs, hs2, hsf⟩ := szResult_ev q hq left h0 h1
    by_cases c : s < 0
    · refine ⟨-1, Ev.step (fun k => rfl) (Ev.iteT (by omega) (Ev.iteT (by omega) ?_)), by omega, fun h => by omega⟩
      rw [rdLResult_nat _ _ hl2, hb]
      exact Ev.bind hs (Ev.iteT c (Ev.some_ rfl))
    · obtain ⟨r, hr, h2, h3⟩ := ih (i + 1) s ht (by omega) (by omega) (by omega)
      refine ⟨r, Ev.step (fun k => rfl) (Ev.iteT (by omega) (Ev.iteT (by omega) ?_)), h2, fun h0 p hp => ?_⟩
      · rw [rdLResult_nat _ _ hl2, hb]
        refine Ev.bind hs (Ev.iteF c ?_)
        rw [wrapN (by omega)]
        exact hr
      · rcases List.mem_cons.1 hp with rfl | hp
        · exact hsf (by omega)
        · exact h3 h0 p hp
theorem szResultS_ev (l : List S123) (hl : l.length ≤ maxLen) (hz : ∀ q ∈ l, RawResult q) (left : Int) (h0 : 0 ≤ left) (h1 : left ≤ 1048576) :
    ∃ r, Ev (fun k => laws_szResultS.f k l left) r ∧ r ≤ 1048576 ∧ (0 ≤ r → FewResultS l) := by
  unfold maxLen at hl
  have ew : wrap64 (left - (l.length : Int)) = left - l.length := wrapI (by omega)
  unfold laws_szResultS.f
  rw [ew]
  by_cases c : left - l.length < 0
  · exact ⟨-1, Ev.iteT c (Ev.some_ rfl), by omega, fun h => by omega⟩
  · obtain ⟨r, hr, h2, h3⟩ := szResultS_loop l (by omega) hz l 0 (left - l.length) rfl (Nat.zero_le _) (by omega) (by omega)
    exact ⟨r, Ev.iteF c hr, h2, fun h => ⟨by omega, h3 h⟩⟩
def to_Result (q : S123) : S87 := ⟨q.f0, q.f1⟩
theorem toResult_ev (q : S123) (h : FewResult q) : Ev (fun k => laws_toResult.f q.f0 q.f1) (q.f0, q.f1) := by
  unfold laws_toResult.f
  exact Ev.some_ rfl
theorem toResultS_loop (l : List S123) (hl : FewResultS l) : ∀ (d i : Nat), i + d = l.length →
    Ev (fun k => laws_toResultS.l0 k l (half to_Result z87 l i) (i : Int)) (l.map to_Result) := by
  have hlen := hl.len
  intro d
  induction d with
  | zero =>
    intro i hd
    obtain rfl : i = l.length := by omega
    exact Ev.step (fun k => rfl) (Ev.iteF (by omega) (Ev.some_ (half_full _ _ _)))
  | succ d ih =>
    intro i hd
    have hi : i < l.length := by omega
    refine Ev.step (fun k => rfl) (Ev.iteT (by omega) (Ev.iteT (by omega) ?_))
    rw [rdLResult_nat _ _ hi]
    refine Ev.bind (toResult_ev l[i] (hl.one _ (List.getElem_mem hi))) (Ev.iteT (by rw [half_length _ _ _ _ (by omega)]; omega) ?_)
    rw [wrapN (by omega), Int.toNat_natCast]
    have := ih (i + 1) (by omega)
    rw [← half_set to_Result _ l i hi] at this
    exact this
theorem toResultS_ev (l : List S123) (hl : FewResultS l) : Ev (fun k => laws_toResultS.f k l) (l.map to_Result) := by
  have hlen := hl.len
  unfold laws_toResultS.f
  rw [Int.toNat_natCast]
  have := toResultS_loop l hl l.length 0 (by omega)
  rw [half_zero] at this
  exact Ev.iteT (by omega) (Ev.iteT (by omega) this)
structure SzResult (q : S87) : Prop where
  yes : True
theorem eqResult_ev (q : S87) (h : SzResult q) : Ev (fun k => laws_eqResult.f q.f0 q.f1 q.f0 q.f1) true := by
  unfold laws_eqResult.f
  exact Ev.iteT rfl (Ev.iteT rfl (Ev.some_ rfl))
theorem eqResultS_loop (l : List S87) (hl : l.length ≤ 4194304) (hz : ∀ q ∈ l, SzResult q) : ∀ (d i : Nat), i + d = l.length → Ev (fun k => laws_eqResultS.l0 k l l (i : Int)) true := by
  intro d
  induction d with
  | zero =>
    intro i hd
    exact Ev.step (fun k => rfl) (Ev.iteF (by omega) (Ev.some_ rfl))
  | succ d ih =>
    intro i hd
    have hi : i < l.length := by omega
    refine Ev.step (fun k => rfl) (Ev.iteT (by omega) (Ev.iteT (by omega) (Ev.iteT (by omega) ?_)))
    rw [rdIResult_nat _ _ hi]
    refine Ev.bind (eqResult_ev _ (hz _ (List.getElem_mem hi))) (Ev.iteT rfl ?_)
    rw [wrapN (by omega)]
    exact ih (i + 1) (by omega)
theorem eqResultS_ev (l : List S87) (hl : l.length ≤ 4194304) (hz : ∀ q ∈ l, SzResult q) : Ev (fun k => laws_eqResultS.f k l l) true := by
  unfold laws_eqResultS.f
  exact Ev.iteT rfl (eqResultS_loop l hl hz l.length 0 (by omega))
theorem FewResultS.small {l : List S123} (h : FewResultS l) : (l.map to_Result).length ≤ 1048576 ∧ ∀ q ∈ l.map to_Result, SzResult q := by
  refine ⟨by rw [List.length_map]; exact h.len, fun q hq => ?_⟩
  obtain ⟨p, hp, rfl⟩ := List.mem_map.1 hq
  have := h.one p hp
  exact ⟨trivial⟩
structure FewText (l : List ByteArray) : Prop where
  len : l.length ≤ 1048576
  ids : ∀ q ∈ l, q.size ≤ 1048576
theorem szStringS_loop (l : List ByteArray) (hl : l.length ≤ 1048576) (hz : ∀ q ∈ l, q.size ≤ maxLen) : ∀ (t : List ByteArray) (i : Nat) (left : Int), l.drop i = t → i ≤ l.length → 0 ≤ left → left ≤ 1048576 →
    ∃ r, Ev (fun k => laws_szStringS.l0 k l left (i : Int)) r ∧ r ≤ 1048576 ∧ (0 ≤ r → ∀ q ∈ t, q.size ≤ 1048576) := by
  intro t
  induction t with
  | nil =>
    intro i left h hi h0 h1
    have hl2 := drop_nil h
    exact ⟨left, Ev.step (fun k => rfl) (Ev.iteF (by omega) (Ev.some_ rfl)), h1, fun _ q hq => by cases hq⟩
  | cons q t ih =>
    intro i left h hi h0 h1
    obtain ⟨hl2, hb, ht⟩ := drop_cons h
    have hq : q.size ≤ maxLen := hz q (hb ▸ List.getElem_mem hl2)
    unfold maxLen at hq
    have ew : wrap64 (left - (q.size : Int)) = left - q.size := wrapI (by omega)
    by_cases c : left - q.size < 0
    · refine ⟨-1, Ev.step (fun k => rfl) (Ev.iteT (by omega) (Ev.iteT (by omega) ?_)), by omega, fun h => by omega⟩
      rw [rdOf_nat _ _ _ hl2, hb, ew]
      exact Ev.iteT c (Ev.some_ rfl)
    · obtain ⟨r, hr, h2, h3⟩ := ih (i + 1) (left - q.size) ht (by omega) (by omega) (by omega)
      refine ⟨r, Ev.step (fun k => rfl) (Ev.iteT (by omega) (Ev.iteT (by omega) ?_)), h2, fun h0 p hp => ?_⟩
      · rw [rdOf_nat _ _ _ hl2, hb, ew, wrapN (by omega)]
        exact Ev.iteF c hr
      · rcases List.mem_cons.1 hp with rfl | hp
        · omega
        · exact h3 h0 p hp
theorem szStringS_ev (l : List ByteArray) (hl : l.length ≤ maxLen) (hz : ∀ q ∈ l, q.size ≤ maxLen) (left : Int) (h0 : 0 ≤ left) (h1 : left ≤ 1048576) :
    ∃ r, Ev (fun k => laws_szStringS.f k l left) r ∧ r ≤ 1048576 ∧ (0 ≤ r → FewText l) := by
  unfold maxLen at hl
  have ew : wrap64 (left - (l.length : Int)) = left - l.length := wrapI (by omega)
  unfold laws_szStringS.f
  rw [ew]
  by_cases c : left - l.length < 0
  · exact ⟨-1, Ev.iteT c (Ev.some_ rfl), by omega, fun h => by omega⟩
  · obtain ⟨r, hr, h2, h3⟩ := szStringS_loop l (by omega) hz l 0 (left - l.length) rfl (Nat.zero_le _) (by omega) (by omega)
    exact ⟨r, Ev.iteF c hr, h2, fun h => ⟨by omega, h3 h⟩⟩
theorem toStringS_loop (l : List ByteArray) (hl : l.length ≤ 1048576) : ∀ (d i : Nat), i + d = l.length →
    Ev (fun k => laws_toStringS.l0 k l (half id (⟨#[]⟩ : ByteArray) l i) (i : Int)) l := by
  intro d
  induction d with
  | zero =>
    intro i hd
    obtain rfl : i = l.length := by omega
    exact Ev.step (fun k => rfl) (Ev.iteF (by omega) (Ev.some_ (by rw [half_full]; simp)))
  | succ d ih =>
    intro i hd
    have hi : i < l.length := by omega
    refine Ev.step (fun k => rfl) (Ev.iteT (by omega) (Ev.iteT (by omega) ?_))
    rw [rdOf_nat _ _ _ hi]
    refine Ev.iteT (by rw [half_length _ _ _ _ (by omega)]; omega) ?_
    rw [wrapN (by omega), Int.toNat_natCast]
    have := ih (i + 1) (by omega)
    rw [← half_set id _ l i hi] at this
    exact this
theorem toStringS_ev (l : List ByteArray) (hl : l.length ≤ 1048576) : Ev (fun k => laws_toStringS.f k l) l := by
  unfold laws_toStringS.f
  rw [Int.toNat_natCast]
  have := toStringS_loop l hl l.length 0 (by omega)
  rw [half_zero] at this
  exact Ev.iteT (by omega) (Ev.iteT (by omega) this)
theorem eqStringS_loop (l : List ByteArray) (hl : l.length ≤ 4611686018427387903) : ∀ (d i : Nat), i + d = l.length → Ev (fun k => laws_eqStringS.l0 k l l (i : Int)) true := by
  intro d
  induction d with
  | zero =>
    intro i hd
    exact Ev.step (fun k => rfl) (Ev.iteF (by omega) (Ev.some_ rfl))
  | succ d ih =>
    intro i hd
    refine Ev.step (fun k => rfl) (Ev.iteT (by omega) (Ev.iteT (by omega) (Ev.iteT (by omega) (Ev.iteT rfl ?_))))
    rw [wrapN (by omega)]
    exact ih (i + 1) (by omega)
theorem eqStringS_ev (l : List ByteArray) (hl : l.length ≤ 4611686018427387903) : Ev (fun k => laws_eqStringS.f k l l) true := by
  unfold laws_eqStringS.f
  exact Ev.iteT rfl (eqStringS_loop l hl l.length 0 (by omega))
/-- What a builder's write gives. -/
theorem ws_eq {x s : ByteArray} (h : x.size + s.size ≤ 140737488355328) : impl_WS.f x s = some (x ++ s) := if_pos h
theorem cat_assoc (a b c : ByteArray) : (a ++ b) ++ c = a ++ (b ++ c) := ByteArray.append_assoc
def ocWord (n : Int) : ByteArray := if n = 0 then ⟨#[112, 97, 115, 115]⟩ else if n = 1 then ⟨#[102, 97, 105, 108]⟩ else if n = 2 then ⟨#[101, 114, 114, 111, 114]⟩ else if n = 3 then ⟨#[115, 107, 105, 112]⟩ else if n = 4 then ⟨#[120, 102, 97, 105, 108]⟩ else ⟨#[120, 112, 97, 115, 115]⟩
def ocWords : List ByteArray := [⟨#[112, 97, 115, 115]⟩, ⟨#[102, 97, 105, 108]⟩, ⟨#[101, 114, 114, 111, 114]⟩, ⟨#[115, 107, 105, 112]⟩, ⟨#[120, 102, 97, 105, 108]⟩, ⟨#[120, 112, 97, 115, 115]⟩]
theorem ocWord_size (n : Int) : (ocWord n).size ≤ 5 := by
  unfold ocWord
  repeat (split; · decide)
  decide
theorem ocWords_at (n : Int) (h : 0 ≤ n ∧ n ≤ 5) : rdOf ByteArray.empty ocWords n = ocWord n := by
  rcases (show n = 0 ∨ n = 1 ∨ n = 2 ∨ n = 3 ∨ n = 4 ∨ n = 5 by omega) with rfl | rfl | rfl | rfl | rfl | rfl <;> rfl
def resOk (e : S87) : Bool := idS e.f0 && decide (0 ≤ e.f1 ∧ e.f1 ≤ 5)
def resText (e : S87) : ByteArray := ocWord e.f1 ++ (⟨#[32]⟩ ++ (e.f0 ++ ⟨#[10]⟩))
def downText (x : ByteArray) : ByteArray := ⟨#[100, 111, 119, 110]⟩ ++ (⟨#[32]⟩ ++ (x ++ ⟨#[10]⟩))
def resGo : ByteArray → List S87 → ByteArray
  | acc, [] => acc
  | acc, e :: t => resGo (acc ++ resText e) t
def downGo : ByteArray → List ByteArray → ByteArray
  | acc, [] => acc
  | acc, e :: t => downGo (acc ++ downText e) t
def repOk (a : List S87) (b : List ByteArray) : Bool := a.all resOk && b.all nameS
def repT (a : List S87) (b : List ByteArray) : ByteArray := if repOk a b = true then downGo (resGo ⟨#[]⟩ a) b else ⟨#[]⟩
theorem resText_size (e : S87) : (resText e).size ≤ e.f0.size + 7 := by
  have := ocWord_size e.f1
  unfold resText
  rw [ByteArray.size_append, ByteArray.size_append, ByteArray.size_append]
  have e1 : (⟨#[32]⟩ : ByteArray).size = 1 := rfl
  have e2 : (⟨#[10]⟩ : ByteArray).size = 1 := rfl
  omega
theorem downText_size (x : ByteArray) : (downText x).size ≤ x.size + 6 := by
  unfold downText
  rw [ByteArray.size_append, ByteArray.size_append, ByteArray.size_append]
  have e0 : (⟨#[100, 111, 119, 110]⟩ : ByteArray).size = 4 := rfl
  have e1 : (⟨#[32]⟩ : ByteArray).size = 1 := rfl
  have e2 : (⟨#[10]⟩ : ByteArray).size = 1 := rfl
  omega
structure RepSizes (a : List S87) (b : List ByteArray) : Prop where
  len : a.length ≤ 1048576
  one : ∀ e ∈ a, e.f0.size ≤ 4194304
  lend : b.length ≤ 1048576
  oned : ∀ e ∈ b, e.size ≤ 4194304
theorem implRep_l1 (b : List ByteArray) (h1 : b.length ≤ 1048576) (h2 : ∀ e ∈ b, e.size ≤ 4194304) : ∀ (t : List ByteArray) (i : Nat) (acc : ByteArray), b.drop i = t → i ≤ b.length → acc.size ≤ (1048576 + i) * 4194400 →
    Ev (fun k => impl_ReportText.l1 k acc b (b.length : Int) (i : Int)) (if t.all nameS = true then downGo acc t else ⟨#[]⟩) := by
  intro t
  induction t with
  | nil =>
    intro i acc hd hi ha
    have hl2 := drop_nil hd
    exact Ev.step (fun k => rfl) (Ev.iteF (by omega) (Ev.bind0 rfl (Ev.some_ rfl)))
  | cons e t ih =>
    intro i acc hd hi ha
    obtain ⟨hl2, hb, ht⟩ := drop_cons hd
    have hs : e.size ≤ 4194304 := h2 e (hb ▸ List.getElem_mem hl2)
    have hts := downText_size e
    have hmul : (1048576 + i) * 4194400 ≤ 2097152 * 4194400 := by omega
    refine Ev.step (fun k => rfl) (Ev.iteT (by omega) (Ev.iteT (by omega) (Ev.iteT (by omega) ?_)))
    rw [rdOf_nat _ _ _ hl2, hb]
    refine Ev.bind (nameOk_ev e (by omega)) ?_
    rw [List.all_cons]
    by_cases c : nameS e = true
    · rw [c, Bool.true_and]
      have e4 : (⟨#[100, 111, 119, 110, 32]⟩ : ByteArray).size = 5 := rfl
      have e2 : (⟨#[10]⟩ : ByteArray).size = 1 := rfl
      have line : ((⟨#[100, 111, 119, 110, 32]⟩ : ByteArray) ++ e) ++ (⟨#[10]⟩ : ByteArray) = downText e := by
        rw [show (⟨#[100, 111, 119, 110, 32]⟩ : ByteArray) = (⟨#[100, 111, 119, 110]⟩ : ByteArray) ++ ⟨#[32]⟩ from by decide, cat_assoc, cat_assoc]
        rfl
      refine Ev.iteT rfl (Ev.iteT (by omega) (Ev.iteT (by omega) ?_))
      rw [line]
      refine Ev.bind0 (ws_eq (by omega)) ?_
      rw [wrapN (by omega)]
      exact ih (i + 1) _ ht (by omega) (by rw [ByteArray.size_append]; omega)
    · rw [Bool.eq_false_iff.2 c, Bool.false_and]
      exact Ev.iteF (by decide) (Ev.some_ rfl)
theorem implRep_l0 (a : List S87) (b : List ByteArray) (h : RepSizes a b) : ∀ (t : List S87) (i : Nat) (acc : ByteArray), a.drop i = t → i ≤ a.length → acc.size ≤ i * 4194400 →
    Ev (fun k => impl_ReportText.l0 k acc a (a.length : Int) (i : Int) a b) (if t.all resOk && b.all nameS then downGo (resGo acc t) b else ⟨#[]⟩) := by
  intro t
  have hlen := h.len
  induction t with
  | nil =>
    intro i acc hd hi ha
    have hl2 := drop_nil hd
    refine Ev.step (fun k => rfl) (Ev.iteF (by omega) ?_)
    have hm : acc.size ≤ 4398147174400 := by omega
    have hm2 : acc.size ≤ (1048576 + 0) * 4194400 := hm
    have := implRep_l1 b h.lend h.oned b 0 acc rfl (Nat.zero_le _) hm2
    rw [List.all_nil, Bool.true_and]
    exact this
  | cons e t ih =>
    intro i acc hd hi ha
    obtain ⟨hl2, hb, ht⟩ := drop_cons hd
    have hs : e.f0.size ≤ 4194304 := h.one e (hb ▸ List.getElem_mem hl2)
    have hts := resText_size e
    have hw := ocWord_size e.f1
    have hmul : i * 4194400 ≤ 1048576 * 4194400 := by omega
    refine Ev.step (fun k => rfl) (Ev.iteT (by omega) (Ev.iteT (by omega) (Ev.iteT (by omega) ?_)))
    rw [rdIResult_nat _ _ hl2, hb]
    refine Ev.bind (idOk_ev e.f0 (by omega)) ?_
    rw [List.all_cons]
    generalize hres : (if (resOk e && t.all resOk) && b.all nameS then downGo (resGo acc (e :: t)) b else ⟨#[]⟩) = res
    have j1 : ∀ x, x = (!resOk e) → Ev (fun k => impl_ReportText.j1 k acc a (a.length : Int) (i : Int) x a b e.f0 e.f1) res := by
      intro x hx
      by_cases c : resOk e = true
      · rw [c] at hx hres
        rw [Bool.true_and] at hres
        have hx2 : ¬ x = true := by rw [hx]; decide
        have hk : 0 ≤ e.f1 ∧ e.f1 ≤ 5 := by
          unfold resOk at c
          rw [Bool.and_eq_true] at c
          exact of_decide_eq_true c.2
        have e1 : (⟨#[32]⟩ : ByteArray).size = 1 := rfl
        have e2 : (⟨#[10]⟩ : ByteArray).size = 1 := rfl
        refine Ev.step (fun k => rfl) (Ev.iteF hx2 (Ev.bind0 (show impl_outcomeWords.f = some ocWords from rfl) (Ev.iteT (by omega) (Ev.iteT (by have : ocWords.length = 6 := rfl; omega) ?_))))
        rw [ocWords_at _ hk]
        refine Ev.iteT (by omega) (Ev.iteT (by omega) (Ev.iteT (by omega) ?_))
        have line : ((ocWord e.f1 ++ (⟨#[32]⟩ : ByteArray)) ++ e.f0) ++ (⟨#[10]⟩ : ByteArray) = resText e := by
          rw [cat_assoc, cat_assoc]
          rfl
        rw [line]
        refine Ev.bind0 (ws_eq (by omega)) ?_
        rw [wrapN (by omega), ← hres]
        exact ih (i + 1) _ ht (by omega) (by rw [ByteArray.size_append]; omega)
      · rw [Bool.eq_false_iff.2 c] at hx hres
        exact Ev.step (fun k => rfl) (Ev.iteT hx (Ev.some_ (by simpa using hres)))
    by_cases ci : idS e.f0 = true
    · refine Ev.iteT ci ?_
      by_cases c0 : e.f1 < 0
      · refine Ev.iteT c0 (j1 true ?_)
        unfold resOk
        rw [decide_eq_false (by omega)]
        simp
      · refine Ev.iteF c0 (j1 _ ?_)
        unfold resOk
        rw [ci, Bool.true_and]
        by_cases c5 : e.f1 > 5
        · rw [decide_eq_true c5, decide_eq_false (by omega)]
          rfl
        · rw [decide_eq_false c5, decide_eq_true (by omega)]
          rfl
    · refine Ev.iteF ci (j1 true ?_)
      unfold resOk
      rw [Bool.eq_false_iff.2 ci]
      rfl
theorem implRep_ev (a : List S87) (b : List ByteArray) (h : RepSizes a b) : Ev (fun k => impl_ReportText.f k a b) (repT a b) :=
  implRep_l0 a b h a 0 ⟨#[]⟩ rfl (Nat.zero_le _) (Nat.le_refl _)
theorem validRep_l1 (a : List S87) (b : List ByteArray) (h1 : b.length ≤ 1048576) (h2 : ∀ e ∈ b, e.size ≤ 4194304) : ∀ (t : List ByteArray) (i : Nat), b.drop i = t → i ≤ b.length →
    Ev (fun k => spec_validReport.l1 k (i : Int) a b) (t.all nameS) := by
  intro t
  induction t with
  | nil =>
    intro i hd hi
    have hl2 := drop_nil hd
    exact Ev.step (fun k => rfl) (Ev.iteF (by omega) (Ev.some_ rfl))
  | cons e t ih =>
    intro i hd hi
    obtain ⟨hl2, hb, ht⟩ := drop_cons hd
    have hs : e.size ≤ 4194304 := h2 e (hb ▸ List.getElem_mem hl2)
    refine Ev.step (fun k => rfl) (Ev.iteT (by omega) (Ev.iteT (by omega) ?_))
    rw [rdOf_nat _ _ _ hl2, hb]
    refine Ev.bind (validName_ev e (by omega)) ?_
    rw [List.all_cons, wrapN (by omega)]
    by_cases c : nameS e = true
    · rw [c, Bool.true_and]
      exact Ev.iteT rfl (ih (i + 1) ht (by omega))
    · rw [Bool.eq_false_iff.2 c, Bool.false_and]
      exact Ev.iteF (by decide) (Ev.some_ rfl)
theorem validRep_l0 (a : List S87) (b : List ByteArray) (h : RepSizes a b) : ∀ (t : List S87) (i : Nat), a.drop i = t → i ≤ a.length →
    Ev (fun k => spec_validReport.l0 k (i : Int) a b) (t.all resOk && b.all nameS) := by
  intro t
  have hlen := h.len
  induction t with
  | nil =>
    intro i hd hi
    have hl2 := drop_nil hd
    refine Ev.step (fun k => rfl) (Ev.iteF (by omega) ?_)
    have := validRep_l1 a b h.lend h.oned b 0 rfl (Nat.zero_le _)
    simpa using this
  | cons e t ih =>
    intro i hd hi
    obtain ⟨hl2, hb, ht⟩ := drop_cons hd
    have hs : e.f0.size ≤ 4194304 := h.one e (hb ▸ List.getElem_mem hl2)
    refine Ev.step (fun k => rfl) (Ev.iteT (by omega) (Ev.iteT (by omega) ?_))
    rw [rdIResult_nat _ _ hl2, hb]
    refine Ev.bind (validId_ev e.f0 (by omega)) ?_
    rw [List.all_cons, wrapN (by omega)]
    by_cases ci : idS e.f0 = true
    · refine Ev.iteT ci (Ev.bind0 (inRange_ev _ _ _) ?_)
      by_cases c : 0 ≤ e.f1 ∧ e.f1 ≤ 5
      · have hr : resOk e = true := by
          unfold resOk
          rw [ci, decide_eq_true c]
          rfl
        rw [hr, Bool.true_and]
        exact Ev.iteT (decide_eq_true c) (ih (i + 1) ht (by omega))
      · have hr : resOk e = false := by
          unfold resOk
          rw [ci, decide_eq_false c]
          rfl
        rw [hr, Bool.false_and, Bool.false_and]
        exact Ev.iteF (by rw [decide_eq_false c]; decide) (Ev.some_ rfl)
    · have hr : resOk e = false := by
        unfold resOk
        rw [Bool.eq_false_iff.2 ci]
        rfl
      rw [hr, Bool.false_and, Bool.false_and]
      exact Ev.iteF ci (Ev.some_ rfl)
theorem specRep_l1 (a : List S87) (b : List ByteArray) (h1 : b.length ≤ 1048576) (h2 : ∀ e ∈ b, e.size ≤ 4194304) : ∀ (t : List ByteArray) (i : Nat) (acc : ByteArray), b.drop i = t → i ≤ b.length → acc.size ≤ (1048576 + i) * 4194400 →
    Ev (fun k => spec_ReportText.l1 k acc (i : Int) a b) (downGo acc t) := by
  intro t
  induction t with
  | nil =>
    intro i acc hd hi ha
    have hl2 := drop_nil hd
    exact Ev.step (fun k => rfl) (Ev.iteF (by omega) (Ev.some_ rfl))
  | cons e t ih =>
    intro i acc hd hi ha
    obtain ⟨hl2, hb, ht⟩ := drop_cons hd
    have hs : e.size ≤ 4194304 := h2 e (hb ▸ List.getElem_mem hl2)
    have hts := downText_size e
    have hmul : (1048576 + i) * 4194400 ≤ 2097152 * 4194400 := by omega
    refine Ev.step (fun k => rfl) (Ev.iteT (by omega) (Ev.iteT (by omega) (Ev.iteT (by omega) ?_)))
    rw [rdOf_nat _ _ _ hl2, hb]
    refine Ev.iteT (by omega) (Ev.iteT (by omega) ?_)
    have line : ((acc ++ (⟨#[100, 111, 119, 110, 32]⟩ : ByteArray)) ++ e) ++ (⟨#[10]⟩ : ByteArray) = acc ++ downText e := by
      rw [show (⟨#[100, 111, 119, 110, 32]⟩ : ByteArray) = (⟨#[100, 111, 119, 110]⟩ : ByteArray) ++ ⟨#[32]⟩ from by decide, cat_assoc, cat_assoc, cat_assoc]
      rfl
    rw [line, wrapN (by omega)]
    exact ih (i + 1) _ ht (by omega) (by rw [ByteArray.size_append]; omega)
theorem specRep_l0 (a : List S87) (b : List ByteArray) (h : RepSizes a b) : ∀ (t : List S87) (i : Nat) (acc : ByteArray), a.drop i = t → i ≤ a.length → acc.size ≤ i * 4194400 → t.all resOk = true →
    Ev (fun k => spec_ReportText.l0 k acc (i : Int) a b) (downGo (resGo acc t) b) := by
  intro t
  have hlen := h.len
  induction t with
  | nil =>
    intro i acc hd hi ha _
    have hl2 := drop_nil hd
    refine Ev.step (fun k => rfl) (Ev.iteF (by omega) ?_)
    have hm : acc.size ≤ 4398147174400 := by omega
    have hm2 : acc.size ≤ (1048576 + 0) * 4194400 := hm
    exact specRep_l1 a b h.lend h.oned b 0 acc rfl (Nat.zero_le _) hm2
  | cons e t ih =>
    intro i acc hd hi ha hall
    obtain ⟨hl2, hb, ht⟩ := drop_cons hd
    rw [List.all_cons, Bool.and_eq_true] at hall
    have hs : e.f0.size ≤ 4194304 := h.one e (hb ▸ List.getElem_mem hl2)
    have hts := resText_size e
    have hw := ocWord_size e.f1
    have hmul : i * 4194400 ≤ 1048576 * 4194400 := by omega
    have hk : 0 ≤ e.f1 ∧ e.f1 ≤ 5 := by
      have c := hall.1
      unfold resOk at c
      rw [Bool.and_eq_true] at c
      exact of_decide_eq_true c.2
    refine Ev.step (fun k => rfl) (Ev.iteT (by omega) (Ev.bind0 (show spec_outcomeWords.f = some ocWords from rfl) (Ev.iteT (by omega) ?_)))
    rw [rdIResult_nat _ _ hl2, hb]
    refine Ev.iteT (by omega) (Ev.iteT (by have : ocWords.length = 6 := rfl; omega) ?_)
    rw [ocWords_at _ hk]
    refine Ev.iteT (by omega) (Ev.iteT (by omega) (Ev.iteT (by omega) (Ev.iteT (by omega) ?_)))
    rw [cat_assoc, cat_assoc, cat_assoc, wrapN (by omega)]
    exact ih (i + 1) (acc ++ resText e) ht (by omega) (by rw [ByteArray.size_append]; omega) hall.2
theorem specRep_ev (a : List S87) (b : List ByteArray) (h : RepSizes a b) : Ev (fun k => spec_ReportText.f k a b) (repT a b) := by
  unfold spec_ReportText.f spec_validReport.f repT
  refine Ev.bind (validRep_l0 a b h a 0 rfl (Nat.zero_le _)) ?_
  by_cases c : repOk a b = true
  · rw [if_pos c]
    refine Ev.iteT c (specRep_l0 a b h a 0 ⟨#[]⟩ rfl (Nat.zero_le _) (Nat.le_refl _) ?_)
    unfold repOk at c
    rw [Bool.and_eq_true] at c
    exact c.1
  · rw [if_neg c]
    exact Ev.iteF c (Ev.some_ rfl)
end Go.Proofs.Ytieghkchhjailaa.P
