/- Plain laws, without Go, that the law FnExactIsLeast leans on. No condition. -/
import Derived.Test.YtlnaejkbanpcjaaLx0
import Derived.Test.YtlnaejkbanpcjaaLx1
import Derived.Test.YtlnaejkbanpcjaaLx2
import Derived.Test.YtlnaejkbanpcjaaLx3
import Derived.Test.YtlnaejkbanpcjaaLx4
import Derived.Test.YtlnaejkbanpcjaaLx5
import Derived.Test.YtlnaejkbanpcjaaLx6
import Derived.Test.YtlnaejkbanpcjaaLx7
import Derived.Test.YtlnaejkbanpcjaaWMore
import Derived.IntWalk
import Derived.Lib.Bytealg
import Derived.Lib.Strings
set_option linter.unusedSimpArgs false
set_option linter.unusedVariables false
namespace Go.Proofs.Ytlnaejkbanpcjaa.L
open Go.RowKit Go.Proofs.YtlnaejkbanpcjaaW.PrintWords Go.Proofs.YtlnaejkbanpcjaaW.PrintLast Go.Proofs.YtlnaejkbanpcjaaW.PrintMore
theorem Ev.iteT {α : Type} {c : Prop} [Decidable c] {g f : Nat → Option α} {r : α} (h : c) (k : Ev g r) : Ev (fun n => if c then g n else f n) r := by
  simpa only [if_pos h] using k
theorem Ev.iteF {α : Type} {c : Prop} [Decidable c] {g f : Nat → Option α} {r : α} (h : ¬ c) (k : Ev f r) : Ev (fun n => if c then g n else f n) r := by
  simpa only [if_neg h] using k
/-- A callee without rounds. -/
theorem Ev.bind0 {α β : Type} {g : Option α} {f : Nat → α → Option β} {a : α} {r : β} (h : g = some a) (k : Ev (fun n => f n a) r) : Ev (fun n => g.bind (f n)) r := by
  subst h
  simpa only [Option.bind_some] using k
theorem Ev.some_ {α : Type} {x r : α} (h : x = r) : Ev (fun _ => some x) r := ⟨0, fun _ _ => by rw [h]⟩
theorem Ev.bool {b r : Bool} (h : b = r) : Ev (fun _ => some b) r := Ev.some_ h
theorem wrapN {i : Nat} (h : i < 4611686018427387904) : wrap64 ((i : Int) + 1) = ((i + 1 : Nat) : Int) := by
  unfold wrap64
  omega
theorem wrapI {x : Int} (h : -9223372036854775808 ≤ x ∧ x ≤ 9223372036854775807) : wrap64 x = x := by
  unfold wrap64
  omega
theorem rdOf_nat {α : Type} (d : α) (l : List α) (i : Nat) (h : i < l.length) : rdOf d l (i : Int) = l[i] := by
  simp [rdOf, List.getD_eq_getElem?_getD, List.getElem?_eq_getElem h]
theorem getD_nat {α : Type} (d : α) (l : List α) (i : Nat) (h : i < l.length) : l.getD (i : Int).toNat d = l[i] := by
  simp [List.getD_eq_getElem?_getD, List.getElem?_eq_getElem h]
theorem size_list (s : ByteArray) : s.data.toList.length = s.size := by rw [Array.length_toList]; rfl
theorem bt_nat (s : ByteArray) (i : Nat) (h : i < s.data.toList.length) : bt s (i : Int) = ((s.data.toList[i]).toNat : Int) := by
  have h' : i < s.size := by rw [← size_list]; exact h
  unfold bt
  rw [dif_pos (by simpa using h')]
  rfl
/-- A list seen from place i on. -/
theorem drop_cons {α : Type} {l : List α} {i : Nat} {b : α} {t : List α} (h : l.drop i = b :: t) : ∃ hi : i < l.length, l[i] = b ∧ l.drop (i + 1) = t := by
  have hi : i < l.length := by
    rcases Nat.lt_or_ge i l.length with h1 | h1
    · exact h1
    · rw [List.drop_of_length_le h1] at h
      cases h
  refine ⟨hi, ?_, ?_⟩
  · rw [List.drop_eq_getElem_cons hi] at h
    exact (List.cons.inj h).1
  · rw [List.drop_eq_getElem_cons hi] at h
    exact (List.cons.inj h).2
theorem drop_nil {α : Type} {l : List α} {i : Nat} (h : l.drop i = []) : l.length ≤ i := by
  have := congrArg List.length h
  rw [List.length_drop] at this
  simpa using Nat.sub_eq_zero_iff_le.1 this
theorem toList_inj {a b : ByteArray} (h : a.toList = b.toList) : a = b := by
  rw [Lib.toList_data, Lib.toList_data] at h
  cases a with
  | mk x => cases b with
    | mk y =>
      have : x = y := Array.ext' h
      rw [this]
theorem toList_iff {a b : ByteArray} : a.toList = b.toList ↔ a = b := ⟨toList_inj, fun h => by rw [h]⟩
def lowB (b : UInt8) : Bool := decide (97 ≤ (b.toNat : Int)) && decide ((b.toNat : Int) ≤ 122)
/-- What is asked of a name behind its letters. -/
def nameEnd (s : ByteArray) : Bool := decide (1 ≤ s.size) && (decide (s.size ≤ 6) && (s.toList != ([97, 110, 100] : List UInt8) && (s.toList != ([111, 114] : List UInt8) && s.toList != ([110, 111, 116] : List UInt8))))
def nameS (s : ByteArray) : Bool := s.data.toList.all lowB && nameEnd s
theorem nameOk_loop (s : ByteArray) (hs : s.size ≤ 4611686018427387903) : ∀ (t : List UInt8) (i : Nat), s.data.toList.drop i = t → i ≤ s.size →
    Ev (fun k => impl_nameOk.l0 k s (s.size : Int) (i : Int)) (t.all lowB && nameEnd s) := by
  intro t
  induction t with
  | nil =>
    intro i h hi
    have hl := drop_nil h
    rw [size_list] at hl
    refine Ev.step (fun k => rfl) (Ev.iteF (by omega) ?_)
    simp only [List.all_nil, Bool.true_and]
    unfold nameEnd
    by_cases h1 : 1 ≤ s.size
    · refine Ev.iteT (by omega) ?_
      by_cases h2 : s.size ≤ 6
      · refine Ev.iteT (by omega) ?_
        by_cases h3 : s.toList = ([97, 110, 100] : List UInt8)
        · exact Ev.iteT h3 (Ev.bool (by simp [h3]))
        · refine Ev.iteF h3 ?_
          by_cases h4 : s.toList = ([111, 114] : List UInt8)
          · exact Ev.iteT h4 (Ev.bool (by simp [h4]))
          · exact Ev.iteF h4 (Ev.bool (by simp [h1, h2, bne_iff_ne.2 h3, bne_iff_ne.2 h4]))
      · exact Ev.iteF (by omega) (Ev.bool (by simp [h2]))
    · exact Ev.iteF (by omega) (Ev.bool (by simp [h1]))
  | cons b t ih =>
    intro i h hi
    obtain ⟨hl, hb, ht⟩ := drop_cons h
    have hl' := hl
    rw [size_list] at hl'
    refine Ev.step (fun k => rfl) (Ev.iteT (by omega) (Ev.iteT (by omega) (Ev.iteT (by omega) ?_)))
    rw [bt_nat s i hl, hb]
    by_cases h1 : (b.toNat : Int) < 97
    · exact Ev.iteT h1 (Ev.bool (by simp [lowB]; omega))
    · refine Ev.iteF h1 ?_
      by_cases h2 : (b.toNat : Int) > 122
      · exact Ev.iteT h2 (Ev.bool (by simp [lowB]; omega))
      · refine Ev.iteF h2 ?_
        rw [wrapN (by omega)]
        have := ih (i + 1) ht (by omega)
        have e : lowB b = true := by simp [lowB]; omega
        simpa [List.all_cons, e] using this
theorem nameOk_ev (s : ByteArray) (hs : s.size ≤ 4611686018427387903) : Ev (fun k => impl_nameOk.f k s) (nameS s) :=
  nameOk_loop s hs _ 0 rfl (Nat.zero_le _)
theorem inRange_ev (a b c : Int) : spec_inRange.f a b c = some (decide (b ≤ a ∧ a ≤ c)) := by
  unfold spec_inRange.f
  by_cases h : b ≤ a
  · rw [if_pos h]
    simp [h]
  · rw [if_neg h]
    simp [h]
theorem validName_loop (s : ByteArray) (hs : s.size ≤ 4611686018427387903) : ∀ (t : List UInt8) (i : Nat), s.data.toList.drop i = t → i ≤ s.size →
    Ev (fun k => spec_validName.l0 k s (i : Int)) (t.all lowB && nameEnd s) := by
  intro t
  induction t with
  | nil =>
    intro i h hi
    have hl := drop_nil h
    rw [size_list] at hl
    refine Ev.step (fun k => rfl) (Ev.iteF (by omega) (Ev.bind0 (inRange_ev _ _ _) ?_))
    simp only [List.all_nil, Bool.true_and]
    unfold nameEnd
    by_cases h1 : 1 ≤ s.size
    · by_cases h2 : s.size ≤ 6
      · refine Ev.iteT (by simp; omega) ?_
        by_cases h3 : s.toList = ([97, 110, 100] : List UInt8)
        · exact Ev.iteT h3 (Ev.bool (by simp [h3]))
        · refine Ev.iteF h3 ?_
          by_cases h4 : s.toList = ([111, 114] : List UInt8)
          · exact Ev.iteT h4 (Ev.bool (by simp [h4]))
          · exact Ev.iteF h4 (Ev.bool (by simp [h1, h2, bne_iff_ne.2 h3, bne_iff_ne.2 h4]))
      · exact Ev.iteF (by simp; omega) (Ev.bool (by simp [h2]))
    · exact Ev.iteF (by simp; omega) (Ev.bool (by simp [h1]))
  | cons b t ih =>
    intro i h hi
    obtain ⟨hl, hb, ht⟩ := drop_cons h
    have hl' := hl
    rw [size_list] at hl'
    refine Ev.step (fun k => rfl) (Ev.iteT (by omega) (Ev.iteT (by omega) ?_))
    rw [bt_nat s i hl, hb]
    by_cases h1 : (b.toNat : Int) < 97
    · exact Ev.iteT h1 (Ev.bool (by simp [lowB]; omega))
    · refine Ev.iteF h1 ?_
      by_cases h2 : (b.toNat : Int) > 122
      · exact Ev.iteT h2 (Ev.bool (by simp [lowB]; omega))
      · refine Ev.iteF h2 ?_
        rw [wrapN (by omega)]
        have := ih (i + 1) ht (by omega)
        have e : lowB b = true := by simp [lowB]; omega
        simpa [List.all_cons, e] using this
theorem validName_ev (s : ByteArray) (hs : s.size ≤ 4611686018427387903) : Ev (fun k => spec_validName.f k s) (nameS s) :=
  validName_loop s hs _ 0 rfl (Nat.zero_le _)
theorem extract_size_le (s : ByteArray) (a b : Nat) : (s.extract a b).size ≤ s.size := by
  rw [ByteArray.size_extract]
  omega
theorem indexByte_cons (b : UInt8) (l : List UInt8) (c : UInt8) : Lib.indexByte (b :: l) c = if b = c then 0 else if Lib.indexByte l c < 0 then -1 else Lib.indexByte l c + 1 := by
  have hg := Lib.indexByte_ge l c
  rw [Lib.indexByte]
  by_cases h : b = c
  · simp [h]
  · have h1 : (b == c) = false := by simpa using h
    rw [h1, if_neg h]
    simp only [Bool.false_eq_true, if_false]
    by_cases h2 : Lib.indexByte l c = -1
    · rw [h2]
      simp
    · have h3 : (Lib.indexByte l c == -1) = false := by simpa using h2
      have h4 : ¬ Lib.indexByte l c < 0 := by omega
      rw [h3, if_neg h4]
      simp
theorem indexByte_lt (l : List UInt8) (c : UInt8) : Lib.indexByte l c < l.length := by
  induction l with
  | nil => simp [Lib.indexByte]
  | cons b l ih =>
    rw [indexByte_cons]
    have hg := Lib.indexByte_ge l c
    simp only [List.length_cons]
    split
    · omega
    · split <;> omega
/-- Where the first point stands, and whether both sides of it are names. -/
def idS (s : ByteArray) : Bool := decide (0 ≤ Lib.indexByte s.data.toList 46) && (nameS (s.extract 0 (Lib.indexByte s.data.toList 46).toNat) && nameS (s.extract ((Lib.indexByte s.data.toList 46).toNat + 1) s.size))
theorem stringsCut_at (s : ByteArray) (c : UInt8) (hs : s.size ≤ 4611686018427387903) :
    strings_Cut.f s ⟨#[c]⟩ = some (if 0 ≤ Lib.indexByte s.data.toList c then (s.extract 0 (Lib.indexByte s.data.toList c).toNat, s.extract ((Lib.indexByte s.data.toList c).toNat + 1) s.size, true) else (s, ⟨#[]⟩, false)) := by
  have hg := Lib.indexByte_ge s.data.toList c
  have hl := indexByte_lt s.data.toList c
  rw [size_list] at hl
  have e1 : (⟨#[c]⟩ : ByteArray).size = 1 := rfl
  have e : stringslite_Index.f s ⟨#[c]⟩ = some (Lib.indexByte s.data.toList c) := rfl
  unfold strings_Cut.f stringslite_Cut.f
  rw [e]
  simp only [Option.bind_some, e1]
  generalize Lib.indexByte s.data.toList c = i at hg hl ⊢
  by_cases h : 0 ≤ i
  · have ew : wrap64 (i + ((1 : Nat) : Int)) = ((i.toNat + 1 : Nat) : Int) := by unfold wrap64; omega
    rw [if_pos h, if_pos h, if_pos (by omega), ew, if_pos (by omega), if_pos (by omega), if_pos h, Int.toNat_natCast]
    rfl
  · rw [if_neg h, if_neg h]
    rfl
theorem idOk_ev (s : ByteArray) (hs : s.size ≤ 4611686018427387903) : Ev (fun k => impl_idOk.f k s) (idS s) := by
  unfold impl_idOk.f idS
  refine Ev.bind0 (stringsCut_at s 46 hs) ?_
  by_cases h : 0 ≤ Lib.indexByte s.data.toList 46
  · simp only [if_pos h]
    have n1 := nameOk_ev (s.extract 0 (Lib.indexByte s.data.toList 46).toNat) (by have := extract_size_le s 0 (Lib.indexByte s.data.toList 46).toNat; omega)
    have n2 := nameOk_ev (s.extract ((Lib.indexByte s.data.toList 46).toNat + 1) s.size) (by have := extract_size_le s ((Lib.indexByte s.data.toList 46).toNat + 1) s.size; omega)
    refine Ev.iteT (by trivial) (Ev.bind n1 ?_)
    cases hn : nameS (s.extract 0 (Lib.indexByte s.data.toList 46).toNat) with
    | true => exact Ev.iteT rfl (Ev.bind n2 (Ev.bool (by simp [h])))
    | false => exact Ev.iteF (by simp) (Ev.bool (by simp))
  · simp only [if_neg h]
    exact Ev.iteF (by simp) (Ev.bool (by simp [h]))
theorem validId_loop (s : ByteArray) (hs : s.size ≤ 4611686018427387903) : ∀ (t : List UInt8) (i : Nat), s.data.toList.drop i = t → i ≤ s.size →
    Ev (fun k => spec_validId.l0 k s (i : Int)) (decide (0 ≤ Lib.indexByte t 46) && (nameS (s.extract 0 (i + (Lib.indexByte t 46).toNat)) && nameS (s.extract (i + (Lib.indexByte t 46).toNat + 1) s.size))) := by
  intro t
  induction t with
  | nil =>
    intro i h hi
    have hl := drop_nil h
    rw [size_list] at hl
    exact Ev.step (fun k => rfl) (Ev.iteF (by omega) (Ev.bool (by simp [Lib.indexByte])))
  | cons b t ih =>
    intro i h hi
    obtain ⟨hl, hb, ht⟩ := drop_cons h
    have hl' := hl
    rw [size_list] at hl'
    refine Ev.step (fun k => rfl) (Ev.iteT (by omega) (Ev.iteT (by omega) ?_))
    rw [bt_nat s i hl, hb]
    by_cases h1 : b = 46
    · subst h1
      refine Ev.iteT (by decide) (Ev.iteT (by omega) ?_)
      have n1 := validName_ev (s.extract 0 i) (by have := extract_size_le s 0 i; omega)
      have n2 := validName_ev (s.extract (i + 1) s.size) (by have := extract_size_le s (i + 1) s.size; omega)
      rw [indexByte_cons, if_pos rfl]
      simp only [Int.toNat_natCast, Int.toNat_zero, Nat.add_zero, Int.le_refl, decide_true, Bool.true_and]
      refine Ev.bind n1 ?_
      rw [wrapN (by omega)]
      cases hn : nameS (s.extract 0 i) with
      | true =>
        refine Ev.iteT rfl (Ev.iteT (by omega) (Ev.iteT (by omega) ?_))
        rw [Int.toNat_natCast]
        exact Ev.bind n2 (Ev.bool (by simp))
      | false => exact Ev.iteF (by simp) (Ev.bool (by simp))
    · have hne : ¬ (b.toNat : Int) = 46 := fun h2 => h1 (by apply UInt8.toNat.inj; simp; omega)
      refine Ev.iteF hne ?_
      rw [wrapN (by omega)]
      have := ih (i + 1) ht (by omega)
      rw [indexByte_cons, if_neg h1]
      have hg := Lib.indexByte_ge t 46
      by_cases h2 : Lib.indexByte t 46 < 0
      · rw [if_pos h2]
        rw [show decide (0 ≤ Lib.indexByte t 46) = false from decide_eq_false (by omega)] at this
        simpa using this
      · rw [if_neg h2]
        have e1 : (Lib.indexByte t 46 + 1).toNat = (Lib.indexByte t 46).toNat + 1 := by omega
        rw [e1, show i + ((Lib.indexByte t 46).toNat + 1) = i + 1 + (Lib.indexByte t 46).toNat from by omega, show decide (0 ≤ Lib.indexByte t 46 + 1) = true from decide_eq_true (by omega)]
        rw [show decide (0 ≤ Lib.indexByte t 46) = true from decide_eq_true (by omega)] at this
        exact this
theorem validId_ev (s : ByteArray) (hs : s.size ≤ 4611686018427387903) : Ev (fun k => spec_validId.f k s) (idS s) := by
  have := validId_loop s hs _ 0 rfl (Nat.zero_le _)
  simp only [Nat.zero_add] at this
  exact this
def memB (l : List ByteArray) (x : ByteArray) : Bool := l.any fun y => decide (y = x)
theorem memB_iff {l : List ByteArray} {x : ByteArray} : memB l x = true ↔ x ∈ l := by
  simp [memB]
theorem memB_eq {l : List ByteArray} {x : ByteArray} {p : Prop} [Decidable p] (h : p ↔ x ∈ l) : decide p = memB l x := by
  rw [Bool.eq_iff_iff, memB_iff]
  simpa using h
theorem index_loop (l : List ByteArray) (x : ByteArray) (hl : l.length ≤ 4611686018427387903) : ∀ (t : List ByteArray) (i : Nat), l.drop i = t → i ≤ l.length →
    ∃ r : Int, Ev (fun k => slices_Index_string_string.l0 k l x (l.length : Int) (i : Int)) r ∧ (0 ≤ r ↔ x ∈ t) := by
  intro t
  induction t with
  | nil =>
    intro i h hi
    have hl2 := drop_nil h
    exact ⟨-1, Ev.step (fun k => rfl) (Ev.iteF (by omega) (Ev.some_ rfl)), by simp⟩
  | cons b t ih =>
    intro i h hi
    obtain ⟨hl2, hb, ht⟩ := drop_cons h
    by_cases h1 : x = b
    · refine ⟨(i : Int), Ev.step (fun k => rfl) (Ev.iteT (by omega) (Ev.iteT (by omega) (Ev.iteT (by omega) (Ev.iteT ?_ (Ev.some_ rfl))))), by simp [h1]⟩
      rw [rdOf_nat _ _ _ hl2, hb, h1]
    · obtain ⟨r, hr, hm⟩ := ih (i + 1) ht (by omega)
      refine ⟨r, Ev.step (fun k => rfl) (Ev.iteT (by omega) (Ev.iteT (by omega) (Ev.iteT (by omega) (Ev.iteF ?_ ?_)))), by simp [h1, hm]⟩
      · rw [rdOf_nat _ _ _ hl2, hb, toList_iff]
        exact h1
      · rw [wrapN (by omega)]
        exact hr
theorem contains_ev (l : List ByteArray) (x : ByteArray) (hl : l.length ≤ 4611686018427387903) : Ev (fun k => slices_Contains_string_string.f k l x) (memB l x) := by
  obtain ⟨r, hr, hm⟩ := index_loop l x hl l 0 rfl (Nat.zero_le _)
  exact Ev.bind hr (Ev.bool (memB_eq hm))
theorem nodup_take_succ {α : Type} (l : List α) (i : Nat) (h : i < l.length) : (l.take (i + 1)).Nodup ↔ (l.take i).Nodup ∧ l[i] ∉ l.take i := by
  rw [List.take_succ_eq_append_getElem h, List.nodup_append]
  simp only [List.nodup_cons, List.not_mem_nil, not_false_eq_true, List.nodup_nil, and_self, true_and, List.mem_singleton, forall_eq]
  exact ⟨fun ⟨a, b⟩ => ⟨a, fun hm => b _ hm rfl⟩, fun ⟨a, b⟩ => ⟨a, fun x hx e => b (e ▸ hx)⟩⟩
theorem nodup_of_take {α : Type} (l : List α) (i : Nat) (h : ¬ (l.take i).Nodup) : ¬ l.Nodup := fun hn => h (hn.sublist (List.take_sublist _ _))
theorem apart_loop (l : List ByteArray) (hl : l.length ≤ 4611686018427387903) : ∀ (d i : Nat), i + d = l.length → (l.take i).Nodup →
    Ev (fun k => impl_apart.l0 k l l (l.length : Int) (i : Int)) (decide l.Nodup) := by
  intro d
  induction d with
  | zero =>
    intro i hd hn
    have e : l.take i = l := List.take_of_length_le (by omega)
    rw [e] at hn
    exact Ev.step (fun k => rfl) (Ev.iteF (by omega) (Ev.some_ (by simp [hn])))
  | succ d ih =>
    intro i hd hn
    have hi : i < l.length := by omega
    refine Ev.step (fun k => rfl) (Ev.iteT (by omega) (Ev.iteT (by omega) (Ev.iteT (by omega) (Ev.iteT (by omega) ?_))))
    rw [Int.toNat_natCast, rdOf_nat _ _ _ hi]
    refine Ev.bind (contains_ev (l.take i) l[i] (by rw [List.length_take]; omega)) ?_
    by_cases hm : l[i] ∈ l.take i
    · refine Ev.iteT (memB_iff.2 hm) (Ev.bool ?_)
      have : ¬ l.Nodup := nodup_of_take l (i + 1) (fun h => ((nodup_take_succ l i hi).1 h).2 hm)
      simp [this]
    · refine Ev.iteF (by rw [memB_iff]; exact hm) ?_
      rw [wrapN (by omega)]
      exact ih (i + 1) (by omega) ((nodup_take_succ l i hi).2 ⟨hn, hm⟩)
theorem apart_ev (l : List ByteArray) (hl : l.length ≤ 4611686018427387903) : Ev (fun k => impl_apart.f k l) (decide l.Nodup) :=
  apart_loop l hl l.length 0 (by omega) (by simp)
/-- All in a list are of a size that numbers hold. -/
def SizesOk (l : List ByteArray) : Prop := ∀ x ∈ l, x.size ≤ 4611686018427387903
def idsS (l : List ByteArray) : Bool := l.all idS && (decide (l.length ≤ 10) && decide l.Nodup)
theorem idsOk_loop (l : List ByteArray) (hl : l.length ≤ 4611686018427387903) (hz : SizesOk l) : ∀ (t : List ByteArray) (i : Nat), l.drop i = t → i ≤ l.length →
    Ev (fun k => impl_idsOk.l0 k l l (l.length : Int) (i : Int)) (t.all idS && (decide (l.length ≤ 10) && decide l.Nodup)) := by
  intro t
  induction t with
  | nil =>
    intro i h hi
    have hl2 := drop_nil h
    refine Ev.step (fun k => rfl) (Ev.iteF (by omega) ?_)
    by_cases h1 : l.length ≤ 10
    · exact Ev.iteT (by omega) (Ev.bind (apart_ev l hl) (Ev.bool (by simp [h1])))
    · exact Ev.iteF (by omega) (Ev.bool (by simp [h1]))
  | cons b t ih =>
    intro i h hi
    obtain ⟨hl2, hb, ht⟩ := drop_cons h
    refine Ev.step (fun k => rfl) (Ev.iteT (by omega) (Ev.iteT (by omega) (Ev.iteT (by omega) ?_)))
    rw [rdOf_nat _ _ _ hl2, hb]
    have hs : b.size ≤ 4611686018427387903 := hz b (hb ▸ List.getElem_mem hl2)
    refine Ev.bind (idOk_ev b hs) ?_
    cases hn : idS b with
    | true =>
      refine Ev.iteT rfl ?_
      rw [wrapN (by omega)]
      simpa [List.all_cons, hn] using ih (i + 1) ht (by omega)
    | false => exact Ev.iteF (by simp) (Ev.bool (by simp [hn]))
theorem idsOk_ev (l : List ByteArray) (hl : l.length ≤ 4611686018427387903) (hz : SizesOk l) : Ev (fun k => impl_idsOk.f k l) (idsS l) :=
  idsOk_loop l hl hz l 0 rfl (Nat.zero_le _)
theorem hasText_loop (l : List ByteArray) (x : ByteArray) (hl : l.length ≤ 4611686018427387903) : ∀ (t : List ByteArray) (i : Nat), l.drop i = t → i ≤ l.length →
    Ev (fun k => spec_hasText.l0 k l x (i : Int)) (memB t x) := by
  intro t
  induction t with
  | nil =>
    intro i h hi
    have hl2 := drop_nil h
    exact Ev.step (fun k => rfl) (Ev.iteF (by omega) (Ev.some_ rfl))
  | cons b t ih =>
    intro i h hi
    obtain ⟨hl2, hb, ht⟩ := drop_cons h
    refine Ev.step (fun k => rfl) (Ev.iteT (by omega) (Ev.iteT (by omega) ?_))
    rw [rdOf_nat _ _ _ hl2, hb]
    by_cases h1 : b = x
    · exact Ev.iteT (by rw [h1]) (Ev.some_ (by simp [memB, h1]))
    · refine Ev.iteF (by rw [toList_iff]; exact h1) ?_
      rw [wrapN (by omega)]
      have e : memB (b :: t) x = memB t x := by simp [memB, h1]
      rw [e]
      exact ih (i + 1) ht (by omega)
theorem hasText_ev (l : List ByteArray) (x : ByteArray) (hl : l.length ≤ 4611686018427387903) : Ev (fun k => spec_hasText.f k l x) (memB l x) :=
  hasText_loop l x hl l 0 rfl (Nat.zero_le _)
theorem validOrder_loop (l : List ByteArray) (hl : l.length ≤ 4611686018427387903) (hz : SizesOk l) : ∀ (d i : Nat), i + d = l.length → (l.take i).all idS = true → (l.take i).Nodup →
    Ev (fun k => spec_validOrder.l0 k l (i : Int)) (idsS l) := by
  intro d
  induction d with
  | zero =>
    intro i hd h1 h2
    have e : l.take i = l := List.take_of_length_le (by omega)
    rw [e] at h1 h2
    exact Ev.step (fun k => rfl) (Ev.iteF (by omega) (Ev.some_ (by unfold idsS; rw [h1]; simp [h2]; omega)))
  | succ d ih =>
    intro i hd h1 h2
    have hi : i < l.length := by omega
    have hmem : l[i] ∈ l := List.getElem_mem hi
    refine Ev.step (fun k => rfl) (Ev.iteT (by omega) (Ev.iteT (by omega) ?_))
    rw [rdOf_nat _ _ _ hi]
    refine Ev.bind (validId_ev l[i] (hz _ hmem)) ?_
    cases e1 : idS l[i] with
    | false =>
      refine Ev.iteF (by simp) (Ev.bool ?_)
      have : l.all idS = false := by
        rw [List.all_eq_false]
        exact ⟨_, hmem, by simp [e1]⟩
      unfold idsS
      rw [this]
      simp
    | true =>
      refine Ev.iteT rfl (Ev.iteT (by omega) ?_)
      rw [Int.toNat_natCast]
      refine Ev.bind (hasText_ev (l.take i) l[i] (by rw [List.length_take]; omega)) ?_
      have hn := nodup_take_succ l i hi
      by_cases e2 : memB (l.take i) l[i] = true
      · refine Ev.iteT e2 (Ev.bool ?_)
        have : ¬ l.Nodup := nodup_of_take l (i + 1) (fun h => (hn.1 h).2 (memB_iff.1 e2))
        unfold idsS
        simp [this]
      · refine Ev.iteF e2 ?_
        rw [wrapN (by omega)]
        refine ih (i + 1) (by omega) ?_ (hn.2 ⟨h2, fun h => e2 (memB_iff.2 h)⟩)
        rw [List.take_succ_eq_append_getElem hi, List.all_append, h1]
        simp [e1]
theorem validOrder_ev (l : List ByteArray) (hl : l.length ≤ 4611686018427387903) (hz : SizesOk l) : Ev (fun k => spec_validOrder.f k l) (idsS l) :=
  validOrder_loop l hl hz l.length 0 (by omega) (by simp) (by simp)
/-- What a copy holds after i rounds. -/
def half {α β : Type} (f : α → β) (z : β) (l : List α) (i : Nat) : List β := (l.take i).map f ++ List.replicate (l.length - i) z
theorem half_zero {α β : Type} (f : α → β) (z : β) (l : List α) : half f z l 0 = List.replicate l.length z := by simp [half]
theorem half_full {α β : Type} (f : α → β) (z : β) (l : List α) : half f z l l.length = l.map f := by simp [half]
theorem half_length {α β : Type} (f : α → β) (z : β) (l : List α) (i : Nat) (h : i ≤ l.length) : (half f z l i).length = l.length := by
  simp [half]
  omega
theorem half_set {α β : Type} (f : α → β) (z : β) (l : List α) (i : Nat) (h : i < l.length) : (half f z l i).set i (f l[i]) = half f z l (i + 1) := by
  have e : l.length - i = (l.length - (i + 1)) + 1 := by omega
  have hl : ((l.take i).map f).length = i := by
    rw [List.length_map, List.length_take]
    omega
  unfold half
  rw [List.set_append_right _ _ (by omega), hl, Nat.sub_self, e, List.replicate_succ, List.set_cons_zero, List.take_succ_eq_append_getElem h, List.map_append, List.append_assoc]
  rfl
structure FewText (l : List ByteArray) : Prop where
  len : l.length ≤ 1048576
  ids : ∀ q ∈ l, q.size ≤ 1048576
theorem FewText.sizes {l : List ByteArray} (h : FewText l) : SizesOk l := fun x hx => by have := h.ids x hx; omega
theorem szStringS_loop (l : List ByteArray) (hl : l.length ≤ 1048576) (hz : ∀ q ∈ l, q.size ≤ maxLen) : ∀ (t : List ByteArray) (i : Nat) (left : Int), l.drop i = t → i ≤ l.length → 0 ≤ left → left ≤ 1048576 →
    ∃ r, Ev (fun k => laws_szStringS.l0 k l left (i : Int)) r ∧ r ≤ 1048576 ∧ (0 ≤ r → ∀ q ∈ t, q.size ≤ 1048576) := by
  intro t
  induction t with
  | nil =>
    intro i left h hi h0 h1
    have hl2 := drop_nil h
    exact ⟨left, Ev.step (fun k => rfl) (Ev.iteF (by omega) (Ev.some_ rfl)), h1, fun _ q hq => by cases hq⟩
  | cons q t ih =>
    intro i left h hi h0 h1
    obtain ⟨hl2, hb, ht⟩ := drop_cons h
    have hq : q.size ≤ maxLen := hz q (hb ▸ List.getElem_mem hl2)
    unfold maxLen at hq
    have ew : wrap64 (left - (q.size : Int)) = left - q.size := wrapI (by omega)
    by_cases c : left - q.size < 0
    · refine ⟨-1, Ev.step (fun k => rfl) (Ev.iteT (by omega) (Ev.iteT (by omega) ?_)), by omega, fun h => by omega⟩
      rw [rdOf_nat _ _ _ hl2, hb, ew]
      exact Ev.iteT c (Ev.some_ rfl)
    · obtain ⟨r, hr, h2, h3⟩ := ih (i + 1) (left - q.size) ht (by omega) (by omega) (by omega)
      refine ⟨r, Ev.step (fun k => rfl) (Ev.iteT (by omega) (Ev.iteT (by omega) ?_)), h2, fun h0 p hp => ?_⟩
      · rw [rdOf_nat _ _ _ hl2, hb, ew, wrapN (by omega)]
        exact Ev.iteF c hr
      · rcases List.mem_cons.1 hp with rfl | hp
        · omega
        · exact h3 h0 p hp
theorem szStringS_ev (l : List ByteArray) (hl : l.length ≤ maxLen) (hz : ∀ q ∈ l, q.size ≤ maxLen) (left : Int) (h0 : 0 ≤ left) (h1 : left ≤ 1048576) :
    ∃ r, Ev (fun k => laws_szStringS.f k l left) r ∧ r ≤ 1048576 ∧ (0 ≤ r → FewText l) := by
  unfold maxLen at hl
  have ew : wrap64 (left - (l.length : Int)) = left - l.length := wrapI (by omega)
  unfold laws_szStringS.f
  rw [ew]
  by_cases c : left - l.length < 0
  · exact ⟨-1, Ev.iteT c (Ev.some_ rfl), by omega, fun h => by omega⟩
  · obtain ⟨r, hr, h2, h3⟩ := szStringS_loop l (by omega) hz l 0 (left - l.length) rfl (Nat.zero_le _) (by omega) (by omega)
    exact ⟨r, Ev.iteF c hr, h2, fun h => ⟨by omega, h3 h⟩⟩
theorem toStringS_loop (l : List ByteArray) (hl : l.length ≤ 1048576) : ∀ (d i : Nat), i + d = l.length →
    Ev (fun k => laws_toStringS.l0 k l (half id (⟨#[]⟩ : ByteArray) l i) (i : Int)) l := by
  intro d
  induction d with
  | zero =>
    intro i hd
    obtain rfl : i = l.length := by omega
    exact Ev.step (fun k => rfl) (Ev.iteF (by omega) (Ev.some_ (by rw [half_full]; simp)))
  | succ d ih =>
    intro i hd
    have hi : i < l.length := by omega
    refine Ev.step (fun k => rfl) (Ev.iteT (by omega) (Ev.iteT (by omega) ?_))
    rw [rdOf_nat _ _ _ hi]
    refine Ev.iteT (by rw [half_length _ _ _ _ (by omega)]; omega) ?_
    rw [wrapN (by omega), Int.toNat_natCast]
    have := ih (i + 1) (by omega)
    rw [← half_set id _ l i hi] at this
    exact this
theorem toStringS_ev (l : List ByteArray) (hl : l.length ≤ 1048576) : Ev (fun k => laws_toStringS.f k l) l := by
  unfold laws_toStringS.f
  rw [Int.toNat_natCast]
  have := toStringS_loop l hl l.length 0 (by omega)
  rw [half_zero] at this
  exact Ev.iteT (by omega) (Ev.iteT (by omega) this)
theorem eqStringS_loop (l : List ByteArray) (hl : l.length ≤ 4611686018427387903) : ∀ (d i : Nat), i + d = l.length → Ev (fun k => laws_eqStringS.l0 k l l (i : Int)) true := by
  intro d
  induction d with
  | zero =>
    intro i hd
    exact Ev.step (fun k => rfl) (Ev.iteF (by omega) (Ev.some_ rfl))
  | succ d ih =>
    intro i hd
    refine Ev.step (fun k => rfl) (Ev.iteT (by omega) (Ev.iteT (by omega) (Ev.iteT (by omega) (Ev.iteT rfl ?_))))
    rw [wrapN (by omega)]
    exact ih (i + 1) (by omega)
theorem eqStringS_ev (l : List ByteArray) (hl : l.length ≤ 4611686018427387903) : Ev (fun k => laws_eqStringS.f k l l) true := by
  unfold laws_eqStringS.f
  exact Ev.iteT rfl (eqStringS_loop l hl l.length 0 (by omega))
theorem rdL_nat (l : List (List ByteArray)) (i : Nat) (h : i < l.length) : rd_L1 l (i : Int) = l[i] := by
  unfold rd_L1
  exact getD_nat _ _ _ h
structure FewTexts (l : List (List ByteArray)) : Prop where
  len : l.length ≤ 1048576
  few : ∀ q ∈ l, FewText q
theorem szStringSS_loop (l : List (List ByteArray)) (hl : l.length ≤ 1048576) (hz : ∀ q ∈ l, q.length ≤ maxLen ∧ ∀ y ∈ q, y.size ≤ maxLen) : ∀ (t : List (List ByteArray)) (i : Nat) (left : Int), l.drop i = t → i ≤ l.length → 0 ≤ left → left ≤ 1048576 →
    ∃ r, Ev (fun k => laws_szStringSS.l0 k l left (i : Int)) r ∧ r ≤ 1048576 ∧ (0 ≤ r → ∀ q ∈ t, FewText q) := by
  intro t
  induction t with
  | nil =>
    intro i left h hi h0 h1
    have hl2 := drop_nil h
    exact ⟨left, Ev.step (fun k => rfl) (Ev.iteF (by omega) (Ev.some_ rfl)), h1, fun _ q hq => by cases hq⟩
  | cons q t ih =>
    intro i left h hi h0 h1
    obtain ⟨hl2, hb, ht⟩ := drop_cons h
    have hq := hz q (hb ▸ List.getElem_mem hl2)
    obtain ⟨r, hr, hr2, hf⟩ := szStringS_ev q hq.1 hq.2 left h0 h1
    by_cases c : r < 0
    · refine ⟨-1, Ev.step (fun k => rfl) (Ev.iteT (by omega) (Ev.iteT (by omega) ?_)), by omega, fun h => by omega⟩
      rw [rdL_nat _ _ hl2, hb]
      exact Ev.bind hr (Ev.iteT c (Ev.some_ rfl))
    · obtain ⟨r2, hr3, h2, h3⟩ := ih (i + 1) r ht (by omega) (by omega) hr2
      refine ⟨r2, Ev.step (fun k => rfl) (Ev.iteT (by omega) (Ev.iteT (by omega) ?_)), h2, fun h0 p hp => ?_⟩
      · rw [rdL_nat _ _ hl2, hb, wrapN (by omega)]
        exact Ev.bind hr (Ev.iteF c hr3)
      · rcases List.mem_cons.1 hp with rfl | hp
        · exact hf (by omega)
        · exact h3 h0 p hp
theorem szStringSS_ev (l : List (List ByteArray)) (hl : l.length ≤ maxLen) (hz : ∀ q ∈ l, q.length ≤ maxLen ∧ ∀ y ∈ q, y.size ≤ maxLen) (left : Int) (h0 : 0 ≤ left) (h1 : left ≤ 1048576) :
    ∃ r, Ev (fun k => laws_szStringSS.f k l left) r ∧ r ≤ 1048576 ∧ (0 ≤ r → FewTexts l) := by
  unfold maxLen at hl
  have ew : wrap64 (left - (l.length : Int)) = left - l.length := wrapI (by omega)
  unfold laws_szStringSS.f
  rw [ew]
  by_cases c : left - l.length < 0
  · exact ⟨-1, Ev.iteT c (Ev.some_ rfl), by omega, fun h => by omega⟩
  · obtain ⟨r, hr, h2, h3⟩ := szStringSS_loop l (by omega) hz l 0 (left - l.length) rfl (Nat.zero_le _) (by omega) (by omega)
    exact ⟨r, Ev.iteF c hr, h2, fun h => ⟨by omega, h3 h⟩⟩
theorem toStringSS_loop (l : List (List ByteArray)) (hl : FewTexts l) : ∀ (d i : Nat), i + d = l.length →
    Ev (fun k => laws_toStringSS.l0 k l (half id ([] : List ByteArray) l i) (i : Int)) l := by
  have hlen := hl.len
  intro d
  induction d with
  | zero =>
    intro i hd
    obtain rfl : i = l.length := by omega
    exact Ev.step (fun k => rfl) (Ev.iteF (by omega) (Ev.some_ (by rw [half_full]; simp)))
  | succ d ih =>
    intro i hd
    have hi : i < l.length := by omega
    have hq := hl.few _ (List.getElem_mem hi)
    refine Ev.step (fun k => rfl) (Ev.iteT (by omega) (Ev.iteT (by omega) ?_))
    rw [rdL_nat _ _ hi]
    refine Ev.bind (toStringS_ev l[i] hq.len) (Ev.iteT (by rw [half_length _ _ _ _ (by omega)]; omega) ?_)
    rw [wrapN (by omega), Int.toNat_natCast]
    have := ih (i + 1) (by omega)
    rw [← half_set id _ l i hi] at this
    exact this
theorem toStringSS_ev (l : List (List ByteArray)) (hl : FewTexts l) : Ev (fun k => laws_toStringSS.f k l) l := by
  have hlen := hl.len
  unfold laws_toStringSS.f
  rw [Int.toNat_natCast]
  have := toStringSS_loop l hl l.length 0 (by omega)
  rw [half_zero] at this
  exact Ev.iteT (by omega) (Ev.iteT (by omega) this)
theorem eqStringSS_loop (l : List (List ByteArray)) (hl : FewTexts l) : ∀ (d i : Nat), i + d = l.length → Ev (fun k => laws_eqStringSS.l0 k l l (i : Int)) true := by
  have hlen := hl.len
  intro d
  induction d with
  | zero =>
    intro i hd
    exact Ev.step (fun k => rfl) (Ev.iteF (by omega) (Ev.some_ rfl))
  | succ d ih =>
    intro i hd
    have hi : i < l.length := by omega
    have hq := (hl.few _ (List.getElem_mem hi)).len
    refine Ev.step (fun k => rfl) (Ev.iteT (by omega) (Ev.iteT (by omega) (Ev.iteT (by omega) ?_)))
    rw [rdL_nat _ _ hi]
    refine Ev.bind (eqStringS_ev l[i] (by omega)) (Ev.iteT rfl ?_)
    rw [wrapN (by omega)]
    exact ih (i + 1) (by omega)
theorem eqStringSS_ev (l : List (List ByteArray)) (hl : FewTexts l) : Ev (fun k => laws_eqStringSS.f k l l) true := by
  unfold laws_eqStringSS.f
  exact Ev.iteT rfl (eqStringSS_loop l hl l.length 0 (by omega))
def causeS (c : List ByteArray) : Bool := decide (1 ≤ c.length ∧ c.length ≤ 3) && idsS c
def causesS (l : List (List ByteArray)) : Bool := l.all causeS && decide (l.length ≤ 4)
structure CauseSizes (l : List (List ByteArray)) : Prop where
  len : l.length ≤ 4611686018427387903
  lens : ∀ c ∈ l, c.length ≤ 4611686018427387903
  sizes : ∀ c ∈ l, SizesOk c
theorem implCauses_loop (l : List (List ByteArray)) (h : CauseSizes l) : ∀ (t : List (List ByteArray)) (i : Nat), l.drop i = t → i ≤ l.length →
    Ev (fun k => impl_ValidCauses.l0 k l l (l.length : Int) (i : Int)) (t.all causeS && decide (l.length ≤ 4)) := by
  have hlen := h.len
  intro t
  induction t with
  | nil =>
    intro i hd hi
    have hl2 := drop_nil hd
    refine Ev.step (fun k => rfl) (Ev.iteF (by omega) (Ev.some_ ?_))
    simp only [List.all_nil, Bool.true_and, decide_eq_decide]
    omega
  | cons c t ih =>
    intro i hd hi
    obtain ⟨hl2, hb, ht⟩ := drop_cons hd
    have hcm : c ∈ l := by rw [← hb]; exact List.getElem_mem hl2
    have hnext := ih (i + 1) ht (by omega)
    refine Ev.step (fun k => rfl) (Ev.iteT (by omega) (Ev.iteT (by omega) (Ev.iteT (by omega) ?_)))
    rw [rdL_nat _ _ hl2, hb, wrapN (by omega), List.all_cons, Bool.and_assoc]
    by_cases c1 : (c.length : Int) < 1
    · have e : causeS c = false := by
        unfold causeS
        rw [decide_eq_false (by omega)]
        rfl
      rw [e]
      exact Ev.iteT c1 (Ev.some_ rfl)
    refine Ev.iteF c1 ?_
    by_cases c2 : (c.length : Int) > 3
    · have e : causeS c = false := by
        unfold causeS
        rw [decide_eq_false (by omega)]
        rfl
      rw [e]
      exact Ev.iteT c2 (Ev.some_ rfl)
    refine Ev.iteF c2 (Ev.bind (idsOk_ev c (h.lens c hcm) (h.sizes c hcm)) ?_)
    have e : causeS c = idsS c := by
      unfold causeS
      rw [decide_eq_true (by omega)]
      rfl
    rw [e]
    cases hi2 : idsS c with
    | true => exact Ev.iteT rfl (by simpa using hnext)
    | false => exact Ev.iteF Bool.false_ne_true (Ev.some_ rfl)
theorem implCauses_ev (l : List (List ByteArray)) (h : CauseSizes l) : Ev (fun k => impl_ValidCauses.f k l) (causesS l) :=
  implCauses_loop l h l 0 rfl (Nat.zero_le _)
theorem specCauses_loop (l : List (List ByteArray)) (h : CauseSizes l) : ∀ (t : List (List ByteArray)) (i : Nat), l.drop i = t → i ≤ l.length →
    Ev (fun k => spec_validCauses.l0 k l (i : Int)) (t.all causeS && decide (l.length ≤ 4)) := by
  have hlen := h.len
  intro t
  induction t with
  | nil =>
    intro i hd hi
    have hl2 := drop_nil hd
    refine Ev.step (fun k => rfl) (Ev.iteF (by omega) (Ev.some_ ?_))
    simp only [List.all_nil, Bool.true_and, decide_eq_decide]
    omega
  | cons c t ih =>
    intro i hd hi
    obtain ⟨hl2, hb, ht⟩ := drop_cons hd
    have hcm : c ∈ l := by rw [← hb]; exact List.getElem_mem hl2
    have hnext := ih (i + 1) ht (by omega)
    refine Ev.step (fun k => rfl) (Ev.iteT (by omega) (Ev.iteT (by omega) ?_))
    rw [rdL_nat _ _ hl2, hb, wrapN (by omega), List.all_cons, Bool.and_assoc]
    refine Ev.bind (validOrder_ev c (h.lens c hcm) (h.sizes c hcm)) ?_
    cases hi2 : idsS c with
    | true =>
      refine Ev.iteT rfl (Ev.bind0 (inRange_ev (c.length : Int) 1 3) ?_)
      by_cases c1 : 1 ≤ c.length ∧ c.length ≤ 3
      · have e : causeS c = true := by
          unfold causeS
          rw [decide_eq_true c1, hi2]
          rfl
        rw [e]
        exact Ev.iteT (decide_eq_true (by omega)) (by simpa using hnext)
      · have e : causeS c = false := by
          unfold causeS
          rw [decide_eq_false c1]
          rfl
        rw [e]
        exact Ev.iteF (by rw [decide_eq_false (by omega)]; exact Bool.false_ne_true) (Ev.some_ rfl)
    | false =>
      have e : causeS c = false := by
        unfold causeS
        rw [hi2, Bool.and_false]
      rw [e]
      exact Ev.iteF Bool.false_ne_true (Ev.some_ rfl)
theorem specCauses_ev (l : List (List ByteArray)) (h : CauseSizes l) : Ev (fun k => spec_validCauses.f k l) (causesS l) :=
  specCauses_loop l h l 0 rfl (Nat.zero_le _)
theorem FewTexts.sizes {l : List (List ByteArray)} (h : FewTexts l) : CauseSizes l := ⟨by have := h.len; omega, fun c hc => by have := (h.few c hc).len; omega, fun c hc => (h.few c hc).sizes⟩
theorem memB_cons (x y : ByteArray) (t : List ByteArray) : memB (x :: t) y = (decide (x = y) || memB t y) := by
  rw [Bool.eq_iff_iff, memB_iff]
  simp only [List.mem_cons, Bool.or_eq_true, decide_eq_true_eq, memB_iff]
  constructor
  · rintro (h | h)
    · exact .inl h.symm
    · exact .inr h
  · rintro (h | h)
    · exact .inl h.symm
    · exact .inr h
theorem count_cons {x : ByteArray} {t : List ByteArray} (hx : x ∉ t) : ∀ (a : List ByteArray), a.Nodup → (a.filter (memB (x :: t))).length = (a.filter (memB t)).length + if memB a x = true then 1 else 0 := by
  intro a
  induction a with
  | nil => intro _; simp [memB]
  | cons y a ih =>
    intro hn
    rw [List.nodup_cons] at hn
    have := ih hn.2
    rw [List.filter_cons, List.filter_cons, memB_cons x y t, memB_cons y x a]
    by_cases e : x = y
    · subst e
      have h1 : memB t x = false := by
        rw [Bool.eq_false_iff]
        exact fun h => hx (memB_iff.1 h)
      have h2 : memB a x = false := by
        rw [Bool.eq_false_iff]
        exact fun h => hn.1 (memB_iff.1 h)
      rw [h2] at this
      simp [h1, h2]
      simpa using this
    · have e2 : ¬ y = x := fun h => e h.symm
      cases h1 : memB t y <;> simp [e, e2] <;> omega
theorem count_all (a : List ByteArray) (ha : a.Nodup) : ∀ (c : List ByteArray), c.Nodup → (a.filter (memB c)).length ≤ c.length ∧ ((a.filter (memB c)).length = c.length ↔ c.all (memB a) = true) := by
  intro c
  induction c with
  | nil =>
    intro _
    have e : a.filter (memB []) = [] := List.filter_eq_nil_iff.2 (by simp [memB])
    rw [e]
    simp
  | cons x t ih =>
    intro hn
    rw [List.nodup_cons] at hn
    obtain ⟨h1, h2⟩ := ih hn.2
    rw [count_cons hn.1 a ha, List.all_cons, List.length_cons]
    cases hx : memB a x with
    | true =>
      simp only [if_true, Bool.true_and]
      refine ⟨by omega, ?_⟩
      rw [← h2]
      omega
    | false =>
      simp only [Bool.false_eq_true, if_false, Bool.false_and, iff_false]
      exact ⟨by omega, by omega⟩
theorem inOrderOf_loop (a c : List ByteArray) (ha : a.length ≤ 8796093022207) (hc : c.length ≤ 4611686018427387903) : ∀ (t : List ByteArray) (i : Nat) (acc : List ByteArray), a.drop i = t → i ≤ a.length → acc.length ≤ i →
    Ev (fun k => impl_inOrderOf.l0 k c acc a (a.length : Int) (i : Int)) (acc ++ t.filter (memB c)) := by
  intro t
  induction t with
  | nil =>
    intro i acc h hi hacc
    have hl2 := drop_nil h
    exact Ev.step (fun k => rfl) (Ev.iteF (by omega) (Ev.some_ (by simp)))
  | cons x t ih =>
    intro i acc h hi hacc
    obtain ⟨hl2, hb, ht⟩ := drop_cons h
    refine Ev.step (fun k => rfl) (Ev.iteT (by omega) (Ev.iteT (by omega) (Ev.iteT (by omega) ?_)))
    rw [rdOf_nat _ _ _ hl2, hb, wrapN (by omega)]
    refine Ev.bind (contains_ev c x hc) ?_
    rw [List.filter_cons]
    by_cases hm : memB c x = true
    · rw [if_pos hm]
      have := ih (i + 1) (acc ++ [x]) ht (by omega) (by simp; omega)
      rw [List.append_assoc] at this
      exact Ev.iteT hm (Ev.iteT (by omega) this)
    · rw [if_neg hm]
      exact Ev.iteF hm (ih (i + 1) acc ht (by omega) (by omega))
theorem inOrderOf_ev (a c : List ByteArray) (ha : a.length ≤ 8796093022207) (hc : c.length ≤ 4611686018427387903) : Ev (fun k => impl_inOrderOf.f k a c) (a.filter (memB c)) :=
  inOrderOf_loop a c ha hc a 0 [] rfl (Nat.zero_le _) (Nat.zero_le _)
def hasAll (a c : List ByteArray) : Bool := decide (((a.filter (memB c)).length : Int) = (c.length : Int))
theorem failsFind_ev (a : List ByteArray) (ha : a.length ≤ 8796093022207) : ∀ (l : List (List ByteArray)) (i : Nat), (∀ c ∈ l, c.length ≤ 4611686018427387903) → ∃ j, Ev (fun k => impl_fails.find k a l i) j ∧ (decide (j ≥ 0) = l.any (hasAll a)) := by
  intro l
  induction l with
  | nil => intro i _; exact ⟨-1, Ev.some_ rfl, rfl⟩
  | cons c t ih =>
    intro i h
    have hone : Ev (fun k => impl_fails.one k a c) (hasAll a c) := by
      unfold impl_fails.one
      exact Ev.bind (inOrderOf_ev a c ha (h c List.mem_cons_self)) (Ev.some_ rfl)
    rw [List.any_cons]
    by_cases hh : hasAll a c = true
    · refine ⟨(i : Int), Ev.bind hone (Ev.iteT hh (Ev.some_ rfl)), ?_⟩
      rw [hh, decide_eq_true (show (i : Int) ≥ 0 by omega)]
      rfl
    · obtain ⟨j, hj, e⟩ := ih (i + 1) (fun c hc => h c (List.mem_cons_of_mem _ hc))
      refine ⟨j, Ev.bind hone (Ev.iteF hh hj), ?_⟩
      rw [e, Bool.eq_false_iff.2 hh]
      rfl
theorem implFails_ev (l : List (List ByteArray)) (a : List ByteArray) (ha : a.length ≤ 8796093022207) (h : ∀ c ∈ l, c.length ≤ 4611686018427387903) : Ev (fun k => impl_fails.f k l a) (l.any (hasAll a)) := by
  obtain ⟨j, hj, e⟩ := failsFind_ev a ha l 0 h
  unfold impl_fails.f
  exact Ev.bind hj (Ev.some_ e)
theorem without_loop (a c : List ByteArray) (ha : a.length ≤ 4611686018427387903) (hc : c.length ≤ 8796093022207) : ∀ (t : List ByteArray) (i : Nat) (acc : List ByteArray), c.drop i = t → i ≤ c.length → acc.length ≤ i →
    Ev (fun k => spec_without.l0 k c a acc (i : Int)) (acc ++ t.filter (fun x => !memB a x)) := by
  intro t
  induction t with
  | nil =>
    intro i acc h hi hacc
    have hl2 := drop_nil h
    exact Ev.step (fun k => rfl) (Ev.iteF (by omega) (Ev.some_ (by simp)))
  | cons x t ih =>
    intro i acc h hi hacc
    obtain ⟨hl2, hb, ht⟩ := drop_cons h
    refine Ev.step (fun k => rfl) (Ev.iteT (by omega) (Ev.iteT (by omega) ?_))
    rw [rdOf_nat _ _ _ hl2, hb, wrapN (by omega)]
    refine Ev.bind (hasText_ev a x ha) ?_
    rw [List.filter_cons]
    by_cases hm : memB a x = true
    · rw [if_neg (by simp [hm])]
      exact Ev.iteT hm (ih (i + 1) acc ht (by omega) (by omega))
    · rw [if_pos (by simpa using hm)]
      have := ih (i + 1) (acc ++ [x]) ht (by omega) (by simp; omega)
      rw [List.append_assoc] at this
      exact Ev.iteF hm (Ev.iteT (by omega) this)
theorem without_ev (a c : List ByteArray) (ha : a.length ≤ 4611686018427387903) (hc : c.length ≤ 8796093022207) : Ev (fun k => spec_without.f k c a) (c.filter (fun x => !memB a x)) :=
  without_loop a c ha hc c 0 [] rfl (Nat.zero_le _) (Nat.zero_le _)
theorem without_nil (a c : List ByteArray) : (((c.filter (fun x => !memB a x)).length : Int) = 0) ↔ c.all (memB a) = true := by
  constructor
  · intro h
    have e : c.filter (fun x => !memB a x) = [] := List.eq_nil_of_length_eq_zero (by omega)
    rw [List.filter_eq_nil_iff] at e
    rw [List.all_eq_true]
    intro x hx
    simpa using e x hx
  · intro h
    rw [List.all_eq_true] at h
    have e : c.filter (fun x => !memB a x) = [] := List.filter_eq_nil_iff.2 (fun x hx => by simp [h x hx])
    rw [e]
    rfl
theorem failing_loop (l : List (List ByteArray)) (a : List ByteArray) (hl : l.length ≤ 4611686018427387903) (ha : a.length ≤ 4611686018427387903) (h : ∀ c ∈ l, c.length ≤ 8796093022207) : ∀ (t : List (List ByteArray)) (i : Nat), l.drop i = t → i ≤ l.length →
    Ev (fun k => spec_failing.l0 k l a (i : Int)) (t.any fun c => c.all (memB a)) := by
  intro t
  induction t with
  | nil =>
    intro i hd hi
    have hl2 := drop_nil hd
    exact Ev.step (fun k => rfl) (Ev.iteF (by omega) (Ev.some_ rfl))
  | cons c t ih =>
    intro i hd hi
    obtain ⟨hl2, hb, ht⟩ := drop_cons hd
    have hcm : c ∈ l := by rw [← hb]; exact List.getElem_mem hl2
    refine Ev.step (fun k => rfl) (Ev.iteT (by omega) (Ev.iteT (by omega) ?_))
    rw [rdL_nat _ _ hl2, hb, wrapN (by omega), List.any_cons]
    refine Ev.bind (without_ev a c ha (h c hcm)) ?_
    by_cases hh : c.all (memB a) = true
    · exact Ev.iteT ((without_nil a c).2 hh) (Ev.some_ (by rw [hh]; rfl))
    · refine Ev.iteF (fun e => hh ((without_nil a c).1 e)) ?_
      rw [Bool.eq_false_iff.2 hh]
      exact ih (i + 1) ht (by omega)
def failsS (l : List (List ByteArray)) (a : List ByteArray) : Bool := causesS l && idsS a && l.any fun c => c.all (memB a)
theorem idsS_nodup {l : List ByteArray} (h : idsS l = true) : l.Nodup := by
  unfold idsS at h
  simp only [Bool.and_eq_true, decide_eq_true_eq] at h
  exact h.2.2
theorem causesS_nodup {l : List (List ByteArray)} (h : causesS l = true) : ∀ c ∈ l, c.Nodup := by
  unfold causesS causeS at h
  simp only [Bool.and_eq_true, decide_eq_true_eq, List.all_eq_true] at h
  exact fun c hc => idsS_nodup (h.1 c hc).2
theorem any_hasAll {l : List (List ByteArray)} {a : List ByteArray} (h : causesS l = true) (ha : idsS a = true) : l.any (hasAll a) = l.any fun c => c.all (memB a) := by
  have hn := causesS_nodup h
  have e : ∀ c ∈ l, hasAll a c = c.all (memB a) := fun c hc => by
    unfold hasAll
    rw [Bool.eq_iff_iff, decide_eq_true_eq, ← (count_all a (idsS_nodup ha) c (hn c hc)).2]
    omega
  rw [Bool.eq_iff_iff, List.any_eq_true, List.any_eq_true]
  exact ⟨fun ⟨c, hc, h1⟩ => ⟨c, hc, by rw [← e c hc]; exact h1⟩, fun ⟨c, hc, h1⟩ => ⟨c, hc, by rw [e c hc]; exact h1⟩⟩
theorem implFailsWith_ev (l : List (List ByteArray)) (a : List ByteArray) (h : CauseSizes l) (ha : a.length ≤ 8796093022207) (hz : SizesOk a) : Ev (fun k => impl_FailsWith.f k l a) (failsS l a) := by
  unfold impl_FailsWith.f failsS
  refine Ev.bind (implCauses_ev l h) ?_
  by_cases h1 : causesS l = true
  · refine Ev.iteT h1 (Ev.bind (idsOk_ev a (by omega) hz) ?_)
    by_cases h2 : idsS a = true
    · refine Ev.iteT h2 (Ev.bind (implFails_ev l a ha h.lens) (Ev.some_ ?_))
      rw [any_hasAll h1 h2, h1, h2]
      rfl
    · exact Ev.iteF h2 (Ev.some_ (by rw [Bool.eq_false_iff.2 h2]; simp))
  · exact Ev.iteF h1 (Ev.some_ (by rw [Bool.eq_false_iff.2 h1]; simp))
def noneB (F : List ByteArray → Bool) (x : List ByteArray) : Nat → Nat → Bool
  | 0, _ => true
  | d + 1, i => !F (x.take i ++ x.drop (i + 1)) && noneB F x d (i + 1)
theorem cloneS_eq (l : List ByteArray) (h : l.length < 8796093022208) : slices_Clone_string_string.f l = some l := by
  unfold slices_Clone_string_string.f
  simp [h]
theorem leastDel_eq (l : List ByteArray) (i : Nat) (h : i < l.length) (hl : l.length ≤ 4194304) : impl_leastDel.f l (i : Int) (wrap64 ((i : Int) + 1)) = some (l.take i ++ l.drop (i + 1)) := by
  unfold impl_leastDel.f
  rw [wrapI (by omega), if_pos ⟨by omega, rfl, by omega⟩, Int.toNat_natCast]
theorem less_length (x : List ByteArray) (i : Nat) (h : i < x.length) : (x.take i ++ x.drop (i + 1)).length = x.length - 1 := by
  rw [List.length_append, List.length_take, List.length_drop]
  omega
theorem shrunk_loop (l : List (List ByteArray)) (hc : ∀ c ∈ l, c.length ≤ 4611686018427387903) : ∀ (d : Nat) (x : List ByteArray) (i : Nat), i + d = x.length → x.length ≤ 4194304 →
    ∃ r, Ev (fun k => impl_shrunk.l0 k l x (i : Int)) r ∧ r.length ≤ x.length ∧ decide ((r.length : Int) = (x.length : Int)) = noneB (fun a => l.any (hasAll a)) x d i := by
  intro d
  induction d with
  | zero =>
    intro x i hi hx
    exact ⟨x, Ev.step (fun k => rfl) (Ev.iteF (by omega) (Ev.some_ rfl)), Nat.le_refl _, by simp [noneB]⟩
  | succ d ih =>
    intro x i hi hx
    have hix : i < x.length := by omega
    have hlen := less_length x i hix
    have hf := implFails_ev l (x.take i ++ x.drop (i + 1)) (by omega) hc
    by_cases c : l.any (hasAll (x.take i ++ x.drop (i + 1))) = true
    · obtain ⟨r, hr, h1, _⟩ := ih (x.take i ++ x.drop (i + 1)) i (by omega) (by omega)
      refine ⟨r, Ev.step (fun k => rfl) (Ev.iteT (by omega) (Ev.bind0 (cloneS_eq x (by omega)) (Ev.bind0 (leastDel_eq x i hix hx) (Ev.bind hf (Ev.iteT c hr))))), by omega, ?_⟩
      rw [noneB, c, decide_eq_false (by omega)]
      rfl
    · obtain ⟨r, hr, h1, h2⟩ := ih x (i + 1) (by omega) hx
      refine ⟨r, Ev.step (fun k => rfl) (Ev.iteT (by omega) (Ev.bind0 (cloneS_eq x (by omega)) (Ev.bind0 (leastDel_eq x i hix hx) (Ev.bind hf (Ev.iteF c ?_))))), h1, ?_⟩
      · rw [wrapN (by omega)]
        exact hr
      · rw [noneB, Bool.eq_false_iff.2 c, Bool.not_false, Bool.true_and]
        exact h2
theorem any_nodup {l : List (List ByteArray)} {a : List ByteArray} (h : causesS l = true) (ha : a.Nodup) : l.any (hasAll a) = l.any fun c => c.all (memB a) := by
  have hn := causesS_nodup h
  have e : ∀ c ∈ l, hasAll a c = c.all (memB a) := fun c hc => by
    unfold hasAll
    rw [Bool.eq_iff_iff, decide_eq_true_eq, ← (count_all a ha c (hn c hc)).2]
    omega
  rw [Bool.eq_iff_iff, List.any_eq_true, List.any_eq_true]
  exact ⟨fun ⟨c, hc, h1⟩ => ⟨c, hc, by rw [← e c hc]; exact h1⟩, fun ⟨c, hc, h1⟩ => ⟨c, hc, by rw [e c hc]; exact h1⟩⟩
theorem noneB_congr (F G : List ByteArray → Bool) (x : List ByteArray) (h : ∀ i, F (x.take i ++ x.drop (i + 1)) = G (x.take i ++ x.drop (i + 1))) : ∀ d i, noneB F x d i = noneB G x d i
  | 0, _ => rfl
  | d + 1, i => by rw [noneB, noneB, h i, noneB_congr F G x h d (i + 1)]
theorem less_nodup (x : List ByteArray) (h : x.Nodup) (i : Nat) : (x.take i ++ x.drop (i + 1)).Nodup := by
  rw [← List.eraseIdx_eq_take_drop_succ]
  exact h.sublist (List.eraseIdx_sublist x i)
def leastS (l : List (List ByteArray)) (a : List ByteArray) : Bool := failsS l a && noneB (fun b => l.any fun c => c.all (memB b)) a a.length 0
theorem implLeast_ev (l : List (List ByteArray)) (a : List ByteArray) (h : CauseSizes l) (ha : a.length ≤ 4194304) (hz : SizesOk a) : Ev (fun k => impl_IsLeast.f k l a) (leastS l a) := by
  unfold impl_IsLeast.f leastS
  refine Ev.bind (implFailsWith_ev l a h (by omega) hz) ?_
  by_cases c : failsS l a = true
  · have hcs : causesS l = true := by
      unfold failsS at c
      simp only [Bool.and_eq_true] at c
      exact c.1.1
    have hid : idsS a = true := by
      unfold failsS at c
      simp only [Bool.and_eq_true] at c
      exact c.1.2
    obtain ⟨r, hr, _, h2⟩ := shrunk_loop l h.lens a.length a 0 (by omega) ha
    have hs : Ev (fun k => impl_shrunk.f k l a) r := by
      unfold impl_shrunk.f
      exact Ev.bind0 (cloneS_eq a (by omega)) hr
    refine Ev.iteT c (Ev.bind hs (Ev.some_ ?_))
    rw [c, Bool.true_and, ← noneB_congr (fun b => l.any (hasAll b)) _ a (fun i => any_nodup hcs (less_nodup a (idsS_nodup hid) i)) a.length 0, ← h2]
    rfl
  · exact Ev.iteF c (Ev.some_ (by rw [Bool.eq_false_iff.2 c]; rfl))
theorem specLeast_loop (l : List (List ByteArray)) (a : List ByteArray) (hl : l.length ≤ 4611686018427387903) (hc : ∀ c ∈ l, c.length ≤ 8796093022207) (ha : a.length ≤ 4194304) : ∀ (d i : Nat), i + d = a.length →
    Ev (fun k => spec_IsLeast.l0 k l a (i : Int)) (noneB (fun b => l.any fun c => c.all (memB b)) a d i) := by
  intro d
  induction d with
  | zero =>
    intro i hi
    exact Ev.step (fun k => rfl) (Ev.iteF (by omega) (Ev.some_ rfl))
  | succ d ih =>
    intro i hi
    have hia : i < a.length := by omega
    have hlen := less_length a i hia
    have hw : wrap64 ((i : Int) + 1) = ((i + 1 : Nat) : Int) := wrapN (by omega)
    have hf := failing_loop l (a.take i ++ a.drop (i + 1)) hl (by omega) hc l 0 rfl (Nat.zero_le _)
    refine Ev.step (fun k => rfl) (Ev.iteT (by omega) (Ev.bind0 rfl (Ev.iteT (by omega) (Ev.iteT (by omega) ?_))))
    rw [Int.toNat_natCast]
    refine Ev.iteT (by simp only [List.length_nil, List.length_take]; omega) (Ev.bind0 rfl ?_)
    rw [hw, Int.toNat_natCast, List.nil_append, noneB]
    refine Ev.iteT (by omega) (Ev.iteT (by omega) (Ev.iteT (by rw [← List.length_append]; omega) (Ev.bind hf ?_)))
    by_cases c : (l.any fun c => c.all (memB (a.take i ++ a.drop (i + 1)))) = true
    · exact Ev.iteT c (Ev.some_ (by rw [c]; rfl))
    · refine Ev.iteF c ?_
      rw [Bool.eq_false_iff.2 c, Bool.not_false, Bool.true_and]
      exact ih (i + 1) (by omega)
theorem specLeast_ev (l : List (List ByteArray)) (a : List ByteArray) (h : CauseSizes l) (hc : ∀ c ∈ l, c.length ≤ 8796093022207) (ha : a.length ≤ 4194304) (hz : SizesOk a) : Ev (fun k => spec_IsLeast.f k l a) (leastS l a) := by
  have hg : Ev (fun k => spec_goodCauses.f k l a) (causesS l && idsS a) := by
    unfold spec_goodCauses.f
    refine Ev.bind (specCauses_ev l h) ?_
    by_cases h1 : causesS l = true
    · refine Ev.iteT h1 (Ev.bind (validOrder_ev a (by omega) hz) (Ev.some_ ?_))
      rw [h1]
      rfl
    · exact Ev.iteF h1 (Ev.some_ (by rw [Bool.eq_false_iff.2 h1]; simp))
  unfold spec_IsLeast.f leastS failsS
  refine Ev.bind hg ?_
  by_cases h1 : (causesS l && idsS a) = true
  · refine Ev.iteT h1 (Ev.bind (failing_loop l a h.len (by omega) hc l 0 rfl (Nat.zero_le _)) ?_)
    refine Ev.step (fun k => by rw [spec_IsLeast.j0]) ?_
    rw [h1, Bool.true_and]
    by_cases c : (l.any fun c => c.all (memB a)) = true
    · refine Ev.iteF (by rw [c]; simp) ?_
      rw [c, Bool.true_and]
      exact specLeast_loop l a h.len hc ha a.length 0 (by omega)
    · exact Ev.iteT (by simpa using c) (Ev.some_ (by rw [Bool.eq_false_iff.2 c]; rfl))
  · refine Ev.iteF h1 ?_
    refine Ev.step (fun k => by rw [spec_IsLeast.j0]) ?_
    exact Ev.iteT rfl (Ev.some_ (by rw [Bool.eq_false_iff.2 h1]; rfl))
end Go.Proofs.Ytlnaejkbanpcjaa.L
