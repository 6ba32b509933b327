/- Plain laws, without Go, that the law FnTouchedBy leans on. No condition. -/
import Derived.Test.YtlnaejkbanpcjaaFx0
import Derived.Test.YtlnaejkbanpcjaaFx1
import Derived.Test.YtlnaejkbanpcjaaFx2
import Derived.Test.YtlnaejkbanpcjaaFx3
import Derived.Test.YtlnaejkbanpcjaaFx4
import Derived.Test.YtlnaejkbanpcjaaFx5
import Derived.Test.YtlnaejkbanpcjaaFx6
import Derived.Test.YtlnaejkbanpcjaaFx7
import Derived.Test.YtlnaejkbanpcjaaFx8
import Derived.Test.YtlnaejkbanpcjaaFx9
import Derived.Test.YtlnaejkbanpcjaaWMore
import Derived.IntWalk
import Derived.Laws.BitsLemmas
import Derived.Lib.Bytealg
import Derived.Lib.Strings
set_option linter.unusedSimpArgs false
set_option linter.unusedVariables false
namespace Go.Proofs.Ytlnaejkbanpcjaa.F
open Go.RowKit Go.Proofs.YtlnaejkbanpcjaaW.PrintWords Go.Proofs.YtlnaejkbanpcjaaW.PrintLast Go.Proofs.YtlnaejkbanpcjaaW.PrintMore
theorem Ev.iteT {α : Type} {c : Prop} [Decidable c] {g f : Nat → Option α} {r : α} (h : c) (k : Ev g r) : Ev (fun n => if c then g n else f n) r := by
  simpa only [if_pos h] using k
theorem Ev.iteF {α : Type} {c : Prop} [Decidable c] {g f : Nat → Option α} {r : α} (h : ¬ c) (k : Ev f r) : Ev (fun n => if c then g n else f n) r := by
  simpa only [if_neg h] using k
/-- A callee without rounds. -/
theorem Ev.bind0 {α β : Type} {g : Option α} {f : Nat → α → Option β} {a : α} {r : β} (h : g = some a) (k : Ev (fun n => f n a) r) : Ev (fun n => g.bind (f n)) r := by
  subst h
  simpa only [Option.bind_some] using k
theorem Ev.some_ {α : Type} {x r : α} (h : x = r) : Ev (fun _ => some x) r := ⟨0, fun _ _ => by rw [h]⟩
theorem Ev.bool {b r : Bool} (h : b = r) : Ev (fun _ => some b) r := Ev.some_ h
theorem wrapN {i : Nat} (h : i < 4611686018427387904) : wrap64 ((i : Int) + 1) = ((i + 1 : Nat) : Int) := by
  unfold wrap64
  omega
theorem wrapI {x : Int} (h : -9223372036854775808 ≤ x ∧ x ≤ 9223372036854775807) : wrap64 x = x := by
  unfold wrap64
  omega
theorem rdOf_nat {α : Type} (d : α) (l : List α) (i : Nat) (h : i < l.length) : rdOf d l (i : Int) = l[i] := by
  simp [rdOf, List.getD_eq_getElem?_getD, List.getElem?_eq_getElem h]
theorem rd_nat (l : List Int) (i : Nat) (h : i < l.length) : rd l (i : Int) = l[i] := by
  simp [rd, List.getD_eq_getElem?_getD, List.getElem?_eq_getElem h]
theorem getD_nat {α : Type} (d : α) (l : List α) (i : Nat) (h : i < l.length) : l.getD (i : Int).toNat d = l[i] := by
  simp [List.getD_eq_getElem?_getD, List.getElem?_eq_getElem h]
theorem size_list (s : ByteArray) : s.data.toList.length = s.size := by rw [Array.length_toList]; rfl
theorem bt_nat (s : ByteArray) (i : Nat) (h : i < s.data.toList.length) : bt s (i : Int) = ((s.data.toList[i]).toNat : Int) := by
  have h' : i < s.size := by rw [← size_list]; exact h
  unfold bt
  rw [dif_pos (by simpa using h')]
  rfl
/-- A list seen from place i on. -/
theorem drop_cons {α : Type} {l : List α} {i : Nat} {b : α} {t : List α} (h : l.drop i = b :: t) : ∃ hi : i < l.length, l[i] = b ∧ l.drop (i + 1) = t := by
  have hi : i < l.length := by
    rcases Nat.lt_or_ge i l.length with h1 | h1
    · exact h1
    · rw [List.drop_of_length_le h1] at h
      cases h
  refine ⟨hi, ?_, ?_⟩
  · rw [List.drop_eq_getElem_cons hi] at h
    exact (List.cons.inj h).1
  · rw [List.drop_eq_getElem_cons hi] at h
    exact (List.cons.inj h).2
theorem drop_nil {α : Type} {l : List α} {i : Nat} (h : l.drop i = []) : l.length ≤ i := by
  have := congrArg List.length h
  rw [List.length_drop] at this
  simpa using Nat.sub_eq_zero_iff_le.1 this
theorem toList_inj {a b : ByteArray} (h : a.toList = b.toList) : a = b := by
  rw [Lib.toList_data, Lib.toList_data] at h
  cases a with
  | mk x => cases b with
    | mk y =>
      have : x = y := Array.ext' h
      rw [this]
theorem toList_iff {a b : ByteArray} : a.toList = b.toList ↔ a = b := ⟨toList_inj, fun h => by rw [h]⟩
def lowB (b : UInt8) : Bool := decide (97 ≤ (b.toNat : Int)) && decide ((b.toNat : Int) ≤ 122)
/-- What is asked of a name behind its letters. -/
def nameEnd (s : ByteArray) : Bool := decide (1 ≤ s.size) && (decide (s.size ≤ 6) && (s.toList != ([97, 110, 100] : List UInt8) && (s.toList != ([111, 114] : List UInt8) && s.toList != ([110, 111, 116] : List UInt8))))
def nameS (s : ByteArray) : Bool := s.data.toList.all lowB && nameEnd s
theorem nameOk_loop (s : ByteArray) (hs : s.size ≤ 4611686018427387903) : ∀ (t : List UInt8) (i : Nat), s.data.toList.drop i = t → i ≤ s.size →
    Ev (fun k => impl_nameOk.l0 k s (s.size : Int) (i : Int)) (t.all lowB && nameEnd s) := by
  intro t
  induction t with
  | nil =>
    intro i h hi
    have hl := drop_nil h
    rw [size_list] at hl
    refine Ev.step (fun k => rfl) (Ev.iteF (by omega) ?_)
    simp only [List.all_nil, Bool.true_and]
    unfold nameEnd
    by_cases h1 : 1 ≤ s.size
    · refine Ev.iteT (by omega) ?_
      by_cases h2 : s.size ≤ 6
      · refine Ev.iteT (by omega) ?_
        by_cases h3 : s.toList = ([97, 110, 100] : List UInt8)
        · exact Ev.iteT h3 (Ev.bool (by simp [h3]))
        · refine Ev.iteF h3 ?_
          by_cases h4 : s.toList = ([111, 114] : List UInt8)
          · exact Ev.iteT h4 (Ev.bool (by simp [h4]))
          · exact Ev.iteF h4 (Ev.bool (by simp [h1, h2, bne_iff_ne.2 h3, bne_iff_ne.2 h4]))
      · exact Ev.iteF (by omega) (Ev.bool (by simp [h2]))
    · exact Ev.iteF (by omega) (Ev.bool (by simp [h1]))
  | cons b t ih =>
    intro i h hi
    obtain ⟨hl, hb, ht⟩ := drop_cons h
    have hl' := hl
    rw [size_list] at hl'
    refine Ev.step (fun k => rfl) (Ev.iteT (by omega) (Ev.iteT (by omega) (Ev.iteT (by omega) ?_)))
    rw [bt_nat s i hl, hb]
    by_cases h1 : (b.toNat : Int) < 97
    · exact Ev.iteT h1 (Ev.bool (by simp [lowB]; omega))
    · refine Ev.iteF h1 ?_
      by_cases h2 : (b.toNat : Int) > 122
      · exact Ev.iteT h2 (Ev.bool (by simp [lowB]; omega))
      · refine Ev.iteF h2 ?_
        rw [wrapN (by omega)]
        have := ih (i + 1) ht (by omega)
        have e : lowB b = true := by simp [lowB]; omega
        simpa [List.all_cons, e] using this
theorem nameOk_ev (s : ByteArray) (hs : s.size ≤ 4611686018427387903) : Ev (fun k => impl_nameOk.f k s) (nameS s) :=
  nameOk_loop s hs _ 0 rfl (Nat.zero_le _)
theorem inRange_ev (a b c : Int) : spec_inRange.f a b c = some (decide (b ≤ a ∧ a ≤ c)) := by
  unfold spec_inRange.f
  by_cases h : b ≤ a
  · rw [if_pos h]
    simp [h]
  · rw [if_neg h]
    simp [h]
theorem validName_loop (s : ByteArray) (hs : s.size ≤ 4611686018427387903) : ∀ (t : List UInt8) (i : Nat), s.data.toList.drop i = t → i ≤ s.size →
    Ev (fun k => spec_validName.l0 k s (i : Int)) (t.all lowB && nameEnd s) := by
  intro t
  induction t with
  | nil =>
    intro i h hi
    have hl := drop_nil h
    rw [size_list] at hl
    refine Ev.step (fun k => rfl) (Ev.iteF (by omega) (Ev.bind0 (inRange_ev _ _ _) ?_))
    simp only [List.all_nil, Bool.true_and]
    unfold nameEnd
    by_cases h1 : 1 ≤ s.size
    · by_cases h2 : s.size ≤ 6
      · refine Ev.iteT (by simp; omega) ?_
        by_cases h3 : s.toList = ([97, 110, 100] : List UInt8)
        · exact Ev.iteT h3 (Ev.bool (by simp [h3]))
        · refine Ev.iteF h3 ?_
          by_cases h4 : s.toList = ([111, 114] : List UInt8)
          · exact Ev.iteT h4 (Ev.bool (by simp [h4]))
          · exact Ev.iteF h4 (Ev.bool (by simp [h1, h2, bne_iff_ne.2 h3, bne_iff_ne.2 h4]))
      · exact Ev.iteF (by simp; omega) (Ev.bool (by simp [h2]))
    · exact Ev.iteF (by simp; omega) (Ev.bool (by simp [h1]))
  | cons b t ih =>
    intro i h hi
    obtain ⟨hl, hb, ht⟩ := drop_cons h
    have hl' := hl
    rw [size_list] at hl'
    refine Ev.step (fun k => rfl) (Ev.iteT (by omega) (Ev.iteT (by omega) ?_))
    rw [bt_nat s i hl, hb]
    by_cases h1 : (b.toNat : Int) < 97
    · exact Ev.iteT h1 (Ev.bool (by simp [lowB]; omega))
    · refine Ev.iteF h1 ?_
      by_cases h2 : (b.toNat : Int) > 122
      · exact Ev.iteT h2 (Ev.bool (by simp [lowB]; omega))
      · refine Ev.iteF h2 ?_
        rw [wrapN (by omega)]
        have := ih (i + 1) ht (by omega)
        have e : lowB b = true := by simp [lowB]; omega
        simpa [List.all_cons, e] using this
theorem validName_ev (s : ByteArray) (hs : s.size ≤ 4611686018427387903) : Ev (fun k => spec_validName.f k s) (nameS s) :=
  validName_loop s hs _ 0 rfl (Nat.zero_le _)
theorem extract_size_le (s : ByteArray) (a b : Nat) : (s.extract a b).size ≤ s.size := by
  rw [ByteArray.size_extract]
  omega
theorem indexByte_cons (b : UInt8) (l : List UInt8) (c : UInt8) : Lib.indexByte (b :: l) c = if b = c then 0 else if Lib.indexByte l c < 0 then -1 else Lib.indexByte l c + 1 := by
  have hg := Lib.indexByte_ge l c
  rw [Lib.indexByte]
  by_cases h : b = c
  · simp [h]
  · have h1 : (b == c) = false := by simpa using h
    rw [h1, if_neg h]
    simp only [Bool.false_eq_true, if_false]
    by_cases h2 : Lib.indexByte l c = -1
    · rw [h2]
      simp
    · have h3 : (Lib.indexByte l c == -1) = false := by simpa using h2
      have h4 : ¬ Lib.indexByte l c < 0 := by omega
      rw [h3, if_neg h4]
      simp
theorem indexByte_lt (l : List UInt8) (c : UInt8) : Lib.indexByte l c < l.length := by
  induction l with
  | nil => simp [Lib.indexByte]
  | cons b l ih =>
    rw [indexByte_cons]
    have hg := Lib.indexByte_ge l c
    simp only [List.length_cons]
    split
    · omega
    · split <;> omega
/-- Where the first point stands, and whether both sides of it are names. -/
def idS (s : ByteArray) : Bool := decide (0 ≤ Lib.indexByte s.data.toList 46) && (nameS (s.extract 0 (Lib.indexByte s.data.toList 46).toNat) && nameS (s.extract ((Lib.indexByte s.data.toList 46).toNat + 1) s.size))
theorem stringsCut_at (s : ByteArray) (c : UInt8) (hs : s.size ≤ 4611686018427387903) :
    strings_Cut.f s ⟨#[c]⟩ = some (if 0 ≤ Lib.indexByte s.data.toList c then (s.extract 0 (Lib.indexByte s.data.toList c).toNat, s.extract ((Lib.indexByte s.data.toList c).toNat + 1) s.size, true) else (s, ⟨#[]⟩, false)) := by
  have hg := Lib.indexByte_ge s.data.toList c
  have hl := indexByte_lt s.data.toList c
  rw [size_list] at hl
  have e1 : (⟨#[c]⟩ : ByteArray).size = 1 := rfl
  have e : stringslite_Index.f s ⟨#[c]⟩ = some (Lib.indexByte s.data.toList c) := rfl
  unfold strings_Cut.f stringslite_Cut.f
  rw [e]
  simp only [Option.bind_some, e1]
  generalize Lib.indexByte s.data.toList c = i at hg hl ⊢
  by_cases h : 0 ≤ i
  · have ew : wrap64 (i + ((1 : Nat) : Int)) = ((i.toNat + 1 : Nat) : Int) := by unfold wrap64; omega
    rw [if_pos h, if_pos h, if_pos (by omega), ew, if_pos (by omega), if_pos (by omega), if_pos h, Int.toNat_natCast]
    rfl
  · rw [if_neg h, if_neg h]
    rfl
theorem idOk_ev (s : ByteArray) (hs : s.size ≤ 4611686018427387903) : Ev (fun k => impl_idOk.f k s) (idS s) := by
  unfold impl_idOk.f idS
  refine Ev.bind0 (stringsCut_at s 46 hs) ?_
  by_cases h : 0 ≤ Lib.indexByte s.data.toList 46
  · simp only [if_pos h]
    have n1 := nameOk_ev (s.extract 0 (Lib.indexByte s.data.toList 46).toNat) (by have := extract_size_le s 0 (Lib.indexByte s.data.toList 46).toNat; omega)
    have n2 := nameOk_ev (s.extract ((Lib.indexByte s.data.toList 46).toNat + 1) s.size) (by have := extract_size_le s ((Lib.indexByte s.data.toList 46).toNat + 1) s.size; omega)
    refine Ev.iteT (by trivial) (Ev.bind n1 ?_)
    cases hn : nameS (s.extract 0 (Lib.indexByte s.data.toList 46).toNat) with
    | true => exact Ev.iteT rfl (Ev.bind n2 (Ev.bool (by simp [h])))
    | false => exact Ev.iteF (by simp) (Ev.bool (by simp))
  · simp only [if_neg h]
    exact Ev.iteF (by simp) (Ev.bool (by simp [h]))
theorem validId_loop (s : ByteArray) (hs : s.size ≤ 4611686018427387903) : ∀ (t : List UInt8) (i : Nat), s.data.toList.drop i = t → i ≤ s.size →
    Ev (fun k => spec_validId.l0 k s (i : Int)) (decide (0 ≤ Lib.indexByte t 46) && (nameS (s.extract 0 (i + (Lib.indexByte t 46).toNat)) && nameS (s.extract (i + (Lib.indexByte t 46).toNat + 1) s.size))) := by
  intro t
  induction t with
  | nil =>
    intro i h hi
    have hl := drop_nil h
    rw [size_list] at hl
    exact Ev.step (fun k => rfl) (Ev.iteF (by omega) (Ev.bool (by simp [Lib.indexByte])))
  | cons b t ih =>
    intro i h hi
    obtain ⟨hl, hb, ht⟩ := drop_cons h
    have hl' := hl
    rw [size_list] at hl'
    refine Ev.step (fun k => rfl) (Ev.iteT (by omega) (Ev.iteT (by omega) ?_))
    rw [bt_nat s i hl, hb]
    by_cases h1 : b = 46
    · subst h1
      refine Ev.iteT (by decide) (Ev.iteT (by omega) ?_)
      have n1 := validName_ev (s.extract 0 i) (by have := extract_size_le s 0 i; omega)
      have n2 := validName_ev (s.extract (i + 1) s.size) (by have := extract_size_le s (i + 1) s.size; omega)
      rw [indexByte_cons, if_pos rfl]
      simp only [Int.toNat_natCast, Int.toNat_zero, Nat.add_zero, Int.le_refl, decide_true, Bool.true_and]
      refine Ev.bind n1 ?_
      rw [wrapN (by omega)]
      cases hn : nameS (s.extract 0 i) with
      | true =>
        refine Ev.iteT rfl (Ev.iteT (by omega) (Ev.iteT (by omega) ?_))
        rw [Int.toNat_natCast]
        exact Ev.bind n2 (Ev.bool (by simp))
      | false => exact Ev.iteF (by simp) (Ev.bool (by simp))
    · have hne : ¬ (b.toNat : Int) = 46 := fun h2 => h1 (by apply UInt8.toNat.inj; simp; omega)
      refine Ev.iteF hne ?_
      rw [wrapN (by omega)]
      have := ih (i + 1) ht (by omega)
      rw [indexByte_cons, if_neg h1]
      have hg := Lib.indexByte_ge t 46
      by_cases h2 : Lib.indexByte t 46 < 0
      · rw [if_pos h2]
        rw [show decide (0 ≤ Lib.indexByte t 46) = false from decide_eq_false (by omega)] at this
        simpa using this
      · rw [if_neg h2]
        have e1 : (Lib.indexByte t 46 + 1).toNat = (Lib.indexByte t 46).toNat + 1 := by omega
        rw [e1, show i + ((Lib.indexByte t 46).toNat + 1) = i + 1 + (Lib.indexByte t 46).toNat from by omega, show decide (0 ≤ Lib.indexByte t 46 + 1) = true from decide_eq_true (by omega)]
        rw [show decide (0 ≤ Lib.indexByte t 46) = true from decide_eq_true (by omega)] at this
        exact this
theorem validId_ev (s : ByteArray) (hs : s.size ≤ 4611686018427387903) : Ev (fun k => spec_validId.f k s) (idS s) := by
  have := validId_loop s hs _ 0 rfl (Nat.zero_le _)
  simp only [Nat.zero_add] at this
  exact this
def memB (l : List ByteArray) (x : ByteArray) : Bool := l.any fun y => decide (y = x)
theorem memB_iff {l : List ByteArray} {x : ByteArray} : memB l x = true ↔ x ∈ l := by
  simp [memB]
theorem memB_eq {l : List ByteArray} {x : ByteArray} {p : Prop} [Decidable p] (h : p ↔ x ∈ l) : decide p = memB l x := by
  rw [Bool.eq_iff_iff, memB_iff]
  simpa using h
theorem index_loop (l : List ByteArray) (x : ByteArray) (hl : l.length ≤ 4611686018427387903) : ∀ (t : List ByteArray) (i : Nat), l.drop i = t → i ≤ l.length →
    ∃ r : Int, Ev (fun k => slices_Index_string_string.l0 k l x (l.length : Int) (i : Int)) r ∧ (0 ≤ r ↔ x ∈ t) := by
  intro t
  induction t with
  | nil =>
    intro i h hi
    have hl2 := drop_nil h
    exact ⟨-1, Ev.step (fun k => rfl) (Ev.iteF (by omega) (Ev.some_ rfl)), by simp⟩
  | cons b t ih =>
    intro i h hi
    obtain ⟨hl2, hb, ht⟩ := drop_cons h
    by_cases h1 : x = b
    · refine ⟨(i : Int), Ev.step (fun k => rfl) (Ev.iteT (by omega) (Ev.iteT (by omega) (Ev.iteT (by omega) (Ev.iteT ?_ (Ev.some_ rfl))))), by simp [h1]⟩
      rw [rdOf_nat _ _ _ hl2, hb, h1]
    · obtain ⟨r, hr, hm⟩ := ih (i + 1) ht (by omega)
      refine ⟨r, Ev.step (fun k => rfl) (Ev.iteT (by omega) (Ev.iteT (by omega) (Ev.iteT (by omega) (Ev.iteF ?_ ?_)))), by simp [h1, hm]⟩
      · rw [rdOf_nat _ _ _ hl2, hb, toList_iff]
        exact h1
      · rw [wrapN (by omega)]
        exact hr
theorem contains_ev (l : List ByteArray) (x : ByteArray) (hl : l.length ≤ 4611686018427387903) : Ev (fun k => slices_Contains_string_string.f k l x) (memB l x) := by
  obtain ⟨r, hr, hm⟩ := index_loop l x hl l 0 rfl (Nat.zero_le _)
  exact Ev.bind hr (Ev.bool (memB_eq hm))
theorem nodup_take_succ {α : Type} (l : List α) (i : Nat) (h : i < l.length) : (l.take (i + 1)).Nodup ↔ (l.take i).Nodup ∧ l[i] ∉ l.take i := by
  rw [List.take_succ_eq_append_getElem h, List.nodup_append]
  simp only [List.nodup_cons, List.not_mem_nil, not_false_eq_true, List.nodup_nil, and_self, true_and, List.mem_singleton, forall_eq]
  exact ⟨fun ⟨a, b⟩ => ⟨a, fun hm => b _ hm rfl⟩, fun ⟨a, b⟩ => ⟨a, fun x hx e => b (e ▸ hx)⟩⟩
theorem nodup_of_take {α : Type} (l : List α) (i : Nat) (h : ¬ (l.take i).Nodup) : ¬ l.Nodup := fun hn => h (hn.sublist (List.take_sublist _ _))
theorem apart_loop (l : List ByteArray) (hl : l.length ≤ 4611686018427387903) : ∀ (d i : Nat), i + d = l.length → (l.take i).Nodup →
    Ev (fun k => impl_apart.l0 k l l (l.length : Int) (i : Int)) (decide l.Nodup) := by
  intro d
  induction d with
  | zero =>
    intro i hd hn
    have e : l.take i = l := List.take_of_length_le (by omega)
    rw [e] at hn
    exact Ev.step (fun k => rfl) (Ev.iteF (by omega) (Ev.some_ (by simp [hn])))
  | succ d ih =>
    intro i hd hn
    have hi : i < l.length := by omega
    refine Ev.step (fun k => rfl) (Ev.iteT (by omega) (Ev.iteT (by omega) (Ev.iteT (by omega) (Ev.iteT (by omega) ?_))))
    rw [Int.toNat_natCast, rdOf_nat _ _ _ hi]
    refine Ev.bind (contains_ev (l.take i) l[i] (by rw [List.length_take]; omega)) ?_
    by_cases hm : l[i] ∈ l.take i
    · refine Ev.iteT (memB_iff.2 hm) (Ev.bool ?_)
      have : ¬ l.Nodup := nodup_of_take l (i + 1) (fun h => ((nodup_take_succ l i hi).1 h).2 hm)
      simp [this]
    · refine Ev.iteF (by rw [memB_iff]; exact hm) ?_
      rw [wrapN (by omega)]
      exact ih (i + 1) (by omega) ((nodup_take_succ l i hi).2 ⟨hn, hm⟩)
theorem apart_ev (l : List ByteArray) (hl : l.length ≤ 4611686018427387903) : Ev (fun k => impl_apart.f k l) (decide l.Nodup) :=
  apart_loop l hl l.length 0 (by omega) (by simp)
/-- All in a list are of a size that numbers hold. -/
def SizesOk (l : List ByteArray) : Prop := ∀ x ∈ l, x.size ≤ 4611686018427387903
def idsS (l : List ByteArray) : Bool := l.all idS && (decide (l.length ≤ 10) && decide l.Nodup)
theorem idsOk_loop (l : List ByteArray) (hl : l.length ≤ 4611686018427387903) (hz : SizesOk l) : ∀ (t : List ByteArray) (i : Nat), l.drop i = t → i ≤ l.length →
    Ev (fun k => impl_idsOk.l0 k l l (l.length : Int) (i : Int)) (t.all idS && (decide (l.length ≤ 10) && decide l.Nodup)) := by
  intro t
  induction t with
  | nil =>
    intro i h hi
    have hl2 := drop_nil h
    refine Ev.step (fun k => rfl) (Ev.iteF (by omega) ?_)
    by_cases h1 : l.length ≤ 10
    · exact Ev.iteT (by omega) (Ev.bind (apart_ev l hl) (Ev.bool (by simp [h1])))
    · exact Ev.iteF (by omega) (Ev.bool (by simp [h1]))
  | cons b t ih =>
    intro i h hi
    obtain ⟨hl2, hb, ht⟩ := drop_cons h
    refine Ev.step (fun k => rfl) (Ev.iteT (by omega) (Ev.iteT (by omega) (Ev.iteT (by omega) ?_)))
    rw [rdOf_nat _ _ _ hl2, hb]
    have hs : b.size ≤ 4611686018427387903 := hz b (hb ▸ List.getElem_mem hl2)
    refine Ev.bind (idOk_ev b hs) ?_
    cases hn : idS b with
    | true =>
      refine Ev.iteT rfl ?_
      rw [wrapN (by omega)]
      simpa [List.all_cons, hn] using ih (i + 1) ht (by omega)
    | false => exact Ev.iteF (by simp) (Ev.bool (by simp [hn]))
theorem idsOk_ev (l : List ByteArray) (hl : l.length ≤ 4611686018427387903) (hz : SizesOk l) : Ev (fun k => impl_idsOk.f k l) (idsS l) :=
  idsOk_loop l hl hz l 0 rfl (Nat.zero_le _)
theorem xor_nat (a b : Nat) (ha : a < 2 ^ 62) (hb : b < 2 ^ 62) : bits .xor .i64 a b = ((a ^^^ b : Nat) : Int) := by
  have hk : IntKind.i64.bits = 64 := rfl
  have ha' : a % 2 ^ 64 = a := Nat.mod_eq_of_lt (by omega)
  have hb' : b % 2 ^ 64 = b := Nat.mod_eq_of_lt (by omega)
  have hx := Nat.xor_lt_two_pow ha hb
  simp only [bits, hk, BitVec.ofInt_natCast, BitVec.toNat_xor, BitVec.toNat_ofNat, ha', hb']
  rw [IntKind.wrap_i64]
  omega
theorem xor_nonneg (a b : Int) (ha : 0 ≤ a) (ha' : a < 4611686018427387904) (hb : 0 ≤ b) (hb' : b < 4611686018427387904) : 0 ≤ bits .xor .i64 a b := by
  obtain ⟨x, rfl⟩ := Int.eq_ofNat_of_zero_le ha
  obtain ⟨y, rfl⟩ := Int.eq_ofNat_of_zero_le hb
  rw [xor_nat x y (by omega) (by omega)]
  omega
/-- A code: what a reader reads. -/
structure Code_ (b : List Int) : Prop where
  len : b.length ≤ 2000
  byte : ∀ x ∈ b, 0 ≤ x ∧ x ≤ 255
theorem Code_.at_ {b : List Int} (h : Code_ b) (i : Int) (h0 : 0 ≤ i) (h1 : i < b.length) : 0 ≤ rd b i ∧ rd b i ≤ 255 := by
  obtain ⟨j, rfl⟩ := Int.eq_ofNat_of_zero_le h0
  rw [rd_nat b j (by omega)]
  exact h.byte _ (List.getElem_mem _)
theorem Code_.nil : Code_ [] := ⟨by simp, by simp⟩
theorem newReader_ev (l : List Int) (h : ∀ x ∈ l, 0 ≤ x ∧ x ≤ 255) : ∃ b, spec_newReader.f l = some (b, 0) ∧ Code_ b := by
  unfold spec_newReader.f
  by_cases h1 : (l.length : Int) > 2000
  · rw [if_pos h1, if_pos (by omega)]
    exact ⟨_, rfl, ⟨by rw [List.length_take]; omega, fun x hx => h x (List.mem_of_mem_take hx)⟩⟩
  · rw [if_neg h1]
    exact ⟨_, rfl, ⟨by omega, h⟩⟩
theorem pick_ev {b : List Int} (hb : Code_ b) (p n : Int) (h0 : 0 ≤ p) (h1 : p ≤ 1099511627776) (hn : n ≤ 1099511627776) :
    ∃ v, Ev (fun k => spec_reader_pick.f k b p n) (v, p + 1) ∧ 0 ≤ v ∧ (1 ≤ n → v < n) := by
  have w1 : wrap64 (p + 1) = p + 1 := wrapI (by omega)
  have w0 : wrap64 (p + 1 - 1) = p := by rw [wrapI (by omega)]; omega
  have hl := hb.len
  unfold spec_reader_pick.f
  rw [w1]
  by_cases c1 : n < 1
  · exact ⟨0, ⟨1, fun k hk => by obtain ⟨m, rfl⟩ : ∃ m, k = m + 1 := ⟨k - 1, by omega⟩; exact (if_pos c1).trans rfl⟩, by omega, by omega⟩
  · simp only [if_neg c1]
    by_cases c2 : b.length = 0
    · exact ⟨0, Ev.step (fun k => rfl) (Ev.iteT (by simp [c2]) (Ev.some_ rfl)), by omega, by omega⟩
    · by_cases c3 : p < (b.length : Int)
      · have ha := hb.at_ p h0 c3
        have w2 : wrap64 (rd b p) = rd b p := wrapI (by omega)
        refine ⟨Int.tmod (rd b p) n, Ev.step (fun k => rfl) (Ev.iteF (by simp only [beq_iff_eq]; omega) (Ev.iteT (by rw [w0]; exact c3) (Ev.iteT (by rw [w0]; exact h0) (Ev.iteF (by omega) (Ev.some_ ?_))))), Int.tmod_nonneg _ ha.1, fun _ => Int.tmod_lt_of_pos _ (by omega)⟩
        rw [w0, w2]
      · have hL : (0 : Int) < b.length := by omega
        have t1 : 0 ≤ Int.tmod p b.length := Int.tmod_nonneg _ h0
        have t2 : Int.tmod p b.length < b.length := Int.tmod_lt_of_pos _ hL
        have w3 : wrap64 (p * 7) = p * 7 := wrapI (by omega)
        have w4 : wrap64 (p * 7 + 3) = p * 7 + 3 := wrapI (by omega)
        have t3 : 0 ≤ Int.tmod (p * 7 + 3) b.length := Int.tmod_nonneg _ (by omega)
        have t4 : Int.tmod (p * 7 + 3) b.length < b.length := Int.tmod_lt_of_pos _ hL
        have a1 := hb.at_ _ t1 t2
        have a2 := hb.at_ _ t3 t4
        have d0 : 0 ≤ Int.tdiv p b.length := Int.tdiv_nonneg h0 (by omega)
        have d1 : Int.tdiv p b.length ≤ p := by
          rw [Int.tdiv_eq_ediv_of_nonneg h0]
          exact Int.ediv_le_self _ h0
        generalize hA : rd b (Int.tmod p b.length) = A at a1
        generalize hB : rd b (Int.tmod (p * 7 + 3) b.length) = B at a2
        generalize hQ : Int.tdiv p b.length = Q at d0 d1
        have v1 : wrap64 A = A := wrapI (by omega)
        have v2 : wrap64 (A * 131) = A * 131 := wrapI (by omega)
        have v3 : wrap64 B = B := wrapI (by omega)
        have v4 : wrap64 (B * 1117) = B * 1117 := wrapI (by omega)
        have v5 : wrap64 (A * 131 + B * 1117) = A * 131 + B * 1117 := wrapI (by omega)
        have v6 : wrap64 (p * 29) = p * 29 := wrapI (by omega)
        have v7 : wrap64 (A * 131 + B * 1117 + p * 29) = A * 131 + B * 1117 + p * 29 := wrapI (by omega)
        have v8 : wrap64 Q = Q := wrapI (by omega)
        have v9 : wrap64 (Q * 53) = Q * 53 := wrapI (by omega)
        have v10 : wrap64 (A * 131 + B * 1117 + p * 29 + Q * 53) = A * 131 + B * 1117 + p * 29 + Q * 53 := wrapI (by omega)
        have x0 : 0 ≤ A * 131 + B * 1117 + p * 29 + Q * 53 := by omega
        have x1 : A * 131 + B * 1117 + p * 29 + Q * 53 < 4611686018427387904 := by omega
        generalize hX : A * 131 + B * 1117 + p * 29 + Q * 53 = X at v10 x0 x1
        have e0 : 0 ≤ Int.tdiv X 64 := Int.tdiv_nonneg x0 (by omega)
        have e1 : Int.tdiv X 64 ≤ X := by
          rw [Int.tdiv_eq_ediv_of_nonneg x0]
          exact Int.ediv_le_self _ x0
        have v11 : wrap64 (Int.tdiv X 64) = Int.tdiv X 64 := wrapI (by omega)
        have hx := xor_nonneg X (Int.tdiv X 64) x0 x1 e0 (by omega)
        refine ⟨Int.tmod (bits .xor .i64 X (Int.tdiv X 64)) n, ?_, Int.tmod_nonneg _ hx, fun _ => Int.tmod_lt_of_pos _ (by omega)⟩
        refine Ev.step (fun k => rfl) (Ev.iteF (by simp only [beq_iff_eq]; omega) (Ev.iteF (by rw [w0]; exact c3) (Ev.iteF (by omega) ?_)))
        simp only [w0, w3, w4]
        refine Ev.iteT t1 (Ev.iteT t2 (Ev.iteT t3 (Ev.iteT t4 (Ev.iteF (by omega) (Ev.some_ ?_)))))
        simp only [hA, hB, hQ, v1, v2, v3, v4, v5, v6, v7, v8, v9, hX, v10, v11]
theorem of_ev {b : List Int} (hb : Code_ b) (p : Int) (h0 : 0 ≤ p) (h1 : p ≤ 1099511627776) (l : List ByteArray) (hl : 1 ≤ l.length) (hl' : l.length ≤ 1000) :
    ∃ x, x ∈ l ∧ Ev (fun k => spec_reader_of.f k b p l) (x, p + 1) := by
  obtain ⟨v, hv, v0, v1⟩ := pick_ev hb p (l.length : Int) h0 h1 (by omega)
  have v1 := v1 (by omega)
  obtain ⟨j, rfl⟩ := Int.eq_ofNat_of_zero_le v0
  refine ⟨l[j]'(by omega), List.getElem_mem _, ?_⟩
  unfold spec_reader_of.f
  exact Ev.bind hv (Ev.iteT v0 (Ev.iteT v1 (Ev.some_ (by rw [rdOf_nat _ _ _ (by omega)]))))
theorem one_ev {b : List Int} (hb : Code_ b) (p : Int) (h0 : 0 ≤ p) (h1 : p ≤ 1099511627776) (l : List Int) (hl : 1 ≤ l.length) (hl' : l.length ≤ 1000) :
    ∃ x, x ∈ l ∧ Ev (fun k => spec_reader_one.f k b p l) (x, p + 1) := by
  obtain ⟨v, hv, v0, v1⟩ := pick_ev hb p (l.length : Int) h0 h1 (by omega)
  have v1 := v1 (by omega)
  obtain ⟨j, rfl⟩ := Int.eq_ofNat_of_zero_le v0
  refine ⟨l[j]'(by omega), List.getElem_mem _, ?_⟩
  unfold spec_reader_one.f
  exact Ev.bind hv (Ev.iteT v0 (Ev.iteT v1 (Ev.some_ (by rw [rd_nat _ _ (by omega)]))))
theorem aModule_ev {b : List Int} (hb : Code_ b) (p : Int) (h0 : 0 ≤ p) (h1 : p ≤ 1099511627776) :
    ∃ x, x.size = 1 ∧ Ev (fun k => spec_aModule.f k b p) (x, p + 1) := by
  obtain ⟨x, hx, he⟩ := of_ev hb p h0 h1 [(⟨#[109]⟩ : ByteArray), (⟨#[110]⟩ : ByteArray), (⟨#[109]⟩ : ByteArray), (⟨#[107]⟩ : ByteArray)] (by decide) (by decide)
  refine ⟨x, ?_, Ev.bind he (Ev.some_ rfl)⟩
  simp only [List.mem_cons, List.not_mem_nil, or_false] at hx
  rcases hx with rfl | rfl | rfl | rfl <;> rfl
theorem anId_ev {b : List Int} (hb : Code_ b) (p : Int) (h0 : 0 ≤ p) (h1 : p ≤ 1099511627775) :
    ∃ x, x.size = 3 ∧ Ev (fun k => spec_anId.f k b p) (x, p + 2) := by
  obtain ⟨m, hm, he⟩ := aModule_ev hb p h0 (by omega)
  obtain ⟨y, hy, he2⟩ := of_ev hb (p + 1) (by omega) (by omega) [(⟨#[97]⟩ : ByteArray), (⟨#[98]⟩ : ByteArray), (⟨#[99]⟩ : ByteArray), (⟨#[100]⟩ : ByteArray), (⟨#[101]⟩ : ByteArray)] (by decide) (by decide)
  have hy1 : y.size = 1 := by
    simp only [List.mem_cons, List.not_mem_nil, or_false] at hy
    rcases hy with rfl | rfl | rfl | rfl | rfl <;> rfl
  refine ⟨(m ++ ⟨#[46]⟩) ++ y, by rw [ByteArray.size_append, ByteArray.size_append, hm, hy1]; rfl, ?_⟩
  unfold spec_anId.f
  exact Ev.bind he (Ev.iteT (by show m.size + 1 ≤ _; omega) (Ev.bind he2 (Ev.iteT (by show m.size + 1 + y.size ≤ _; omega) (Ev.some_ (by simp; omega)))))
theorem wfByte {x : Int} (h : (Lit.int .u8 x).wf = true) : 0 ≤ x ∧ x ≤ 255 := by
  simp [Lit.wf, IntKind.min, IntKind.max, IntKind.signed, IntKind.bits] at h
  omega
theorem equalTexts_loop (a : List ByteArray) (ha : a.length ≤ 4611686018427387903) : ∀ (d i : Nat), i + d = a.length → Ev (fun k => laws_equalTexts.l0 k a a (i : Int)) true := by
  intro d
  induction d with
  | zero =>
    intro i hd
    exact Ev.step (fun k => rfl) (Ev.iteF (by omega) (Ev.some_ rfl))
  | succ d ih =>
    intro i hd
    refine Ev.step (fun k => rfl) (Ev.iteT (by omega) (Ev.iteT (by omega) (Ev.iteT (by omega) (Ev.iteT rfl ?_))))
    rw [wrapN (by omega)]
    exact ih (i + 1) (by omega)
theorem equalTexts_ev (a : List ByteArray) (ha : a.length ≤ 4611686018427387903) : Ev (fun k => laws_equalTexts.f k a a) true := by
  unfold laws_equalTexts.f
  exact Ev.iteT rfl (equalTexts_loop a ha a.length 0 (by omega))
theorem lawHasText_loop (l : List ByteArray) (x : ByteArray) (hl : l.length ≤ 4611686018427387903) : ∀ (t : List ByteArray) (i : Nat), l.drop i = t → i ≤ l.length →
    Ev (fun k => laws_hasText.l0 k l x (i : Int)) (memB t x) := by
  intro t
  induction t with
  | nil =>
    intro i h hi
    have hl2 := drop_nil h
    exact Ev.step (fun k => rfl) (Ev.iteF (by omega) (Ev.some_ rfl))
  | cons b t ih =>
    intro i h hi
    obtain ⟨hl2, hb, ht⟩ := drop_cons h
    refine Ev.step (fun k => rfl) (Ev.iteT (by omega) (Ev.iteT (by omega) ?_))
    rw [rdOf_nat _ _ _ hl2, hb]
    by_cases h1 : b = x
    · exact Ev.iteT (by rw [h1]) (Ev.some_ (by simp [memB, h1]))
    · refine Ev.iteF (by rw [toList_iff]; exact h1) ?_
      rw [wrapN (by omega)]
      have e : memB (b :: t) x = memB t x := by simp [memB, h1]
      rw [e]
      exact ih (i + 1) ht (by omega)
theorem lawHasText_ev (l : List ByteArray) (x : ByteArray) (hl : l.length ≤ 4611686018427387903) : Ev (fun k => laws_hasText.f k l x) (memB l x) :=
  lawHasText_loop l x hl l 0 rfl (Nat.zero_le _)
theorem within2_loop (a b : List ByteArray) (ha : a.length ≤ 4611686018427387903) (hb : b.length ≤ 4611686018427387903) (h : ∀ x ∈ a, x ∈ b) : ∀ (d i : Nat), i + d = a.length → Ev (fun k => laws_within2.l0 k a b (i : Int)) true := by
  intro d
  induction d with
  | zero =>
    intro i hd
    exact Ev.step (fun k => rfl) (Ev.iteF (by omega) (Ev.some_ rfl))
  | succ d ih =>
    intro i hd
    have hi : i < a.length := by omega
    refine Ev.step (fun k => rfl) (Ev.iteT (by omega) (Ev.iteT (by omega) ?_))
    rw [rdOf_nat _ _ _ hi]
    refine Ev.bind (lawHasText_ev b a[i] hb) (Ev.iteT (memB_iff.2 (h _ (List.getElem_mem hi))) ?_)
    rw [wrapN (by omega)]
    exact ih (i + 1) (by omega)
theorem within2_ev (a b : List ByteArray) (ha : a.length ≤ 4611686018427387903) (hb : b.length ≤ 4611686018427387903) (h : ∀ x ∈ a, x ∈ b) : Ev (fun k => laws_within2.f k a b) true :=
  within2_loop a b ha hb h a.length 0 (by omega)
theorem lawApart_loop (l : List ByteArray) (hl : l.length ≤ 4611686018427387903) (hn : l.Nodup) : ∀ (d i : Nat), i + d = l.length → Ev (fun k => laws_apart.l0 k l (i : Int)) true := by
  intro d
  induction d with
  | zero =>
    intro i hd
    exact Ev.step (fun k => rfl) (Ev.iteF (by omega) (Ev.some_ rfl))
  | succ d ih =>
    intro i hd
    have hi : i < l.length := by omega
    refine Ev.step (fun k => rfl) (Ev.iteT (by omega) (Ev.iteT (by omega) (Ev.iteT (by omega) ?_)))
    rw [rdOf_nat _ _ _ hi, Int.toNat_natCast]
    refine Ev.bind (lawHasText_ev (l.take i) l[i] (by rw [List.length_take]; omega)) (Ev.iteF (fun h => ?_) ?_)
    · have hn2 : (l.take (i + 1)).Nodup := hn.sublist (List.take_sublist _ _)
      exact ((nodup_take_succ l i hi).1 hn2).2 (memB_iff.1 h)
    · rw [wrapN (by omega)]
      exact ih (i + 1) (by omega)
theorem lawApart_ev (l : List ByteArray) (hl : l.length ≤ 4611686018427387903) (hn : l.Nodup) : Ev (fun k => laws_apart.f k l) true :=
  lawApart_loop l hl hn l.length 0 (by omega)
theorem hasText_loop (l : List ByteArray) (x : ByteArray) (hl : l.length ≤ 4611686018427387903) : ∀ (t : List ByteArray) (i : Nat), l.drop i = t → i ≤ l.length →
    Ev (fun k => spec_hasText.l0 k l x (i : Int)) (memB t x) := by
  intro t
  induction t with
  | nil =>
    intro i h hi
    have hl2 := drop_nil h
    exact Ev.step (fun k => rfl) (Ev.iteF (by omega) (Ev.some_ rfl))
  | cons b t ih =>
    intro i h hi
    obtain ⟨hl2, hb, ht⟩ := drop_cons h
    refine Ev.step (fun k => rfl) (Ev.iteT (by omega) (Ev.iteT (by omega) ?_))
    rw [rdOf_nat _ _ _ hl2, hb]
    by_cases h1 : b = x
    · exact Ev.iteT (by rw [h1]) (Ev.some_ (by simp [memB, h1]))
    · refine Ev.iteF (by rw [toList_iff]; exact h1) ?_
      rw [wrapN (by omega)]
      have e : memB (b :: t) x = memB t x := by simp [memB, h1]
      rw [e]
      exact ih (i + 1) ht (by omega)
theorem hasText_ev (l : List ByteArray) (x : ByteArray) (hl : l.length ≤ 4611686018427387903) : Ev (fun k => spec_hasText.f k l x) (memB l x) :=
  hasText_loop l x hl l 0 rfl (Nat.zero_le _)
theorem validOrder_loop (l : List ByteArray) (hl : l.length ≤ 4611686018427387903) (hz : SizesOk l) : ∀ (d i : Nat), i + d = l.length → (l.take i).all idS = true → (l.take i).Nodup →
    Ev (fun k => spec_validOrder.l0 k l (i : Int)) (idsS l) := by
  intro d
  induction d with
  | zero =>
    intro i hd h1 h2
    have e : l.take i = l := List.take_of_length_le (by omega)
    rw [e] at h1 h2
    exact Ev.step (fun k => rfl) (Ev.iteF (by omega) (Ev.some_ (by unfold idsS; rw [h1]; simp [h2]; omega)))
  | succ d ih =>
    intro i hd h1 h2
    have hi : i < l.length := by omega
    have hmem : l[i] ∈ l := List.getElem_mem hi
    refine Ev.step (fun k => rfl) (Ev.iteT (by omega) (Ev.iteT (by omega) ?_))
    rw [rdOf_nat _ _ _ hi]
    refine Ev.bind (validId_ev l[i] (hz _ hmem)) ?_
    cases e1 : idS l[i] with
    | false =>
      refine Ev.iteF (by simp) (Ev.bool ?_)
      have : l.all idS = false := by
        rw [List.all_eq_false]
        exact ⟨_, hmem, by simp [e1]⟩
      unfold idsS
      rw [this]
      simp
    | true =>
      refine Ev.iteT rfl (Ev.iteT (by omega) ?_)
      rw [Int.toNat_natCast]
      refine Ev.bind (hasText_ev (l.take i) l[i] (by rw [List.length_take]; omega)) ?_
      have hn := nodup_take_succ l i hi
      by_cases e2 : memB (l.take i) l[i] = true
      · refine Ev.iteT e2 (Ev.bool ?_)
        have : ¬ l.Nodup := nodup_of_take l (i + 1) (fun h => (hn.1 h).2 (memB_iff.1 e2))
        unfold idsS
        simp [this]
      · refine Ev.iteF e2 ?_
        rw [wrapN (by omega)]
        refine ih (i + 1) (by omega) ?_ (hn.2 ⟨h2, fun h => e2 (memB_iff.2 h)⟩)
        rw [List.take_succ_eq_append_getElem hi, List.all_append, h1]
        simp [e1]
theorem validOrder_ev (l : List ByteArray) (hl : l.length ≤ 4611686018427387903) (hz : SizesOk l) : Ev (fun k => spec_validOrder.f k l) (idsS l) :=
  validOrder_loop l hl hz l.length 0 (by omega) (by simp) (by simp)
def addT (l : List ByteArray) (x : ByteArray) : List ByteArray := if memB l x = true then l else l ++ [x]
theorem addText_ev (l : List ByteArray) (x : ByteArray) (hl : l.length < 8796093022208) : Ev (fun k => spec_addText.f k l x) (addT l x) := by
  unfold spec_addText.f addT
  refine Ev.bind (hasText_ev l x (by omega)) ?_
  by_cases h : memB l x = true
  · exact Ev.iteT h (Ev.some_ (if_pos h).symm)
  · exact Ev.iteF h (Ev.iteT hl (Ev.some_ (if_neg h).symm))
theorem addT_len (l : List ByteArray) (x : ByteArray) : (addT l x).length ≤ l.length + 1 := by
  unfold addT
  split <;> simp
theorem addT_mem {l : List ByteArray} {x y : ByteArray} (h : y ∈ addT l x) : y ∈ l ∨ y = x := by
  unfold addT at h
  split at h
  · exact .inl h
  · rcases List.mem_append.1 h with h | h
    · exact .inl h
    · exact .inr (List.mem_singleton.1 h)
/-- Drawn lists of ids are short. -/
structure SmallIds (l : List ByteArray) : Prop where
  len : l.length ≤ 1000
  ids : ∀ x ∈ l, x.size ≤ 1000
theorem SmallIds.sizes {l : List ByteArray} (h : SmallIds l) : SizesOk l := fun x hx => by have := h.ids x hx; omega
theorem someOrder_loop {b : List Int} (hb : Code_ b) : ∀ (n : Nat) (x3 : List ByteArray) (p : Int), n ≤ 50 → x3.length + n ≤ 50 → (∀ x ∈ x3, x.size = 3) → 0 ≤ p → p + 4 * n ≤ 1000000 →
    ∃ l p', Ev (fun k => spec_someOrder.l0 k x3 (n : Int) b p) (l, p') ∧ SmallIds l ∧ 0 ≤ p' ∧ p' ≤ p + 4 * n + 2 := by
  intro n
  induction n with
  | zero =>
    intro x3 p hn hl hq h0 h1
    have small : SmallIds x3 := ⟨by omega, fun q hm => by rw [hq q hm]; omega⟩
    by_cases c1 : (x3.length : Int) > 0
    · obtain ⟨v, hv, v0, v1⟩ := pick_ev hb p 20 h0 (by omega) (by omega)
      by_cases c2 : v = 0
      · obtain ⟨y, hy, he⟩ := of_ev hb (p + 1) (by omega) (by omega) [rdOf ByteArray.empty x3 0, (⟨#[109]⟩ : ByteArray), (⟨#[88, 46, 97]⟩ : ByteArray)] (by simp) (by simp)
        have hys : y.size ≤ 1000 := by
          simp only [List.mem_cons, List.not_mem_nil, or_false] at hy
          rcases hy with rfl | rfl | rfl
          · have e := rdOf_nat ByteArray.empty x3 0 (by omega)
            simp only [Int.natCast_zero] at e
            rw [e, hq _ (List.getElem_mem _)]
            omega
          · show (1 : Nat) ≤ 1000; omega
          · show (3 : Nat) ≤ 1000; omega
        refine ⟨_, _, Ev.step (fun k => rfl) (Ev.iteF (by omega) (Ev.iteT c1 (Ev.bind hv (Ev.iteT c2 (Ev.iteT c1 (Ev.bind he (Ev.iteT (by omega) (Ev.some_ rfl)))))))), ⟨by rw [List.length_append, List.length_singleton]; omega, fun q hm => ?_⟩, by dsimp only; omega, by dsimp only; omega⟩
        rcases List.mem_append.1 hm with hm | hm
        · rw [hq q hm]; omega
        · rw [List.mem_singleton.1 hm]; exact hys
      · exact ⟨x3, p + 1, Ev.step (fun k => rfl) (Ev.iteF (by omega) (Ev.iteT c1 (Ev.bind hv (Ev.iteF c2 (Ev.some_ rfl))))), small, by omega, by omega⟩
    · exact ⟨x3, p, Ev.step (fun k => rfl) (Ev.iteF (by omega) (Ev.iteF c1 (Ev.some_ rfl))), small, h0, by omega⟩
  | succ n ih =>
    intro x3 p hn hl hq h0 h1
    obtain ⟨x, hx, he⟩ := anId_ev hb p h0 (by omega)
    have ha := addText_ev x3 x (by omega)
    have hal := addT_len x3 x
    have ew : wrap64 (((n + 1 : Nat) : Int) - 1) = (n : Int) := by rw [wrapI (by omega)]; omega
    obtain ⟨l, p', hr, hs, g0, g1⟩ := ih (addT x3 x) (p + 2) (by omega) (by omega) (fun q hm => by
      rcases addT_mem hm with hm | rfl
      · exact hq q hm
      · exact hx) (by omega) (by omega)
    refine ⟨l, p', Ev.step (fun k => rfl) (Ev.iteT (by omega) (Ev.bind he (Ev.bind ha ?_))), hs, g0, by omega⟩
    rw [ew]
    exact hr
theorem someOrder_ev {b : List Int} (hb : Code_ b) (p : Int) (h0 : 0 ≤ p) (h1 : p ≤ 100000) :
    ∃ l p', Ev (fun k => spec_someOrder.f k b p) (l, p') ∧ SmallIds l ∧ 0 ≤ p' ∧ p' ≤ p + 100 := by
  obtain ⟨y, hy, he⟩ := one_ev hb p h0 (by omega) [5, 4, 6, 3, 2, 0, 8] (by decide) (by decide)
  have hy2 : 0 ≤ y ∧ y ≤ 8 := by
    simp only [List.mem_cons, List.not_mem_nil, or_false] at hy
    omega
  obtain ⟨n, rfl⟩ := Int.eq_ofNat_of_zero_le hy2.1
  obtain ⟨l, p', hr, hs, g0, g1⟩ := someOrder_loop hb n [] (p + 1) (by omega) (by simp; omega) (fun q hq => by cases hq) (by omega) (by omega)
  exact ⟨l, p', Ev.bind he hr, hs, g0, by omega⟩
theorem rdC_nat (l : List S53) (i : Nat) (h : i < l.length) : rd_T53 l (i : Int) = l[i] := by
  unfold rd_T53
  exact getD_nat _ _ _ h
/-- Lines in 1..30, ascending from behind one. -/
def linesF : Int → List Int → Bool
  | _, [] => true
  | p, n :: t => decide (1 ≤ n) && decide (n ≤ 30) && decide (p < n) && linesF n t
def prevL (l : List Int) (i : Nat) : Int := if i = 0 then 0 else l.getD (i - 1) 0
theorem prevL_succ (l : List Int) (i : Nat) (h : i < l.length) : prevL l (i + 1) = l[i] := by
  unfold prevL
  rw [if_neg (by omega), Nat.add_sub_cancel, List.getD_eq_getElem?_getD, List.getElem?_eq_getElem h]
  rfl
def coversS (l : List S53) : Bool := l.all (fun c => linesF 0 c.f1) && idsS (l.map (·.f0))
structure CoverSizes (l : List S53) : Prop where
  len : l.length ≤ 8796093022207
  ids : ∀ c ∈ l, c.f0.size ≤ 4611686018427387903
  lines : ∀ c ∈ l, c.f1.length ≤ 4611686018427387903
theorem CoverSizes.take {l : List S53} (h : CoverSizes l) (n : Nat) : CoverSizes (l.take n) := ⟨by have := h.len; rw [List.length_take]; omega, fun c hc => h.ids c (List.mem_of_mem_take hc), fun c hc => h.lines c (List.mem_of_mem_take hc)⟩
theorem implCovers_l1 (L : List S53) (x3 : List ByteArray) (n x11 : Int) (id : ByteArray) (l : List Int) (hl : l.length ≤ 4611686018427387903) (hx : x3.length ≤ 8796093022207) (r : Bool) (hc : Ev (fun k => impl_ValidCovers.l0 k (x3 ++ [id]) L n (wrap64 (x11 + 1))) r) : ∀ (t : List Int) (i : Nat), l.drop i = t → i ≤ l.length →
    Ev (fun k => impl_ValidCovers.l1 k x3 L n x11 l (l.length : Int) (i : Int) id l) (linesF (prevL l i) t && r) := by
  intro t
  induction t with
  | nil =>
    intro i h hi
    have hl2 := drop_nil h
    exact Ev.step (fun k => rfl) (Ev.iteF (by omega) (Ev.iteT (by omega) (by simpa [linesF] using hc)))
  | cons m t ih =>
    intro i h hi
    obtain ⟨hl2, hb, ht⟩ := drop_cons h
    have hnext := ih (i + 1) ht (by omega)
    rw [prevL_succ l i hl2, hb] at hnext
    refine Ev.step (fun k => rfl) (Ev.iteT (by omega) (Ev.iteT (by omega) (Ev.iteT (by omega) ?_)))
    rw [rd_nat _ _ hl2, hb, wrapN (by omega)]
    unfold linesF
    by_cases c1 : m < 1
    · exact Ev.iteT c1 (Ev.some_ (by rw [decide_eq_false (show ¬ 1 ≤ m by omega)]; rfl))
    refine Ev.iteF c1 ?_
    rw [decide_eq_true (show 1 ≤ m by omega)]
    by_cases c2 : m > 30
    · exact Ev.iteT c2 (Ev.some_ (by rw [decide_eq_false (show ¬ m ≤ 30 by omega)]; rfl))
    refine Ev.iteF c2 ?_
    rw [decide_eq_true (show m ≤ 30 by omega)]
    by_cases c3 : i = 0
    · have e : prevL l i = 0 := if_pos c3
      rw [e, decide_eq_true (show 0 < m by omega)]
      exact Ev.iteF (by omega) (by simpa using hnext)
    · have ew : wrap64 ((i : Int) - 1) = ((i - 1 : Nat) : Int) := by rw [wrapI (by omega)]; omega
      have e : prevL l i = l[i - 1]'(by omega) := by
        unfold prevL
        rw [if_neg c3, List.getD_eq_getElem?_getD, List.getElem?_eq_getElem (by omega)]
        rfl
      refine Ev.iteT (by omega) ?_
      rw [ew]
      refine Ev.iteT (by omega) (Ev.iteT (by omega) ?_)
      rw [rd_nat _ _ (by omega), e]
      by_cases c4 : m ≤ l[i - 1]'(by omega)
      · exact Ev.iteT c4 (Ev.some_ (by rw [decide_eq_false (show ¬ l[i - 1]'(by omega) < m by omega)]; rfl))
      · refine Ev.iteF c4 ?_
        rw [decide_eq_true (show l[i - 1]'(by omega) < m by omega)]
        simpa using hnext
theorem implCovers_l0 (L : List S53) (h : CoverSizes L) : ∀ (t : List S53) (i : Nat), L.drop i = t → i ≤ L.length →
    Ev (fun k => impl_ValidCovers.l0 k ((L.take i).map (·.f0)) L (L.length : Int) (i : Int)) (t.all (fun c => linesF 0 c.f1) && idsS (L.map (·.f0))) := by
  have hlen := h.len
  intro t
  induction t with
  | nil =>
    intro i hd hi
    have hl2 := drop_nil hd
    rw [List.take_of_length_le (by omega)]
    refine Ev.step (fun k => rfl) (Ev.iteF (by omega) (Ev.bind (idsOk_ev (L.map (·.f0)) (by rw [List.length_map]; omega) (fun x hx => ?_)) (Ev.some_ rfl)))
    obtain ⟨c, hc, rfl⟩ := List.mem_map.1 hx
    exact h.ids c hc
  | cons c t ih =>
    intro i hd hi
    obtain ⟨hl2, hb, ht⟩ := drop_cons hd
    have hnext := ih (i + 1) ht (by omega)
    have hcm : c ∈ L := by rw [← hb]; exact List.getElem_mem hl2
    rw [List.take_succ_eq_append_getElem hl2, List.map_append, hb] at hnext
    have hl1 := implCovers_l1 L ((L.take i).map (·.f0)) (L.length : Int) (i : Int) c.f0 c.f1 (h.lines c hcm) (by rw [List.length_map, List.length_take]; omega) _ (by rw [wrapN (by omega)]; exact hnext) c.f1 0 rfl (Nat.zero_le _)
    refine Ev.step (fun k => rfl) (Ev.iteT (by omega) (Ev.iteT (by omega) (Ev.iteT (by omega) ?_)))
    rw [rdC_nat _ _ hl2, hb]
    rw [List.all_cons, Bool.and_assoc]
    exact hl1
theorem implCovers_ev (L : List S53) (h : CoverSizes L) : Ev (fun k => impl_ValidCovers.f k L) (coversS L) :=
  implCovers_l0 L h L 0 rfl (Nat.zero_le _)
theorem specCovers_l1 (L : List S53) (x3 : List ByteArray) (i0 : Nat) (h0 : i0 < L.length) (hl : (L[i0]).f1.length ≤ 4611686018427387903) (r : Bool) (hc : Ev (fun k => spec_validCovers.l0 k L x3 (wrap64 ((i0 : Int) + 1))) r) : ∀ (t : List Int) (i : Nat), (L[i0]).f1.drop i = t → i ≤ (L[i0]).f1.length →
    Ev (fun k => spec_validCovers.l1 k L x3 (i0 : Int) (i : Int)) (linesF (prevL (L[i0]).f1 i) t && r) := by
  intro t
  induction t with
  | nil =>
    intro i h hi
    have hl2 := drop_nil h
    refine Ev.step (fun k => rfl) (Ev.iteT (by omega) (Ev.iteT (by omega) ?_))
    rw [rdC_nat _ _ h0]
    exact Ev.iteF (by omega) (by simpa [linesF] using hc)
  | cons m t ih =>
    intro i h hi
    obtain ⟨hl2, hb, ht⟩ := drop_cons h
    have hnext := ih (i + 1) ht (by omega)
    rw [prevL_succ _ i hl2, hb] at hnext
    refine Ev.step (fun k => rfl) (Ev.iteT (by omega) (Ev.iteT (by omega) ?_))
    rw [rdC_nat _ _ h0]
    refine Ev.iteT (by omega) (Ev.iteT (by omega) ?_)
    rw [rd_nat _ _ hl2, hb, wrapN (by omega)]
    refine Ev.bind0 (inRange_ev m 1 30) ?_
    unfold linesF
    by_cases c1 : 1 ≤ m ∧ m ≤ 30
    · refine Ev.iteT (decide_eq_true c1) ?_
      rw [decide_eq_true c1.1, decide_eq_true c1.2]
      by_cases c3 : i = 0
      · have e : prevL (L[i0]).f1 i = 0 := if_pos c3
        rw [e, decide_eq_true (show 0 < m by omega)]
        exact Ev.iteF (by omega) (by simpa using hnext)
      · have ew : wrap64 ((i : Int) - 1) = ((i - 1 : Nat) : Int) := by rw [wrapI (by omega)]; omega
        have e : prevL (L[i0]).f1 i = (L[i0]).f1[i - 1]'(by omega) := by
          unfold prevL
          rw [if_neg c3, List.getD_eq_getElem?_getD, List.getElem?_eq_getElem (by omega)]
          rfl
        refine Ev.iteT (by omega) ?_
        rw [ew]
        refine Ev.iteT (by omega) (Ev.iteT (by omega) ?_)
        rw [rd_nat _ _ (by omega), e]
        by_cases c4 : m ≤ (L[i0]).f1[i - 1]'(by omega)
        · exact Ev.iteT c4 (Ev.some_ (by rw [decide_eq_false (show ¬ (L[i0]).f1[i - 1]'(by omega) < m by omega)]; rfl))
        · refine Ev.iteF c4 ?_
          rw [decide_eq_true (show (L[i0]).f1[i - 1]'(by omega) < m by omega)]
          simpa using hnext
    · refine Ev.iteF (by simpa using c1) (Ev.some_ ?_)
      by_cases c2 : 1 ≤ m
      · rw [decide_eq_true c2, decide_eq_false (show ¬ m ≤ 30 from fun h => c1 ⟨c2, h⟩)]
        rfl
      · rw [decide_eq_false c2]
        rfl
theorem specCovers_l0 (L : List S53) (h : CoverSizes L) : ∀ (t : List S53) (i : Nat), L.drop i = t → i ≤ L.length →
    Ev (fun k => spec_validCovers.l0 k L ((L.take i).map (·.f0)) (i : Int)) (t.all (fun c => linesF 0 c.f1) && idsS (L.map (·.f0))) := by
  have hlen := h.len
  intro t
  induction t with
  | nil =>
    intro i hd hi
    have hl2 := drop_nil hd
    rw [List.take_of_length_le (by omega)]
    refine Ev.step (fun k => rfl) (Ev.iteF (by omega) (Ev.bind (validOrder_ev (L.map (·.f0)) (by rw [List.length_map]; omega) (fun x hx => ?_)) (Ev.some_ rfl)))
    obtain ⟨c, hc, rfl⟩ := List.mem_map.1 hx
    exact h.ids c hc
  | cons c t ih =>
    intro i hd hi
    obtain ⟨hl2, hb, ht⟩ := drop_cons hd
    have hnext := ih (i + 1) ht (by omega)
    have hcm : c ∈ L := by rw [← hb]; exact List.getElem_mem hl2
    rw [List.take_succ_eq_append_getElem hl2, List.map_append] at hnext
    have hl1 := specCovers_l1 L ((L.take i).map (·.f0) ++ [(L[i]).f0]) i hl2 (by rw [hb]; exact h.lines c hcm) _ (by rw [wrapN (by omega)]; exact hnext) (L[i]).f1 0 rfl (Nat.zero_le _)
    refine Ev.step (fun k => rfl) (Ev.iteT (by omega) (Ev.iteT (by omega) (Ev.iteT (by rw [List.length_map, List.length_take]; omega) ?_)))
    rw [rdC_nat _ _ hl2]
    rw [List.all_cons, Bool.and_assoc, ← hb]
    exact hl1
theorem specCovers_ev (L : List S53) (h : CoverSizes L) : Ev (fun k => spec_validCovers.f k L) (coversS L) :=
  specCovers_l0 L h L 0 rfl (Nat.zero_le _)
structure SmallCovers (l : List S53) : Prop where
  len : l.length ≤ 1000
  ids : ∀ c ∈ l, c.f0.size ≤ 1000
  lines : ∀ c ∈ l, c.f1.length ≤ 1000
theorem SmallCovers.sizes {l : List S53} (h : SmallCovers l) : CoverSizes l := ⟨by have := h.len; omega, fun c hc => by have := h.ids c hc; omega, fun c hc => by have := h.lines c hc; omega⟩
theorem someCovers_l1 {b : List Int} (hb : Code_ b) (x3 : List S53) (x4 : List ByteArray) (x5 : Int) (id : ByteArray) (hx3 : x3.length ≤ 1000) (p0 : Int) (r : List S53 → Int → Prop)
    (hc : ∀ (l : List Int) (p : Int), l.length ≤ 1000 → 0 ≤ p → p ≤ p0 → ∃ R p', Ev (fun k => spec_someCovers.l0 k (x3 ++ [(⟨id, l⟩ : S53)]) x4 (wrap64 (x5 + 1)) b p) (R, p') ∧ r R p') : ∀ (n : Nat) (x7 : Int) (l : List Int) (p : Int), l.length + n ≤ 1000 → 0 ≤ p → p + n ≤ p0 → p0 ≤ 1000000 →
    ∃ R p', Ev (fun k => spec_someCovers.l1 k x3 x4 x5 x7 (n : Int) b p id l) (R, p') ∧ r R p' := by
  intro n
  induction n with
  | zero =>
    intro x7 l p hl h0 h1 h2
    obtain ⟨R, p', he, hr⟩ := hc l p (by omega) h0 (by omega)
    exact ⟨R, p', Ev.step (fun k => rfl) (Ev.iteF (by omega) (Ev.iteT (by omega) he)), hr⟩
  | succ n ih =>
    intro x7 l p hl h0 h1 h2
    obtain ⟨v, hv, v0, v1⟩ := pick_ev hb p 3 h0 (by omega) (by omega)
    have ew : wrap64 (((n + 1 : Nat) : Int) - 1) = (n : Int) := by rw [wrapI (by omega)]; omega
    obtain ⟨R, p', he, hr⟩ := ih (wrap64 ((wrap64 (x7 + 1)) + v)) (l ++ [wrap64 ((wrap64 (x7 + 1)) + v)]) (p + 1) (by simp; omega) (by omega) (by omega) h2
    refine ⟨R, p', Ev.step (fun k => rfl) (Ev.iteT (by omega) (Ev.bind hv (Ev.iteT (by omega) ?_))), hr⟩
    rw [ew]
    exact he
theorem someCovers_l0 {b : List Int} (hb : Code_ b) (x4 : List ByteArray) (hx4 : x4.length ≤ 1000) (hz : ∀ x ∈ x4, x.size ≤ 1000) : ∀ (d i : Nat) (x3 : List S53) (p : Int), i + d = x4.length → x3.length ≤ i → (∀ c ∈ x3, c.f0.size ≤ 1000 ∧ c.f1.length ≤ 1000) → 0 ≤ p → p + 10 * d ≤ 100000 →
    ∃ R p', Ev (fun k => spec_someCovers.l0 k x3 x4 (i : Int) b p) (R, p') ∧ (SmallCovers R ∧ 0 ≤ p' ∧ p' ≤ 200000) := by
  intro d
  induction d with
  | zero =>
    intro i x3 p hd h3 hs h0 h1
    have small : SmallCovers x3 := ⟨by omega, fun c hc => (hs c hc).1, fun c hc => (hs c hc).2⟩
    by_cases c1 : (x3.length : Int) > 0
    · obtain ⟨v, hv, v0, v1⟩ := pick_ev hb p 20 h0 (by omega) (by omega)
      by_cases c2 : v = 0
      · obtain ⟨y, hy, he⟩ := one_ev hb (p + 1) (by omega) (by omega) [0, 31, 5] (by decide) (by decide)
        refine ⟨_, _, Ev.step (fun k => rfl) (Ev.iteF (by omega) (Ev.iteT c1 (Ev.bind hv (Ev.iteT c2 (Ev.bind he (Ev.iteT (by omega) (Ev.some_ rfl))))))), ⟨?_, ?_, ?_⟩, by omega, by omega⟩
        · rw [List.length_set]; exact small.len
        · intro c hc
          rcases List.mem_or_eq_of_mem_set hc with h | rfl
          · exact small.ids c h
          · have e0 : rd_T53 x3 0 = x3[0]'(by omega) := rdC_nat x3 0 (by omega)
            show (rd_T53 x3 0).f0.size ≤ 1000
            rw [e0]
            exact small.ids _ (List.getElem_mem _)
        · intro c hc
          rcases List.mem_or_eq_of_mem_set hc with h | rfl
          · exact small.lines c h
          · show 2 ≤ 1000
            omega
      · exact ⟨_, _, Ev.step (fun k => rfl) (Ev.iteF (by omega) (Ev.iteT c1 (Ev.bind hv (Ev.iteF c2 (Ev.some_ rfl))))), small, by omega, by omega⟩
    · exact ⟨_, _, Ev.step (fun k => rfl) (Ev.iteF (by omega) (Ev.iteF c1 (Ev.some_ rfl))), small, by omega, by omega⟩
  | succ d ih =>
    intro i x3 p hd h3 hs h0 h1
    have hi : i < x4.length := by omega
    have hid := hz _ (List.getElem_mem hi)
    obtain ⟨y, hy, he⟩ := one_ev hb p h0 (by omega) [2, 3, 1, 4, 0] (by decide) (by decide)
    have hy2 : 0 ≤ y ∧ y ≤ 4 := by
      simp only [List.mem_cons, List.not_mem_nil, or_false] at hy
      omega
    obtain ⟨n, rfl⟩ := Int.eq_ofNat_of_zero_le hy2.1
    obtain ⟨R, p', hl, hr⟩ := someCovers_l1 hb x3 x4 (i : Int) x4[i] (by omega) (p + 9) (fun R p' => SmallCovers R ∧ 0 ≤ p' ∧ p' ≤ 200000) (fun l q hl hq hq2 => by
      rw [wrapN (by omega)]
      exact ih (i + 1) (x3 ++ [(⟨x4[i], l⟩ : S53)]) q (by omega) (by simp; omega) (fun c hc => by
        rcases List.mem_append.1 hc with hc | hc
        · exact hs c hc
        · rw [List.mem_singleton.1 hc]; exact ⟨hid, hl⟩) hq (by omega)) n 0 [] (p + 1) (by simp; omega) (by omega) (by omega) (by omega)
    refine ⟨R, p', Ev.step (fun k => rfl) (Ev.iteT (by omega) (Ev.iteT (by omega) (Ev.bind he ?_))), hr⟩
    rw [rdOf_nat _ _ _ hi]
    exact hl
theorem someCovers_ev {b : List Int} (hb : Code_ b) (p : Int) (h0 : 0 ≤ p) (h1 : p ≤ 10000) :
    ∃ R p', Ev (fun k => spec_someCovers.f k b p) (R, p') ∧ SmallCovers R ∧ 0 ≤ p' ∧ p' ≤ 200000 := by
  obtain ⟨l, p1, hl, hs, a0, a1⟩ := someOrder_ev hb p h0 (by omega)
  have hlen := hs.len
  obtain ⟨R, p', he, hr⟩ := someCovers_l0 hb l hs.len hs.ids l.length 0 [] p1 (by omega) (Nat.le_refl _) (fun c hc => by cases hc) a0 (by omega)
  unfold spec_someCovers.f
  exact ⟨R, p', Ev.bind hl he, hr⟩
def hasI (l : List Int) (n : Int) : Bool := l.any fun m => decide (m = n)
theorem indexInt_loop (l : List Int) (n : Int) (hl : l.length ≤ 4611686018427387903) : ∀ (t : List Int) (i : Nat), l.drop i = t → i ≤ l.length → ∃ j, Ev (fun k => slices_Index_int_int.l0 k l n (l.length : Int) (i : Int)) j ∧ (decide (j ≥ 0) = hasI t n) := by
  intro t
  induction t with
  | nil =>
    intro i h hi
    have hl2 := drop_nil h
    exact ⟨-1, Ev.step (fun k => rfl) (Ev.iteF (by omega) (Ev.some_ rfl)), rfl⟩
  | cons m t ih =>
    intro i h hi
    obtain ⟨hl2, hb, ht⟩ := drop_cons h
    by_cases c : n = m
    · refine ⟨(i : Int), Ev.step (fun k => rfl) (Ev.iteT (by omega) (Ev.iteT (by omega) (Ev.iteT (by omega) ?_))), ?_⟩
      · rw [rd_nat _ _ hl2, hb]
        exact Ev.iteT c (Ev.some_ rfl)
      · rw [decide_eq_true (show (i : Int) ≥ 0 by omega)]
        simp [hasI, c]
    · obtain ⟨j, hj, e⟩ := ih (i + 1) ht (by omega)
      refine ⟨j, Ev.step (fun k => rfl) (Ev.iteT (by omega) (Ev.iteT (by omega) (Ev.iteT (by omega) ?_))), ?_⟩
      · rw [rd_nat _ _ hl2, hb, wrapN (by omega)]
        exact Ev.iteF c hj
      · rw [e]
        have c2 : ¬ m = n := fun h => c h.symm
        simp [hasI, c2]
theorem containsInt_ev (l : List Int) (n : Int) (hl : l.length ≤ 4611686018427387903) : Ev (fun k => slices_Contains_int_int.f k l n) (hasI l n) := by
  obtain ⟨j, hj, e⟩ := indexInt_loop l n hl l 0 rfl (Nat.zero_le _)
  unfold slices_Contains_int_int.f
  exact Ev.bind hj (Ev.some_ e)
theorem predFind_ev (l : List Int) (hl : l.length ≤ 4611686018427387903) : ∀ (row : List Int) (i : Nat), ∃ j, Ev (fun k => impl_PRED.find k l row i) j ∧ (decide (j ≥ 0) = row.any (hasI l)) := by
  intro row
  induction row with
  | nil => intro i; exact ⟨-1, Ev.some_ rfl, rfl⟩
  | cons n t ih =>
    intro i
    rw [List.any_cons]
    by_cases hh : hasI l n = true
    · refine ⟨(i : Int), Ev.bind (containsInt_ev l n hl) (Ev.iteT hh (Ev.some_ rfl)), ?_⟩
      rw [hh, decide_eq_true (show (i : Int) ≥ 0 by omega)]
      rfl
    · obtain ⟨j, hj, e⟩ := ih (i + 1)
      refine ⟨j, Ev.bind (containsInt_ev l n hl) (Ev.iteF hh hj), ?_⟩
      rw [e, Bool.eq_false_iff.2 hh]
      rfl
theorem pred_ev (row l : List Int) (hl : l.length ≤ 4611686018427387903) : Ev (fun k => impl_PRED.f k row l) (row.any (hasI l)) := by
  obtain ⟨j, hj, e⟩ := predFind_ev l hl row 0
  unfold impl_PRED.f
  exact Ev.bind hj (Ev.some_ e)
def touchV (L : List S53) (l : List Int) : List ByteArray := (L.filter fun c => c.f1.any (hasI l)).map (·.f0)
def touchS (L : List S53) (l : List Int) : List ByteArray := if coversS L = true then touchV L l else []
theorem touchV_len (L : List S53) (l : List Int) : (touchV L l).length ≤ L.length := by
  unfold touchV
  rw [List.length_map]
  exact List.length_filter_le _ _
theorem touchV_cons (c : S53) (t : List S53) (l : List Int) : touchV (c :: t) l = if c.f1.any (hasI l) = true then c.f0 :: touchV t l else touchV t l := by
  unfold touchV
  rw [List.filter_cons]
  split <;> rfl
theorem implTouch_loop (L : List S53) (l : List Int) (hL : L.length ≤ 8796093022207) (hl : l.length ≤ 4611686018427387903) : ∀ (t : List S53) (i : Nat) (acc : List ByteArray), L.drop i = t → i ≤ L.length → acc.length ≤ i →
    Ev (fun k => impl_TouchedBy.l0 k l acc L (L.length : Int) (i : Int)) (acc ++ touchV t l) := by
  intro t
  induction t with
  | nil =>
    intro i acc h hi ha
    have hl2 := drop_nil h
    exact Ev.step (fun k => rfl) (Ev.iteF (by omega) (Ev.some_ (by simp [touchV])))
  | cons c t ih =>
    intro i acc h hi ha
    obtain ⟨hl2, hb, ht⟩ := drop_cons h
    refine Ev.step (fun k => rfl) (Ev.iteT (by omega) (Ev.iteT (by omega) (Ev.iteT (by omega) ?_)))
    rw [rdC_nat _ _ hl2, hb, wrapN (by omega), touchV_cons]
    refine Ev.bind (pred_ev c.f1 l hl) ?_
    by_cases hm : c.f1.any (hasI l) = true
    · rw [if_pos hm]
      have := ih (i + 1) (acc ++ [c.f0]) ht (by omega) (by simp; omega)
      rw [List.append_assoc] at this
      exact Ev.iteT hm (Ev.iteT (by omega) this)
    · rw [if_neg hm]
      exact Ev.iteF hm (ih (i + 1) acc ht (by omega) (by omega))
theorem implTouch_ev (L : List S53) (l : List Int) (h : CoverSizes L) (hl : l.length ≤ 4611686018427387903) : Ev (fun k => impl_TouchedBy.f k L l) (touchS L l) := by
  unfold impl_TouchedBy.f touchS
  refine Ev.bind (implCovers_ev L h) ?_
  by_cases c : coversS L = true
  · rw [if_pos c]
    exact Ev.iteT c (implTouch_loop L l h.len hl L 0 [] rfl (Nat.zero_le _) (Nat.zero_le _))
  · rw [if_neg c]
    exact Ev.iteF c (Ev.some_ rfl)
theorem hasInt_loop (l : List Int) (n : Int) (hl : l.length ≤ 4611686018427387903) : ∀ (t : List Int) (i : Nat), l.drop i = t → i ≤ l.length → Ev (fun k => spec_hasInt.l0 k l n (i : Int)) (hasI t n) := by
  intro t
  induction t with
  | nil =>
    intro i h hi
    have hl2 := drop_nil h
    exact Ev.step (fun k => rfl) (Ev.iteF (by omega) (Ev.some_ rfl))
  | cons m t ih =>
    intro i h hi
    obtain ⟨hl2, hb, ht⟩ := drop_cons h
    refine Ev.step (fun k => rfl) (Ev.iteT (by omega) (Ev.iteT (by omega) ?_))
    rw [rd_nat _ _ hl2, hb, wrapN (by omega)]
    by_cases c : m = n
    · exact Ev.iteT c (Ev.some_ (by simp [hasI, c]))
    · have := ih (i + 1) ht (by omega)
      have e : hasI (m :: t) n = hasI t n := by simp [hasI, c]
      rw [e]
      exact Ev.iteF c this
theorem hasInt_ev (l : List Int) (n : Int) (hl : l.length ≤ 4611686018427387903) : Ev (fun k => spec_hasInt.f k l n) (hasI l n) :=
  hasInt_loop l n hl l 0 rfl (Nat.zero_le _)
theorem specTouch_l1 (L : List S53) (l : List Int) (acc : List ByteArray) (i0 : Nat) (h0 : i0 < L.length) (hrow : (L[i0]).f1.length ≤ 4611686018427387903) (hl : l.length ≤ 4611686018427387903) (r : List ByteArray)
    (hy : (L[i0]).f1.any (hasI l) = true → acc.length < 8796093022208 ∧ Ev (fun k => spec_TouchedBy.l0 k L l (acc ++ [(L[i0]).f0]) (wrap64 ((i0 : Int) + 1))) r) (hn : (L[i0]).f1.any (hasI l) = false → Ev (fun k => spec_TouchedBy.l0 k L l acc (wrap64 ((i0 : Int) + 1))) r) :
    ∀ (t : List Int) (i : Nat) (b : Bool), (L[i0]).f1.drop i = t → i ≤ (L[i0]).f1.length → (b || t.any (hasI l)) = (L[i0]).f1.any (hasI l) → Ev (fun k => spec_TouchedBy.l1 k L l acc (i0 : Int) b (i : Int)) r := by
  intro t
  induction t with
  | nil =>
    intro i b h hi e
    have hl2 := drop_nil h
    refine Ev.step (fun k => rfl) (Ev.iteT (by omega) (Ev.iteT (by omega) ?_))
    rw [rdC_nat _ _ h0]
    refine Ev.iteF (by omega) ?_
    simp only [List.any_nil, Bool.or_false] at e
    by_cases hb : b = true
    · obtain ⟨g1, g2⟩ := hy (by rw [← e, hb])
      exact Ev.iteT hb (Ev.iteT (by omega) g2)
    · exact Ev.iteF hb (hn (by rw [← e]; simpa using hb))
  | cons m t ih =>
    intro i b h hi e
    obtain ⟨hl2, hb, ht⟩ := drop_cons h
    refine Ev.step (fun k => rfl) (Ev.iteT (by omega) (Ev.iteT (by omega) ?_))
    rw [rdC_nat _ _ h0]
    refine Ev.iteT (by omega) ?_
    rw [wrapN (by omega)]
    by_cases hbb : b = true
    · exact Ev.iteT hbb (ih (i + 1) true ht (by omega) (by rw [← e, hbb]; simp))
    · refine Ev.iteF hbb (Ev.iteT (by omega) ?_)
      rw [rd_nat _ _ hl2, hb]
      refine Ev.bind (hasInt_ev l m hl) (ih (i + 1) _ ht (by omega) ?_)
      rw [← e, List.any_cons, Bool.eq_false_iff.2 hbb]
      rfl
theorem specTouch_loop (L : List S53) (l : List Int) (h : CoverSizes L) (hl : l.length ≤ 4611686018427387903) : ∀ (t : List S53) (i : Nat) (acc : List ByteArray), L.drop i = t → i ≤ L.length → acc.length ≤ i →
    Ev (fun k => spec_TouchedBy.l0 k L l acc (i : Int)) (acc ++ touchV t l) := by
  have hL := h.len
  intro t
  induction t with
  | nil =>
    intro i acc h hi ha
    have hl2 := drop_nil h
    exact Ev.step (fun k => rfl) (Ev.iteF (by omega) (Ev.some_ (by simp [touchV])))
  | cons c t ih =>
    intro i acc hd hi ha
    obtain ⟨hl2, hb, ht⟩ := drop_cons hd
    rw [touchV_cons]
    refine Ev.step (fun k => rfl) (Ev.iteT (by omega) ?_)
    refine specTouch_l1 L l acc i hl2 (h.lines _ (List.getElem_mem hl2)) hl _ (fun hm => ⟨by omega, ?_⟩) (fun hm => ?_) (L[i]).f1 0 false rfl (Nat.zero_le _) rfl
    · rw [wrapN (by omega)]
      have := ih (i + 1) (acc ++ [(L[i]).f0]) ht (by omega) (by simp; omega)
      rw [hb] at hm this ⊢
      rw [if_pos hm]
      rw [List.append_assoc] at this
      exact this
    · rw [wrapN (by omega)]
      rw [hb] at hm
      rw [if_neg (by simp [hm])]
      exact ih (i + 1) acc ht (by omega) (by omega)
theorem specTouch_ev (L : List S53) (l : List Int) (h : CoverSizes L) (hl : l.length ≤ 4611686018427387903) : Ev (fun k => spec_TouchedBy.f k L l) (touchS L l) := by
  unfold spec_TouchedBy.f touchS
  refine Ev.bind (specCovers_ev L h) ?_
  by_cases c : coversS L = true
  · rw [if_pos c]
    exact Ev.iteT c (specTouch_loop L l h hl L 0 [] rfl (Nat.zero_le _) (Nat.zero_le _))
  · rw [if_neg c]
    exact Ev.iteF c (Ev.some_ rfl)
theorem touchV_mem {L : List S53} {l : List Int} {x : ByteArray} : x ∈ touchV L l ↔ ∃ c ∈ L, c.f0 = x ∧ ∃ n ∈ c.f1, n ∈ l := by
  unfold touchV hasI
  simp only [List.mem_map, List.mem_filter, List.any_eq_true, decide_eq_true_eq]
  constructor
  · rintro ⟨c, ⟨hc, n, hn, m, hm, rfl⟩, rfl⟩
    exact ⟨c, hc, rfl, m, hn, hm⟩
  · rintro ⟨c, hc, rfl, n, hn, hm⟩
    exact ⟨c, ⟨hc, n, hn, n, hm, rfl⟩, rfl⟩
theorem touchV_nodup {L : List S53} (h : coversS L = true) (l : List Int) : (touchV L l).Nodup := by
  unfold coversS idsS at h
  simp only [Bool.and_eq_true, decide_eq_true_eq] at h
  exact h.2.2.2.sublist (List.filter_sublist.map _)
end Go.Proofs.Ytlnaejkbanpcjaa.F
