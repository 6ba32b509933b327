/- Plain laws, without Go, that the law FnExactValidCovers leans on. No condition. -/
import Derived.Test.YtlnaejkbanpcjaaCx0
import Derived.Test.YtlnaejkbanpcjaaCx3
import Derived.Test.YtlnaejkbanpcjaaCx4
import Derived.Test.YtlnaejkbanpcjaaCx5
import Derived.Test.YtlnaejkbanpcjaaCx13
import Derived.Test.YtlnaejkbanpcjaaCx14
import Derived.Test.YtlnaejkbanpcjaaCx15
import Derived.Test.YtlnaejkbanpcjaaCx16
import Derived.Test.YtlnaejkbanpcjaaCx17
import Derived.Test.YtlnaejkbanpcjaaWMore
import Derived.IntWalk
import Derived.Lib.Bytealg
import Derived.Lib.Strings
set_option linter.unusedSimpArgs false
set_option linter.unusedVariables false
namespace Go.Proofs.Ytlnaejkbanpcjaa.C
open Go.RowKit Go.Proofs.YtlnaejkbanpcjaaW.PrintWords Go.Proofs.YtlnaejkbanpcjaaW.PrintLast Go.Proofs.YtlnaejkbanpcjaaW.PrintMore
theorem Ev.iteT {α : Type} {c : Prop} [Decidable c] {g f : Nat → Option α} {r : α} (h : c) (k : Ev g r) : Ev (fun n => if c then g n else f n) r := by
  simpa only [if_pos h] using k
theorem Ev.iteF {α : Type} {c : Prop} [Decidable c] {g f : Nat → Option α} {r : α} (h : ¬ c) (k : Ev f r) : Ev (fun n => if c then g n else f n) r := by
  simpa only [if_neg h] using k
/-- A callee without rounds. -/
theorem Ev.bind0 {α β : Type} {g : Option α} {f : Nat → α → Option β} {a : α} {r : β} (h : g = some a) (k : Ev (fun n => f n a) r) : Ev (fun n => g.bind (f n)) r := by
  subst h
  simpa only [Option.bind_some] using k
theorem Ev.some_ {α : Type} {x r : α} (h : x = r) : Ev (fun _ => some x) r := ⟨0, fun _ _ => by rw [h]⟩
theorem Ev.bool {b r : Bool} (h : b = r) : Ev (fun _ => some b) r := Ev.some_ h
theorem wrapN {i : Nat} (h : i < 4611686018427387904) : wrap64 ((i : Int) + 1) = ((i + 1 : Nat) : Int) := by
  unfold wrap64
  omega
theorem wrapI {x : Int} (h : -9223372036854775808 ≤ x ∧ x ≤ 9223372036854775807) : wrap64 x = x := by
  unfold wrap64
  omega
theorem rdOf_nat {α : Type} (d : α) (l : List α) (i : Nat) (h : i < l.length) : rdOf d l (i : Int) = l[i] := by
  simp [rdOf, List.getD_eq_getElem?_getD, List.getElem?_eq_getElem h]
theorem rd_nat (l : List Int) (i : Nat) (h : i < l.length) : rd l (i : Int) = l[i] := by
  simp [rd, List.getD_eq_getElem?_getD, List.getElem?_eq_getElem h]
theorem getD_nat {α : Type} (d : α) (l : List α) (i : Nat) (h : i < l.length) : l.getD (i : Int).toNat d = l[i] := by
  simp [List.getD_eq_getElem?_getD, List.getElem?_eq_getElem h]
theorem size_list (s : ByteArray) : s.data.toList.length = s.size := by rw [Array.length_toList]; rfl
theorem bt_nat (s : ByteArray) (i : Nat) (h : i < s.data.toList.length) : bt s (i : Int) = ((s.data.toList[i]).toNat : Int) := by
  have h' : i < s.size := by rw [← size_list]; exact h
  unfold bt
  rw [dif_pos (by simpa using h')]
  rfl
/-- A list seen from place i on. -/
theorem drop_cons {α : Type} {l : List α} {i : Nat} {b : α} {t : List α} (h : l.drop i = b :: t) : ∃ hi : i < l.length, l[i] = b ∧ l.drop (i + 1) = t := by
  have hi : i < l.length := by
    rcases Nat.lt_or_ge i l.length with h1 | h1
    · exact h1
    · rw [List.drop_of_length_le h1] at h
      cases h
  refine ⟨hi, ?_, ?_⟩
  · rw [List.drop_eq_getElem_cons hi] at h
    exact (List.cons.inj h).1
  · rw [List.drop_eq_getElem_cons hi] at h
    exact (List.cons.inj h).2
theorem drop_nil {α : Type} {l : List α} {i : Nat} (h : l.drop i = []) : l.length ≤ i := by
  have := congrArg List.length h
  rw [List.length_drop] at this
  simpa using Nat.sub_eq_zero_iff_le.1 this
theorem toList_inj {a b : ByteArray} (h : a.toList = b.toList) : a = b := by
  rw [Lib.toList_data, Lib.toList_data] at h
  cases a with
  | mk x => cases b with
    | mk y =>
      have : x = y := Array.ext' h
      rw [this]
theorem toList_iff {a b : ByteArray} : a.toList = b.toList ↔ a = b := ⟨toList_inj, fun h => by rw [h]⟩
def lowB (b : UInt8) : Bool := decide (97 ≤ (b.toNat : Int)) && decide ((b.toNat : Int) ≤ 122)
/-- What is asked of a name behind its letters. -/
def nameEnd (s : ByteArray) : Bool := decide (1 ≤ s.size) && (decide (s.size ≤ 6) && (s.toList != ([97, 110, 100] : List UInt8) && (s.toList != ([111, 114] : List UInt8) && s.toList != ([110, 111, 116] : List UInt8))))
def nameS (s : ByteArray) : Bool := s.data.toList.all lowB && nameEnd s
theorem nameOk_loop (s : ByteArray) (hs : s.size ≤ 4611686018427387903) : ∀ (t : List UInt8) (i : Nat), s.data.toList.drop i = t → i ≤ s.size →
    Ev (fun k => impl_nameOk.l0 k s (s.size : Int) (i : Int)) (t.all lowB && nameEnd s) := by
  intro t
  induction t with
  | nil =>
    intro i h hi
    have hl := drop_nil h
    rw [size_list] at hl
    refine Ev.step (fun k => rfl) (Ev.iteF (by omega) ?_)
    simp only [List.all_nil, Bool.true_and]
    unfold nameEnd
    by_cases h1 : 1 ≤ s.size
    · refine Ev.iteT (by omega) ?_
      by_cases h2 : s.size ≤ 6
      · refine Ev.iteT (by omega) ?_
        by_cases h3 : s.toList = ([97, 110, 100] : List UInt8)
        · exact Ev.iteT h3 (Ev.bool (by simp [h3]))
        · refine Ev.iteF h3 ?_
          by_cases h4 : s.toList = ([111, 114] : List UInt8)
          · exact Ev.iteT h4 (Ev.bool (by simp [h4]))
          · exact Ev.iteF h4 (Ev.bool (by simp [h1, h2, bne_iff_ne.2 h3, bne_iff_ne.2 h4]))
      · exact Ev.iteF (by omega) (Ev.bool (by simp [h2]))
    · exact Ev.iteF (by omega) (Ev.bool (by simp [h1]))
  | cons b t ih =>
    intro i h hi
    obtain ⟨hl, hb, ht⟩ := drop_cons h
    have hl' := hl
    rw [size_list] at hl'
    refine Ev.step (fun k => rfl) (Ev.iteT (by omega) (Ev.iteT (by omega) (Ev.iteT (by omega) ?_)))
    rw [bt_nat s i hl, hb]
    by_cases h1 : (b.toNat : Int) < 97
    · exact Ev.iteT h1 (Ev.bool (by simp [lowB]; omega))
    · refine Ev.iteF h1 ?_
      by_cases h2 : (b.toNat : Int) > 122
      · exact Ev.iteT h2 (Ev.bool (by simp [lowB]; omega))
      · refine Ev.iteF h2 ?_
        rw [wrapN (by omega)]
        have := ih (i + 1) ht (by omega)
        have e : lowB b = true := by simp [lowB]; omega
        simpa [List.all_cons, e] using this
theorem nameOk_ev (s : ByteArray) (hs : s.size ≤ 4611686018427387903) : Ev (fun k => impl_nameOk.f k s) (nameS s) :=
  nameOk_loop s hs _ 0 rfl (Nat.zero_le _)
theorem inRange_ev (a b c : Int) : spec_inRange.f a b c = some (decide (b ≤ a ∧ a ≤ c)) := by
  unfold spec_inRange.f
  by_cases h : b ≤ a
  · rw [if_pos h]
    simp [h]
  · rw [if_neg h]
    simp [h]
theorem validName_loop (s : ByteArray) (hs : s.size ≤ 4611686018427387903) : ∀ (t : List UInt8) (i : Nat), s.data.toList.drop i = t → i ≤ s.size →
    Ev (fun k => spec_validName.l0 k s (i : Int)) (t.all lowB && nameEnd s) := by
  intro t
  induction t with
  | nil =>
    intro i h hi
    have hl := drop_nil h
    rw [size_list] at hl
    refine Ev.step (fun k => rfl) (Ev.iteF (by omega) (Ev.bind0 (inRange_ev _ _ _) ?_))
    simp only [List.all_nil, Bool.true_and]
    unfold nameEnd
    by_cases h1 : 1 ≤ s.size
    · by_cases h2 : s.size ≤ 6
      · refine Ev.iteT (by simp; omega) ?_
        by_cases h3 : s.toList = ([97, 110, 100] : List UInt8)
        · exact Ev.iteT h3 (Ev.bool (by simp [h3]))
        · refine Ev.iteF h3 ?_
          by_cases h4 : s.toList = ([111, 114] : List UInt8)
          · exact Ev.iteT h4 (Ev.bool (by simp [h4]))
          · exact Ev.iteF h4 (Ev.bool (by simp [h1, h2, bne_iff_ne.2 h3, bne_iff_ne.2 h4]))
      · exact Ev.iteF (by simp; omega) (Ev.bool (by simp [h2]))
    · exact Ev.iteF (by simp; omega) (Ev.bool (by simp [h1]))
  | cons b t ih =>
    intro i h hi
    obtain ⟨hl, hb, ht⟩ := drop_cons h
    have hl' := hl
    rw [size_list] at hl'
    refine Ev.step (fun k => rfl) (Ev.iteT (by omega) (Ev.iteT (by omega) ?_))
    rw [bt_nat s i hl, hb]
    by_cases h1 : (b.toNat : Int) < 97
    · exact Ev.iteT h1 (Ev.bool (by simp [lowB]; omega))
    · refine Ev.iteF h1 ?_
      by_cases h2 : (b.toNat : Int) > 122
      · exact Ev.iteT h2 (Ev.bool (by simp [lowB]; omega))
      · refine Ev.iteF h2 ?_
        rw [wrapN (by omega)]
        have := ih (i + 1) ht (by omega)
        have e : lowB b = true := by simp [lowB]; omega
        simpa [List.all_cons, e] using this
theorem validName_ev (s : ByteArray) (hs : s.size ≤ 4611686018427387903) : Ev (fun k => spec_validName.f k s) (nameS s) :=
  validName_loop s hs _ 0 rfl (Nat.zero_le _)
theorem extract_size_le (s : ByteArray) (a b : Nat) : (s.extract a b).size ≤ s.size := by
  rw [ByteArray.size_extract]
  omega
theorem indexByte_cons (b : UInt8) (l : List UInt8) (c : UInt8) : Lib.indexByte (b :: l) c = if b = c then 0 else if Lib.indexByte l c < 0 then -1 else Lib.indexByte l c + 1 := by
  have hg := Lib.indexByte_ge l c
  rw [Lib.indexByte]
  by_cases h : b = c
  · simp [h]
  · have h1 : (b == c) = false := by simpa using h
    rw [h1, if_neg h]
    simp only [Bool.false_eq_true, if_false]
    by_cases h2 : Lib.indexByte l c = -1
    · rw [h2]
      simp
    · have h3 : (Lib.indexByte l c == -1) = false := by simpa using h2
      have h4 : ¬ Lib.indexByte l c < 0 := by omega
      rw [h3, if_neg h4]
      simp
theorem indexByte_lt (l : List UInt8) (c : UInt8) : Lib.indexByte l c < l.length := by
  induction l with
  | nil => simp [Lib.indexByte]
  | cons b l ih =>
    rw [indexByte_cons]
    have hg := Lib.indexByte_ge l c
    simp only [List.length_cons]
    split
    · omega
    · split <;> omega
/-- Where the first point stands, and whether both sides of it are names. -/
def idS (s : ByteArray) : Bool := decide (0 ≤ Lib.indexByte s.data.toList 46) && (nameS (s.extract 0 (Lib.indexByte s.data.toList 46).toNat) && nameS (s.extract ((Lib.indexByte s.data.toList 46).toNat + 1) s.size))
theorem stringsCut_at (s : ByteArray) (c : UInt8) (hs : s.size ≤ 4611686018427387903) :
    strings_Cut.f s ⟨#[c]⟩ = some (if 0 ≤ Lib.indexByte s.data.toList c then (s.extract 0 (Lib.indexByte s.data.toList c).toNat, s.extract ((Lib.indexByte s.data.toList c).toNat + 1) s.size, true) else (s, ⟨#[]⟩, false)) := by
  have hg := Lib.indexByte_ge s.data.toList c
  have hl := indexByte_lt s.data.toList c
  rw [size_list] at hl
  have e1 : (⟨#[c]⟩ : ByteArray).size = 1 := rfl
  have e : stringslite_Index.f s ⟨#[c]⟩ = some (Lib.indexByte s.data.toList c) := rfl
  unfold strings_Cut.f stringslite_Cut.f
  rw [e]
  simp only [Option.bind_some, e1]
  generalize Lib.indexByte s.data.toList c = i at hg hl ⊢
  by_cases h : 0 ≤ i
  · have ew : wrap64 (i + ((1 : Nat) : Int)) = ((i.toNat + 1 : Nat) : Int) := by unfold wrap64; omega
    rw [if_pos h, if_pos h, if_pos (by omega), ew, if_pos (by omega), if_pos (by omega), if_pos h, Int.toNat_natCast]
    rfl
  · rw [if_neg h, if_neg h]
    rfl
theorem idOk_ev (s : ByteArray) (hs : s.size ≤ 4611686018427387903) : Ev (fun k => impl_idOk.f k s) (idS s) := by
  unfold impl_idOk.f idS
  refine Ev.bind0 (stringsCut_at s 46 hs) ?_
  by_cases h : 0 ≤ Lib.indexByte s.data.toList 46
  · simp only [if_pos h]
    have n1 := nameOk_ev (s.extract 0 (Lib.indexByte s.data.toList 46).toNat) (by have := extract_size_le s 0 (Lib.indexByte s.data.toList 46).toNat; omega)
    have n2 := nameOk_ev (s.extract ((Lib.indexByte s.data.toList 46).toNat + 1) s.size) (by have := extract_size_le s ((Lib.indexByte s.data.toList 46).toNat + 1) s.size; omega)
    refine Ev.iteT (by trivial) (Ev.bind n1 ?_)
    cases hn : nameS (s.extract 0 (Lib.indexByte s.data.toList 46).toNat) with
    | true => exact Ev.iteT rfl (Ev.bind n2 (Ev.bool (by simp [h])))
    | false => exact Ev.iteF (by simp) (Ev.bool (by simp))
  · simp only [if_neg h]
    exact Ev.iteF (by simp) (Ev.bool (by simp [h]))
theorem validId_loop (s : ByteArray) (hs : s.size ≤ 4611686018427387903) : ∀ (t : List UInt8) (i : Nat), s.data.toList.drop i = t → i ≤ s.size →
    Ev (fun k => spec_validId.l0 k s (i : Int)) (decide (0 ≤ Lib.indexByte t 46) && (nameS (s.extract 0 (i + (Lib.indexByte t 46).toNat)) && nameS (s.extract (i + (Lib.indexByte t 46).toNat + 1) s.size))) := by
  intro t
  induction t with
  | nil =>
    intro i h hi
    have hl := drop_nil h
    rw [size_list] at hl
    exact Ev.step (fun k => rfl) (Ev.iteF (by omega) (Ev.bool (by simp [Lib.indexByte])))
  | cons b t ih =>
    intro i h hi
    obtain ⟨hl, hb, ht⟩ := drop_cons h
    have hl' := hl
    rw [size_list] at hl'
    refine Ev.step (fun k => rfl) (Ev.iteT (by omega) (Ev.iteT (by omega) ?_))
    rw [bt_nat s i hl, hb]
    by_cases h1 : b = 46
    · subst h1
      refine Ev.iteT (by decide) (Ev.iteT (by omega) ?_)
      have n1 := validName_ev (s.extract 0 i) (by have := extract_size_le s 0 i; omega)
      have n2 := validName_ev (s.extract (i + 1) s.size) (by have := extract_size_le s (i + 1) s.size; omega)
      rw [indexByte_cons, if_pos rfl]
      simp only [Int.toNat_natCast, Int.toNat_zero, Nat.add_zero, Int.le_refl, decide_true, Bool.true_and]
      refine Ev.bind n1 ?_
      rw [wrapN (by omega)]
      cases hn : nameS (s.extract 0 i) with
      | true =>
        refine Ev.iteT rfl (Ev.iteT (by omega) (Ev.iteT (by omega) ?_))
        rw [Int.toNat_natCast]
        exact Ev.bind n2 (Ev.bool (by simp))
      | false => exact Ev.iteF (by simp) (Ev.bool (by simp))
    · have hne : ¬ (b.toNat : Int) = 46 := fun h2 => h1 (by apply UInt8.toNat.inj; simp; omega)
      refine Ev.iteF hne ?_
      rw [wrapN (by omega)]
      have := ih (i + 1) ht (by omega)
      rw [indexByte_cons, if_neg h1]
      have hg := Lib.indexByte_ge t 46
      by_cases h2 : Lib.indexByte t 46 < 0
      · rw [if_pos h2]
        rw [show decide (0 ≤ Lib.indexByte t 46) = false from decide_eq_false (by omega)] at this
        simpa using this
      · rw [if_neg h2]
        have e1 : (Lib.indexByte t 46 + 1).toNat = (Lib.indexByte t 46).toNat + 1 := by omega
        rw [e1, show i + ((Lib.indexByte t 46).toNat + 1) = i + 1 + (Lib.indexByte t 46).toNat from by omega, show decide (0 ≤ Lib.indexByte t 46 + 1) = true from decide_eq_true (by omega)]
        rw [show decide (0 ≤ Lib.indexByte t 46) = true from decide_eq_true (by omega)] at this
        exact this
theorem validId_ev (s : ByteArray) (hs : s.size ≤ 4611686018427387903) : Ev (fun k => spec_validId.f k s) (idS s) := by
  have := validId_loop s hs _ 0 rfl (Nat.zero_le _)
  simp only [Nat.zero_add] at this
  exact this
def memB (l : List ByteArray) (x : ByteArray) : Bool := l.any fun y => decide (y = x)
theorem memB_iff {l : List ByteArray} {x : ByteArray} : memB l x = true ↔ x ∈ l := by
  simp [memB]
theorem memB_eq {l : List ByteArray} {x : ByteArray} {p : Prop} [Decidable p] (h : p ↔ x ∈ l) : decide p = memB l x := by
  rw [Bool.eq_iff_iff, memB_iff]
  simpa using h
theorem index_loop (l : List ByteArray) (x : ByteArray) (hl : l.length ≤ 4611686018427387903) : ∀ (t : List ByteArray) (i : Nat), l.drop i = t → i ≤ l.length →
    ∃ r : Int, Ev (fun k => slices_Index_string_string.l0 k l x (l.length : Int) (i : Int)) r ∧ (0 ≤ r ↔ x ∈ t) := by
  intro t
  induction t with
  | nil =>
    intro i h hi
    have hl2 := drop_nil h
    exact ⟨-1, Ev.step (fun k => rfl) (Ev.iteF (by omega) (Ev.some_ rfl)), by simp⟩
  | cons b t ih =>
    intro i h hi
    obtain ⟨hl2, hb, ht⟩ := drop_cons h
    by_cases h1 : x = b
    · refine ⟨(i : Int), Ev.step (fun k => rfl) (Ev.iteT (by omega) (Ev.iteT (by omega) (Ev.iteT (by omega) (Ev.iteT ?_ (Ev.some_ rfl))))), by simp [h1]⟩
      rw [rdOf_nat _ _ _ hl2, hb, h1]
    · obtain ⟨r, hr, hm⟩ := ih (i + 1) ht (by omega)
      refine ⟨r, Ev.step (fun k => rfl) (Ev.iteT (by omega) (Ev.iteT (by omega) (Ev.iteT (by omega) (Ev.iteF ?_ ?_)))), by simp [h1, hm]⟩
      · rw [rdOf_nat _ _ _ hl2, hb, toList_iff]
        exact h1
      · rw [wrapN (by omega)]
        exact hr
theorem contains_ev (l : List ByteArray) (x : ByteArray) (hl : l.length ≤ 4611686018427387903) : Ev (fun k => slices_Contains_string_string.f k l x) (memB l x) := by
  obtain ⟨r, hr, hm⟩ := index_loop l x hl l 0 rfl (Nat.zero_le _)
  exact Ev.bind hr (Ev.bool (memB_eq hm))
theorem nodup_take_succ {α : Type} (l : List α) (i : Nat) (h : i < l.length) : (l.take (i + 1)).Nodup ↔ (l.take i).Nodup ∧ l[i] ∉ l.take i := by
  rw [List.take_succ_eq_append_getElem h, List.nodup_append]
  simp only [List.nodup_cons, List.not_mem_nil, not_false_eq_true, List.nodup_nil, and_self, true_and, List.mem_singleton, forall_eq]
  exact ⟨fun ⟨a, b⟩ => ⟨a, fun hm => b _ hm rfl⟩, fun ⟨a, b⟩ => ⟨a, fun x hx e => b (e ▸ hx)⟩⟩
theorem nodup_of_take {α : Type} (l : List α) (i : Nat) (h : ¬ (l.take i).Nodup) : ¬ l.Nodup := fun hn => h (hn.sublist (List.take_sublist _ _))
theorem apart_loop (l : List ByteArray) (hl : l.length ≤ 4611686018427387903) : ∀ (d i : Nat), i + d = l.length → (l.take i).Nodup →
    Ev (fun k => impl_apart.l0 k l l (l.length : Int) (i : Int)) (decide l.Nodup) := by
  intro d
  induction d with
  | zero =>
    intro i hd hn
    have e : l.take i = l := List.take_of_length_le (by omega)
    rw [e] at hn
    exact Ev.step (fun k => rfl) (Ev.iteF (by omega) (Ev.some_ (by simp [hn])))
  | succ d ih =>
    intro i hd hn
    have hi : i < l.length := by omega
    refine Ev.step (fun k => rfl) (Ev.iteT (by omega) (Ev.iteT (by omega) (Ev.iteT (by omega) (Ev.iteT (by omega) ?_))))
    rw [Int.toNat_natCast, rdOf_nat _ _ _ hi]
    refine Ev.bind (contains_ev (l.take i) l[i] (by rw [List.length_take]; omega)) ?_
    by_cases hm : l[i] ∈ l.take i
    · refine Ev.iteT (memB_iff.2 hm) (Ev.bool ?_)
      have : ¬ l.Nodup := nodup_of_take l (i + 1) (fun h => ((nodup_take_succ l i hi).1 h).2 hm)
      simp [this]
    · refine Ev.iteF (by rw [memB_iff]; exact hm) ?_
      rw [wrapN (by omega)]
      exact ih (i + 1) (by omega) ((nodup_take_succ l i hi).2 ⟨hn, hm⟩)
theorem apart_ev (l : List ByteArray) (hl : l.length ≤ 4611686018427387903) : Ev (fun k => impl_apart.f k l) (decide l.Nodup) :=
  apart_loop l hl l.length 0 (by omega) (by simp)
/-- All in a list are of a size that numbers hold. -/
def SizesOk (l : List ByteArray) : Prop := ∀ x ∈ l, x.size ≤ 4611686018427387903
def idsS (l : List ByteArray) : Bool := l.all idS && (decide (l.length ≤ 10) && decide l.Nodup)
theorem idsOk_loop (l : List ByteArray) (hl : l.length ≤ 4611686018427387903) (hz : SizesOk l) : ∀ (t : List ByteArray) (i : Nat), l.drop i = t → i ≤ l.length →
    Ev (fun k => impl_idsOk.l0 k l l (l.length : Int) (i : Int)) (t.all idS && (decide (l.length ≤ 10) && decide l.Nodup)) := by
  intro t
  induction t with
  | nil =>
    intro i h hi
    have hl2 := drop_nil h
    refine Ev.step (fun k => rfl) (Ev.iteF (by omega) ?_)
    by_cases h1 : l.length ≤ 10
    · exact Ev.iteT (by omega) (Ev.bind (apart_ev l hl) (Ev.bool (by simp [h1])))
    · exact Ev.iteF (by omega) (Ev.bool (by simp [h1]))
  | cons b t ih =>
    intro i h hi
    obtain ⟨hl2, hb, ht⟩ := drop_cons h
    refine Ev.step (fun k => rfl) (Ev.iteT (by omega) (Ev.iteT (by omega) (Ev.iteT (by omega) ?_)))
    rw [rdOf_nat _ _ _ hl2, hb]
    have hs : b.size ≤ 4611686018427387903 := hz b (hb ▸ List.getElem_mem hl2)
    refine Ev.bind (idOk_ev b hs) ?_
    cases hn : idS b with
    | true =>
      refine Ev.iteT rfl ?_
      rw [wrapN (by omega)]
      simpa [List.all_cons, hn] using ih (i + 1) ht (by omega)
    | false => exact Ev.iteF (by simp) (Ev.bool (by simp [hn]))
theorem idsOk_ev (l : List ByteArray) (hl : l.length ≤ 4611686018427387903) (hz : SizesOk l) : Ev (fun k => impl_idsOk.f k l) (idsS l) :=
  idsOk_loop l hl hz l 0 rfl (Nat.zero_le _)
theorem hasText_loop (l : List ByteArray) (x : ByteArray) (hl : l.length ≤ 4611686018427387903) : ∀ (t : List ByteArray) (i : Nat), l.drop i = t → i ≤ l.length →
    Ev (fun k => spec_hasText.l0 k l x (i : Int)) (memB t x) := by
  intro t
  induction t with
  | nil =>
    intro i h hi
    have hl2 := drop_nil h
    exact Ev.step (fun k => rfl) (Ev.iteF (by omega) (Ev.some_ rfl))
  | cons b t ih =>
    intro i h hi
    obtain ⟨hl2, hb, ht⟩ := drop_cons h
    refine Ev.step (fun k => rfl) (Ev.iteT (by omega) (Ev.iteT (by omega) ?_))
    rw [rdOf_nat _ _ _ hl2, hb]
    by_cases h1 : b = x
    · exact Ev.iteT (by rw [h1]) (Ev.some_ (by simp [memB, h1]))
    · refine Ev.iteF (by rw [toList_iff]; exact h1) ?_
      rw [wrapN (by omega)]
      have e : memB (b :: t) x = memB t x := by simp [memB, h1]
      rw [e]
      exact ih (i + 1) ht (by omega)
theorem hasText_ev (l : List ByteArray) (x : ByteArray) (hl : l.length ≤ 4611686018427387903) : Ev (fun k => spec_hasText.f k l x) (memB l x) :=
  hasText_loop l x hl l 0 rfl (Nat.zero_le _)
theorem validOrder_loop (l : List ByteArray) (hl : l.length ≤ 4611686018427387903) (hz : SizesOk l) : ∀ (d i : Nat), i + d = l.length → (l.take i).all idS = true → (l.take i).Nodup →
    Ev (fun k => spec_validOrder.l0 k l (i : Int)) (idsS l) := by
  intro d
  induction d with
  | zero =>
    intro i hd h1 h2
    have e : l.take i = l := List.take_of_length_le (by omega)
    rw [e] at h1 h2
    exact Ev.step (fun k => rfl) (Ev.iteF (by omega) (Ev.some_ (by unfold idsS; rw [h1]; simp [h2]; omega)))
  | succ d ih =>
    intro i hd h1 h2
    have hi : i < l.length := by omega
    have hmem : l[i] ∈ l := List.getElem_mem hi
    refine Ev.step (fun k => rfl) (Ev.iteT (by omega) (Ev.iteT (by omega) ?_))
    rw [rdOf_nat _ _ _ hi]
    refine Ev.bind (validId_ev l[i] (hz _ hmem)) ?_
    cases e1 : idS l[i] with
    | false =>
      refine Ev.iteF (by simp) (Ev.bool ?_)
      have : l.all idS = false := by
        rw [List.all_eq_false]
        exact ⟨_, hmem, by simp [e1]⟩
      unfold idsS
      rw [this]
      simp
    | true =>
      refine Ev.iteT rfl (Ev.iteT (by omega) ?_)
      rw [Int.toNat_natCast]
      refine Ev.bind (hasText_ev (l.take i) l[i] (by rw [List.length_take]; omega)) ?_
      have hn := nodup_take_succ l i hi
      by_cases e2 : memB (l.take i) l[i] = true
      · refine Ev.iteT e2 (Ev.bool ?_)
        have : ¬ l.Nodup := nodup_of_take l (i + 1) (fun h => (hn.1 h).2 (memB_iff.1 e2))
        unfold idsS
        simp [this]
      · refine Ev.iteF e2 ?_
        rw [wrapN (by omega)]
        refine ih (i + 1) (by omega) ?_ (hn.2 ⟨h2, fun h => e2 (memB_iff.2 h)⟩)
        rw [List.take_succ_eq_append_getElem hi, List.all_append, h1]
        simp [e1]
theorem validOrder_ev (l : List ByteArray) (hl : l.length ≤ 4611686018427387903) (hz : SizesOk l) : Ev (fun k => spec_validOrder.f k l) (idsS l) :=
  validOrder_loop l hl hz l.length 0 (by omega) (by simp) (by simp)
theorem rdC_nat (l : List S53) (i : Nat) (h : i < l.length) : rd_T53 l (i : Int) = l[i] := by
  unfold rd_T53
  exact getD_nat _ _ _ h
/-- Lines in 1..30, ascending from behind one. -/
def linesF : Int → List Int → Bool
  | _, [] => true
  | p, n :: t => decide (1 ≤ n) && decide (n ≤ 30) && decide (p < n) && linesF n t
def prevL (l : List Int) (i : Nat) : Int := if i = 0 then 0 else l.getD (i - 1) 0
theorem prevL_succ (l : List Int) (i : Nat) (h : i < l.length) : prevL l (i + 1) = l[i] := by
  unfold prevL
  rw [if_neg (by omega), Nat.add_sub_cancel, List.getD_eq_getElem?_getD, List.getElem?_eq_getElem h]
  rfl
def coversS (l : List S53) : Bool := l.all (fun c => linesF 0 c.f1) && idsS (l.map (·.f0))
structure CoverSizes (l : List S53) : Prop where
  len : l.length ≤ 8796093022207
  ids : ∀ c ∈ l, c.f0.size ≤ 4611686018427387903
  lines : ∀ c ∈ l, c.f1.length ≤ 4611686018427387903
theorem CoverSizes.take {l : List S53} (h : CoverSizes l) (n : Nat) : CoverSizes (l.take n) := ⟨by have := h.len; rw [List.length_take]; omega, fun c hc => h.ids c (List.mem_of_mem_take hc), fun c hc => h.lines c (List.mem_of_mem_take hc)⟩
theorem implCovers_l1 (L : List S53) (x3 : List ByteArray) (n x11 : Int) (id : ByteArray) (l : List Int) (hl : l.length ≤ 4611686018427387903) (hx : x3.length ≤ 8796093022207) (r : Bool) (hc : Ev (fun k => impl_ValidCovers.l0 k (x3 ++ [id]) L n (wrap64 (x11 + 1))) r) : ∀ (t : List Int) (i : Nat), l.drop i = t → i ≤ l.length →
    Ev (fun k => impl_ValidCovers.l1 k x3 L n x11 l (l.length : Int) (i : Int) id l) (linesF (prevL l i) t && r) := by
  intro t
  induction t with
  | nil =>
    intro i h hi
    have hl2 := drop_nil h
    exact Ev.step (fun k => rfl) (Ev.iteF (by omega) (Ev.iteT (by omega) (by simpa [linesF] using hc)))
  | cons m t ih =>
    intro i h hi
    obtain ⟨hl2, hb, ht⟩ := drop_cons h
    have hnext := ih (i + 1) ht (by omega)
    rw [prevL_succ l i hl2, hb] at hnext
    refine Ev.step (fun k => rfl) (Ev.iteT (by omega) (Ev.iteT (by omega) (Ev.iteT (by omega) ?_)))
    rw [rd_nat _ _ hl2, hb, wrapN (by omega)]
    unfold linesF
    by_cases c1 : m < 1
    · exact Ev.iteT c1 (Ev.some_ (by rw [decide_eq_false (show ¬ 1 ≤ m by omega)]; rfl))
    refine Ev.iteF c1 ?_
    rw [decide_eq_true (show 1 ≤ m by omega)]
    by_cases c2 : m > 30
    · exact Ev.iteT c2 (Ev.some_ (by rw [decide_eq_false (show ¬ m ≤ 30 by omega)]; rfl))
    refine Ev.iteF c2 ?_
    rw [decide_eq_true (show m ≤ 30 by omega)]
    by_cases c3 : i = 0
    · have e : prevL l i = 0 := if_pos c3
      rw [e, decide_eq_true (show 0 < m by omega)]
      exact Ev.iteF (by omega) (by simpa using hnext)
    · have ew : wrap64 ((i : Int) - 1) = ((i - 1 : Nat) : Int) := by rw [wrapI (by omega)]; omega
      have e : prevL l i = l[i - 1]'(by omega) := by
        unfold prevL
        rw [if_neg c3, List.getD_eq_getElem?_getD, List.getElem?_eq_getElem (by omega)]
        rfl
      refine Ev.iteT (by omega) ?_
      rw [ew]
      refine Ev.iteT (by omega) (Ev.iteT (by omega) ?_)
      rw [rd_nat _ _ (by omega), e]
      by_cases c4 : m ≤ l[i - 1]'(by omega)
      · exact Ev.iteT c4 (Ev.some_ (by rw [decide_eq_false (show ¬ l[i - 1]'(by omega) < m by omega)]; rfl))
      · refine Ev.iteF c4 ?_
        rw [decide_eq_true (show l[i - 1]'(by omega) < m by omega)]
        simpa using hnext
theorem implCovers_l0 (L : List S53) (h : CoverSizes L) : ∀ (t : List S53) (i : Nat), L.drop i = t → i ≤ L.length →
    Ev (fun k => impl_ValidCovers.l0 k ((L.take i).map (·.f0)) L (L.length : Int) (i : Int)) (t.all (fun c => linesF 0 c.f1) && idsS (L.map (·.f0))) := by
  have hlen := h.len
  intro t
  induction t with
  | nil =>
    intro i hd hi
    have hl2 := drop_nil hd
    rw [List.take_of_length_le (by omega)]
    refine Ev.step (fun k => rfl) (Ev.iteF (by omega) (Ev.bind (idsOk_ev (L.map (·.f0)) (by rw [List.length_map]; omega) (fun x hx => ?_)) (Ev.some_ rfl)))
    obtain ⟨c, hc, rfl⟩ := List.mem_map.1 hx
    exact h.ids c hc
  | cons c t ih =>
    intro i hd hi
    obtain ⟨hl2, hb, ht⟩ := drop_cons hd
    have hnext := ih (i + 1) ht (by omega)
    have hcm : c ∈ L := by rw [← hb]; exact List.getElem_mem hl2
    rw [List.take_succ_eq_append_getElem hl2, List.map_append, hb] at hnext
    have hl1 := implCovers_l1 L ((L.take i).map (·.f0)) (L.length : Int) (i : Int) c.f0 c.f1 (h.lines c hcm) (by rw [List.length_map, List.length_take]; omega) _ (by rw [wrapN (by omega)]; exact hnext) c.f1 0 rfl (Nat.zero_le _)
    refine Ev.step (fun k => rfl) (Ev.iteT (by omega) (Ev.iteT (by omega) (Ev.iteT (by omega) ?_)))
    rw [rdC_nat _ _ hl2, hb]
    rw [List.all_cons, Bool.and_assoc]
    exact hl1
theorem implCovers_ev (L : List S53) (h : CoverSizes L) : Ev (fun k => impl_ValidCovers.f k L) (coversS L) :=
  implCovers_l0 L h L 0 rfl (Nat.zero_le _)
theorem specCovers_l1 (L : List S53) (x3 : List ByteArray) (i0 : Nat) (h0 : i0 < L.length) (hl : (L[i0]).f1.length ≤ 4611686018427387903) (r : Bool) (hc : Ev (fun k => spec_validCovers.l0 k L x3 (wrap64 ((i0 : Int) + 1))) r) : ∀ (t : List Int) (i : Nat), (L[i0]).f1.drop i = t → i ≤ (L[i0]).f1.length →
    Ev (fun k => spec_validCovers.l1 k L x3 (i0 : Int) (i : Int)) (linesF (prevL (L[i0]).f1 i) t && r) := by
  intro t
  induction t with
  | nil =>
    intro i h hi
    have hl2 := drop_nil h
    refine Ev.step (fun k => rfl) (Ev.iteT (by omega) (Ev.iteT (by omega) ?_))
    rw [rdC_nat _ _ h0]
    exact Ev.iteF (by omega) (by simpa [linesF] using hc)
  | cons m t ih =>
    intro i h hi
    obtain ⟨hl2, hb, ht⟩ := drop_cons h
    have hnext := ih (i + 1) ht (by omega)
    rw [prevL_succ _ i hl2, hb] at hnext
    refine Ev.step (fun k => rfl) (Ev.iteT (by omega) (Ev.iteT (by omega) ?_))
    rw [rdC_nat _ _ h0]
    refine Ev.iteT (by omega) (Ev.iteT (by omega) ?_)
    rw [rd_nat _ _ hl2, hb, wrapN (by omega)]
    refine Ev.bind0 (inRange_ev m 1 30) ?_
    unfold linesF
    by_cases c1 : 1 ≤ m ∧ m ≤ 30
    · refine Ev.iteT (decide_eq_true c1) ?_
      rw [decide_eq_true c1.1, decide_eq_true c1.2]
      by_cases c3 : i = 0
      · have e : prevL (L[i0]).f1 i = 0 := if_pos c3
        rw [e, decide_eq_true (show 0 < m by omega)]
        exact Ev.iteF (by omega) (by simpa using hnext)
      · have ew : wrap64 ((i : Int) - 1) = ((i - 1 : Nat) : Int) := by rw [wrapI (by omega)]; omega
        have e : prevL (L[i0]).f1 i = (L[i0]).f1[i - 1]'(by omega) := by
          unfold prevL
          rw [if_neg c3, List.getD_eq_getElem?_getD, List.getElem?_eq_getElem (by omega)]
          rfl
        refine Ev.iteT (by omega) ?_
        rw [ew]
        refine Ev.iteT (by omega) (Ev.iteT (by omega) ?_)
        rw [rd_nat _ _ (by omega), e]
        by_cases c4 : m ≤ (L[i0]).f1[i - 1]'(by omega)
        · exact Ev.iteT c4 (Ev.some_ (by rw [decide_eq_false (show ¬ (L[i0]).f1[i - 1]'(by omega) < m by omega)]; rfl))
        · refine Ev.iteF c4 ?_
          rw [decide_eq_true (show (L[i0]).f1[i - 1]'(by omega) < m by omega)]
          simpa using hnext
    · refine Ev.iteF (by simpa using c1) (Ev.some_ ?_)
      by_cases c2 : 1 ≤ m
      · rw [decide_eq_true c2, decide_eq_false (show ¬ m ≤ 30 from fun h => c1 ⟨c2, h⟩)]
        rfl
      · rw [decide_eq_false c2]
        rfl
theorem specCovers_l0 (L : List S53) (h : CoverSizes L) : ∀ (t : List S53) (i : Nat), L.drop i = t → i ≤ L.length →
    Ev (fun k => spec_validCovers.l0 k L ((L.take i).map (·.f0)) (i : Int)) (t.all (fun c => linesF 0 c.f1) && idsS (L.map (·.f0))) := by
  have hlen := h.len
  intro t
  induction t with
  | nil =>
    intro i hd hi
    have hl2 := drop_nil hd
    rw [List.take_of_length_le (by omega)]
    refine Ev.step (fun k => rfl) (Ev.iteF (by omega) (Ev.bind (validOrder_ev (L.map (·.f0)) (by rw [List.length_map]; omega) (fun x hx => ?_)) (Ev.some_ rfl)))
    obtain ⟨c, hc, rfl⟩ := List.mem_map.1 hx
    exact h.ids c hc
  | cons c t ih =>
    intro i hd hi
    obtain ⟨hl2, hb, ht⟩ := drop_cons hd
    have hnext := ih (i + 1) ht (by omega)
    have hcm : c ∈ L := by rw [← hb]; exact List.getElem_mem hl2
    rw [List.take_succ_eq_append_getElem hl2, List.map_append] at hnext
    have hl1 := specCovers_l1 L ((L.take i).map (·.f0) ++ [(L[i]).f0]) i hl2 (by rw [hb]; exact h.lines c hcm) _ (by rw [wrapN (by omega)]; exact hnext) (L[i]).f1 0 rfl (Nat.zero_le _)
    refine Ev.step (fun k => rfl) (Ev.iteT (by omega) (Ev.iteT (by omega) (Ev.iteT (by rw [List.length_map, List.length_take]; omega) ?_)))
    rw [rdC_nat _ _ hl2]
    rw [List.all_cons, Bool.and_assoc, ← hb]
    exact hl1
theorem specCovers_ev (L : List S53) (h : CoverSizes L) : Ev (fun k => spec_validCovers.f k L) (coversS L) :=
  specCovers_l0 L h L 0 rfl (Nat.zero_le _)
theorem SpecCovers_ev (L : List S53) (h : CoverSizes L) : Ev (fun k => spec_ValidCovers.f k L) (coversS L) := by
  unfold spec_ValidCovers.f
  exact Ev.bind (specCovers_ev L h) (Ev.some_ rfl)
/-- What a copy holds after i rounds. -/
def half {α β : Type} (f : α → β) (z : β) (l : List α) (i : Nat) : List β := (l.take i).map f ++ List.replicate (l.length - i) z
theorem half_zero {α β : Type} (f : α → β) (z : β) (l : List α) : half f z l 0 = List.replicate l.length z := by simp [half]
theorem half_full {α β : Type} (f : α → β) (z : β) (l : List α) : half f z l l.length = l.map f := by simp [half]
theorem half_length {α β : Type} (f : α → β) (z : β) (l : List α) (i : Nat) (h : i ≤ l.length) : (half f z l i).length = l.length := by
  simp [half]
  omega
theorem half_set {α β : Type} (f : α → β) (z : β) (l : List α) (i : Nat) (h : i < l.length) : (half f z l i).set i (f l[i]) = half f z l (i + 1) := by
  have e : l.length - i = (l.length - (i + 1)) + 1 := by omega
  have hl : ((l.take i).map f).length = i := by
    rw [List.length_map, List.length_take]
    omega
  unfold half
  rw [List.set_append_right _ _ (by omega), hl, Nat.sub_self, e, List.replicate_succ, List.set_cons_zero, List.take_succ_eq_append_getElem h, List.map_append, List.append_assoc]
  rfl
theorem rdCL_nat (l : List S55) (i : Nat) (h : i < l.length) : rd_T55 l (i : Int) = l[i] := by
  unfold rd_T55
  exact getD_nat _ _ _ h
def toC (x : S55) : S53 := ⟨x.f0, x.f1⟩
structure FewCovers (l : List S55) : Prop where
  len : l.length ≤ 1048576
  ids : ∀ q ∈ l, q.f0.size ≤ 1048576
  lines : ∀ q ∈ l, q.f1.length ≤ 1048576
theorem szCover_ev (x : S55) (h1 : x.f0.size ≤ maxLen) (h2 : x.f1.length ≤ maxLen) (left : Int) (h0 : 0 ≤ left) (h3 : left ≤ 1048576) :
    ∃ r, laws_szCover.f x.f0 x.f1 left = some r ∧ r ≤ 1048576 ∧ (0 ≤ r → x.f0.size ≤ 1048576 ∧ x.f1.length ≤ 1048576) := by
  unfold maxLen at h1 h2
  have ew : wrap64 (left - (x.f0.size : Int)) = left - x.f0.size := wrapI (by omega)
  unfold laws_szCover.f laws_szIntS.f
  rw [ew]
  by_cases c1 : left - (x.f0.size : Int) < 0
  · exact ⟨-1, by rw [if_pos c1], by omega, fun h => by omega⟩
  · have ew2 : wrap64 (left - (x.f0.size : Int) - (x.f1.length : Int)) = left - x.f0.size - x.f1.length := wrapI (by omega)
    rw [if_neg c1, ew2]
    by_cases c2 : left - (x.f0.size : Int) - (x.f1.length : Int) < 0
    · exact ⟨-1, by rw [if_pos c2]; rfl, by omega, fun h => by omega⟩
    · exact ⟨left - x.f0.size - x.f1.length, by rw [if_neg c2, Option.bind_some, if_neg c2], by omega, fun h => by omega⟩
theorem szCoverS_loop (l : List S55) (hl : l.length ≤ 1048576) (hz : ∀ q ∈ l, q.f0.size ≤ maxLen ∧ q.f1.length ≤ maxLen) : ∀ (t : List S55) (i : Nat) (left : Int), l.drop i = t → i ≤ l.length → 0 ≤ left → left ≤ 1048576 →
    ∃ r, Ev (fun k => laws_szCoverS.l0 k l left (i : Int)) r ∧ r ≤ 1048576 ∧ (0 ≤ r → ∀ q ∈ t, q.f0.size ≤ 1048576 ∧ q.f1.length ≤ 1048576) := by
  intro t
  induction t with
  | nil =>
    intro i left h hi h0 h1
    have hl2 := drop_nil h
    exact ⟨left, Ev.step (fun k => rfl) (Ev.iteF (by omega) (Ev.some_ rfl)), h1, fun _ q hq => by cases hq⟩
  | cons q t ih =>
    intro i left h hi h0 h1
    obtain ⟨hl2, hb, ht⟩ := drop_cons h
    have hq := hz q (hb ▸ List.getElem_mem hl2)
    obtain ⟨r, hr, hr2, hf⟩ := szCover_ev q hq.1 hq.2 left h0 h1
    by_cases c : r < 0
    · refine ⟨-1, Ev.step (fun k => rfl) (Ev.iteT (by omega) (Ev.iteT (by omega) ?_)), by omega, fun h => by omega⟩
      rw [rdCL_nat _ _ hl2, hb]
      exact Ev.bind0 hr (Ev.iteT c (Ev.some_ rfl))
    · obtain ⟨r2, hr3, h2, h3⟩ := ih (i + 1) r ht (by omega) (by omega) hr2
      refine ⟨r2, Ev.step (fun k => rfl) (Ev.iteT (by omega) (Ev.iteT (by omega) ?_)), h2, fun h0 p hp => ?_⟩
      · rw [rdCL_nat _ _ hl2, hb, wrapN (by omega)]
        exact Ev.bind0 hr (Ev.iteF c hr3)
      · rcases List.mem_cons.1 hp with rfl | hp
        · exact hf (by omega)
        · exact h3 h0 p hp
theorem szCoverS_ev (l : List S55) (hl : l.length ≤ maxLen) (hz : ∀ q ∈ l, q.f0.size ≤ maxLen ∧ q.f1.length ≤ maxLen) (left : Int) (h0 : 0 ≤ left) (h1 : left ≤ 1048576) :
    ∃ r, Ev (fun k => laws_szCoverS.f k l left) r ∧ r ≤ 1048576 ∧ (0 ≤ r → FewCovers l) := by
  unfold maxLen at hl
  have ew : wrap64 (left - (l.length : Int)) = left - l.length := wrapI (by omega)
  unfold laws_szCoverS.f
  rw [ew]
  by_cases c : left - l.length < 0
  · exact ⟨-1, Ev.iteT c (Ev.some_ rfl), by omega, fun h => by omega⟩
  · obtain ⟨r, hr, h2, h3⟩ := szCoverS_loop l (by omega) hz l 0 (left - l.length) rfl (Nat.zero_le _) (by omega) (by omega)
    exact ⟨r, Ev.iteF c hr, h2, fun h => ⟨by omega, fun q hq => (h3 h q hq).1, fun q hq => (h3 h q hq).2⟩⟩
theorem toIntS_loop (l : List Int) (hl : l.length ≤ 1048576) : ∀ (d i : Nat), i + d = l.length →
    Ev (fun k => laws_toIntS.l0 k l (half id (0 : Int) l i) (i : Int)) l := by
  intro d
  induction d with
  | zero =>
    intro i hd
    obtain rfl : i = l.length := by omega
    exact Ev.step (fun k => rfl) (Ev.iteF (by omega) (Ev.some_ (by rw [half_full]; simp)))
  | succ d ih =>
    intro i hd
    have hi : i < l.length := by omega
    refine Ev.step (fun k => rfl) (Ev.iteT (by omega) (Ev.iteT (by omega) ?_))
    rw [rd_nat _ _ hi]
    refine Ev.iteT (by rw [half_length _ _ _ _ (by omega)]; omega) ?_
    rw [wrapN (by omega), Int.toNat_natCast]
    have := ih (i + 1) (by omega)
    rw [← half_set id _ l i hi] at this
    exact this
theorem toIntS_ev (l : List Int) (hl : l.length ≤ 1048576) : Ev (fun k => laws_toIntS.f k l) l := by
  unfold laws_toIntS.f
  rw [Int.toNat_natCast]
  have := toIntS_loop l hl l.length 0 (by omega)
  rw [half_zero] at this
  exact Ev.iteT (by omega) (Ev.iteT (by omega) this)
theorem eqIntS_loop (l : List Int) (hl : l.length ≤ 4611686018427387903) : ∀ (d i : Nat), i + d = l.length → Ev (fun k => laws_eqIntS.l0 k l l (i : Int)) true := by
  intro d
  induction d with
  | zero =>
    intro i hd
    exact Ev.step (fun k => rfl) (Ev.iteF (by omega) (Ev.some_ rfl))
  | succ d ih =>
    intro i hd
    refine Ev.step (fun k => rfl) (Ev.iteT (by omega) (Ev.iteT (by omega) (Ev.iteT (by omega) (Ev.iteT rfl ?_))))
    rw [wrapN (by omega)]
    exact ih (i + 1) (by omega)
theorem eqIntS_ev (l : List Int) (hl : l.length ≤ 4611686018427387903) : Ev (fun k => laws_eqIntS.f k l l) true := by
  unfold laws_eqIntS.f
  exact Ev.iteT rfl (eqIntS_loop l hl l.length 0 (by omega))
theorem toCoverS_loop (l : List S55) (hl : FewCovers l) : ∀ (d i : Nat), i + d = l.length →
    Ev (fun k => laws_toCoverS.l0 k l (half toC z53 l i) (i : Int)) (l.map toC) := by
  have hlen := hl.len
  intro d
  induction d with
  | zero =>
    intro i hd
    obtain rfl : i = l.length := by omega
    exact Ev.step (fun k => rfl) (Ev.iteF (by omega) (Ev.some_ (by rw [half_full])))
  | succ d ih =>
    intro i hd
    have hi : i < l.length := by omega
    have hq := hl.lines _ (List.getElem_mem hi)
    have ht : Ev (fun k => laws_toCover.f k (l[i]).f0 (l[i]).f1) ((l[i]).f0, (l[i]).f1) := by
      unfold laws_toCover.f
      exact Ev.bind (toIntS_ev _ hq) (Ev.some_ rfl)
    refine Ev.step (fun k => rfl) (Ev.iteT (by omega) (Ev.iteT (by omega) ?_))
    rw [rdCL_nat _ _ hi]
    refine Ev.bind ht (Ev.iteT (by rw [half_length _ _ _ _ (by omega)]; omega) ?_)
    rw [wrapN (by omega), Int.toNat_natCast]
    have := ih (i + 1) (by omega)
    rw [← half_set toC _ l i hi] at this
    exact this
theorem toCoverS_ev (l : List S55) (hl : FewCovers l) : Ev (fun k => laws_toCoverS.f k l) (l.map toC) := by
  have hlen := hl.len
  unfold laws_toCoverS.f
  rw [Int.toNat_natCast]
  have := toCoverS_loop l hl l.length 0 (by omega)
  rw [half_zero] at this
  exact Ev.iteT (by omega) (Ev.iteT (by omega) this)
theorem eqCoverS_loop (l : List S53) (hl : CoverSizes l) : ∀ (d i : Nat), i + d = l.length → Ev (fun k => laws_eqCoverS.l0 k l l (i : Int)) true := by
  have hlen := hl.len
  intro d
  induction d with
  | zero =>
    intro i hd
    exact Ev.step (fun k => rfl) (Ev.iteF (by omega) (Ev.some_ rfl))
  | succ d ih =>
    intro i hd
    have hi : i < l.length := by omega
    have he : Ev (fun k => laws_eqCover.f k (l[i]).f0 (l[i]).f1 (l[i]).f0 (l[i]).f1) true := by
      unfold laws_eqCover.f
      exact Ev.iteT rfl (Ev.bind (eqIntS_ev _ (hl.lines _ (List.getElem_mem hi))) (Ev.iteT rfl (Ev.some_ rfl)))
    refine Ev.step (fun k => rfl) (Ev.iteT (by omega) (Ev.iteT (by omega) (Ev.iteT (by omega) ?_)))
    rw [rdC_nat _ _ hi]
    refine Ev.bind he (Ev.iteT rfl ?_)
    rw [wrapN (by omega)]
    exact ih (i + 1) (by omega)
theorem eqCoverS_ev (l : List S53) (hl : CoverSizes l) : Ev (fun k => laws_eqCoverS.f k l l) true := by
  unfold laws_eqCoverS.f
  exact Ev.iteT rfl (eqCoverS_loop l hl l.length 0 (by omega))
theorem FewCovers.sizes {l : List S55} (h : FewCovers l) : CoverSizes (l.map toC) := by
  refine ⟨by have := h.len; rw [List.length_map]; omega, fun c hc => ?_, fun c hc => ?_⟩
  · obtain ⟨x, hx, rfl⟩ := List.mem_map.1 hc
    have := h.ids x hx
    show x.f0.size ≤ _
    omega
  · obtain ⟨x, hx, rfl⟩ := List.mem_map.1 hc
    have := h.lines x hx
    show x.f1.length ≤ _
    omega
end Go.Proofs.Ytlnaejkbanpcjaa.C
