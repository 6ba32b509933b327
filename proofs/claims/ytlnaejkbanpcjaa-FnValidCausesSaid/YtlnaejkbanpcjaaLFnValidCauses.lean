/- Plain laws, without Go, that the law FnValidCauses leans on. No condition. -/
import Derived.Test.YtlnaejkbanpcjaaDx0
import Derived.Test.YtlnaejkbanpcjaaDx1
import Derived.Test.YtlnaejkbanpcjaaDx2
import Derived.Test.YtlnaejkbanpcjaaDx3
import Derived.Test.YtlnaejkbanpcjaaDx4
import Derived.Test.YtlnaejkbanpcjaaDx5
import Derived.Test.YtlnaejkbanpcjaaDx6
import Derived.Test.YtlnaejkbanpcjaaWMore
import Derived.IntWalk
import Derived.Laws.BitsLemmas
import Derived.Lib.Bytealg
import Derived.Lib.Strings
set_option linter.unusedSimpArgs false
set_option linter.unusedVariables false
namespace Go.Proofs.Ytlnaejkbanpcjaa.D
open Go.RowKit Go.Proofs.YtlnaejkbanpcjaaW.PrintWords Go.Proofs.YtlnaejkbanpcjaaW.PrintLast Go.Proofs.YtlnaejkbanpcjaaW.PrintMore
theorem Ev.iteT {α : Type} {c : Prop} [Decidable c] {g f : Nat → Option α} {r : α} (h : c) (k : Ev g r) : Ev (fun n => if c then g n else f n) r := by
  simpa only [if_pos h] using k
theorem Ev.iteF {α : Type} {c : Prop} [Decidable c] {g f : Nat → Option α} {r : α} (h : ¬ c) (k : Ev f r) : Ev (fun n => if c then g n else f n) r := by
  simpa only [if_neg h] using k
/-- A callee without rounds. -/
theorem Ev.bind0 {α β : Type} {g : Option α} {f : Nat → α → Option β} {a : α} {r : β} (h : g = some a) (k : Ev (fun n => f n a) r) : Ev (fun n => g.bind (f n)) r := by
  subst h
  simpa only [Option.bind_some] using k
theorem Ev.some_ {α : Type} {x r : α} (h : x = r) : Ev (fun _ => some x) r := ⟨0, fun _ _ => by rw [h]⟩
theorem Ev.bool {b r : Bool} (h : b = r) : Ev (fun _ => some b) r := Ev.some_ h
theorem wrapN {i : Nat} (h : i < 4611686018427387904) : wrap64 ((i : Int) + 1) = ((i + 1 : Nat) : Int) := by
  unfold wrap64
  omega
theorem wrapI {x : Int} (h : -9223372036854775808 ≤ x ∧ x ≤ 9223372036854775807) : wrap64 x = x := by
  unfold wrap64
  omega
theorem rdOf_nat {α : Type} (d : α) (l : List α) (i : Nat) (h : i < l.length) : rdOf d l (i : Int) = l[i] := by
  simp [rdOf, List.getD_eq_getElem?_getD, List.getElem?_eq_getElem h]
theorem rd_nat (l : List Int) (i : Nat) (h : i < l.length) : rd l (i : Int) = l[i] := by
  simp [rd, List.getD_eq_getElem?_getD, List.getElem?_eq_getElem h]
theorem getD_nat {α : Type} (d : α) (l : List α) (i : Nat) (h : i < l.length) : l.getD (i : Int).toNat d = l[i] := by
  simp [List.getD_eq_getElem?_getD, List.getElem?_eq_getElem h]
theorem size_list (s : ByteArray) : s.data.toList.length = s.size := by rw [Array.length_toList]; rfl
theorem bt_nat (s : ByteArray) (i : Nat) (h : i < s.data.toList.length) : bt s (i : Int) = ((s.data.toList[i]).toNat : Int) := by
  have h' : i < s.size := by rw [← size_list]; exact h
  unfold bt
  rw [dif_pos (by simpa using h')]
  rfl
/-- A list seen from place i on. -/
theorem drop_cons {α : Type} {l : List α} {i : Nat} {b : α} {t : List α} (h : l.drop i = b :: t) : ∃ hi : i < l.length, l[i] = b ∧ l.drop (i + 1) = t := by
  have hi : i < l.length := by
    rcases Nat.lt_or_ge i l.length with h1 | h1
    · exact h1
    · rw [List.drop_of_length_le h1] at h
      cases h
  refine ⟨hi, ?_, ?_⟩
  · rw [List.drop_eq_getElem_cons hi] at h
    exact (List.cons.inj h).1
  · rw [List.drop_eq_getElem_cons hi] at h
    exact (List.cons.inj h).2
theorem drop_nil {α : Type} {l : List α} {i : Nat} (h : l.drop i = []) : l.length ≤ i := by
  have := congrArg List.length h
  rw [List.length_drop] at this
  simpa using Nat.sub_eq_zero_iff_le.1 this
theorem toList_inj {a b : ByteArray} (h : a.toList = b.toList) : a = b := by
  rw [Lib.toList_data, Lib.toList_data] at h
  cases a with
  | mk x => cases b with
    | mk y =>
      have : x = y := Array.ext' h
      rw [this]
theorem toList_iff {a b : ByteArray} : a.toList = b.toList ↔ a = b := ⟨toList_inj, fun h => by rw [h]⟩
def lowB (b : UInt8) : Bool := decide (97 ≤ (b.toNat : Int)) && decide ((b.toNat : Int) ≤ 122)
/-- What is asked of a name behind its letters. -/
def nameEnd (s : ByteArray) : Bool := decide (1 ≤ s.size) && (decide (s.size ≤ 6) && (s.toList != ([97, 110, 100] : List UInt8) && (s.toList != ([111, 114] : List UInt8) && s.toList != ([110, 111, 116] : List UInt8))))
def nameS (s : ByteArray) : Bool := s.data.toList.all lowB && nameEnd s
theorem nameOk_loop (s : ByteArray) (hs : s.size ≤ 4611686018427387903) : ∀ (t : List UInt8) (i : Nat), s.data.toList.drop i = t → i ≤ s.size →
    Ev (fun k => impl_nameOk.l0 k s (s.size : Int) (i : Int)) (t.all lowB && nameEnd s) := by
  intro t
  induction t with
  | nil =>
    intro i h hi
    have hl := drop_nil h
    rw [size_list] at hl
    refine Ev.step (fun k => rfl) (Ev.iteF (by omega) ?_)
    simp only [List.all_nil, Bool.true_and]
    unfold nameEnd
    by_cases h1 : 1 ≤ s.size
    · refine Ev.iteT (by omega) ?_
      by_cases h2 : s.size ≤ 6
      · refine Ev.iteT (by omega) ?_
        by_cases h3 : s.toList = ([97, 110, 100] : List UInt8)
        · exact Ev.iteT h3 (Ev.bool (by simp [h3]))
        · refine Ev.iteF h3 ?_
          by_cases h4 : s.toList = ([111, 114] : List UInt8)
          · exact Ev.iteT h4 (Ev.bool (by simp [h4]))
          · exact Ev.iteF h4 (Ev.bool (by simp [h1, h2, bne_iff_ne.2 h3, bne_iff_ne.2 h4]))
      · exact Ev.iteF (by omega) (Ev.bool (by simp [h2]))
    · exact Ev.iteF (by omega) (Ev.bool (by simp [h1]))
  | cons b t ih =>
    intro i h hi
    obtain ⟨hl, hb, ht⟩ := drop_cons h
    have hl' := hl
    rw [size_list] at hl'
    refine Ev.step (fun k => rfl) (Ev.iteT (by omega) (Ev.iteT (by omega) (Ev.iteT (by omega) ?_)))
    rw [bt_nat s i hl, hb]
    by_cases h1 : (b.toNat : Int) < 97
    · exact Ev.iteT h1 (Ev.bool (by simp [lowB]; omega))
    · refine Ev.iteF h1 ?_
      by_cases h2 : (b.toNat : Int) > 122
      · exact Ev.iteT h2 (Ev.bool (by simp [lowB]; omega))
      · refine Ev.iteF h2 ?_
        rw [wrapN (by omega)]
        have := ih (i + 1) ht (by omega)
        have e : lowB b = true := by simp [lowB]; omega
        simpa [List.all_cons, e] using this
theorem nameOk_ev (s : ByteArray) (hs : s.size ≤ 4611686018427387903) : Ev (fun k => impl_nameOk.f k s) (nameS s) :=
  nameOk_loop s hs _ 0 rfl (Nat.zero_le _)
theorem inRange_ev (a b c : Int) : spec_inRange.f a b c = some (decide (b ≤ a ∧ a ≤ c)) := by
  unfold spec_inRange.f
  by_cases h : b ≤ a
  · rw [if_pos h]
    simp [h]
  · rw [if_neg h]
    simp [h]
theorem validName_loop (s : ByteArray) (hs : s.size ≤ 4611686018427387903) : ∀ (t : List UInt8) (i : Nat), s.data.toList.drop i = t → i ≤ s.size →
    Ev (fun k => spec_validName.l0 k s (i : Int)) (t.all lowB && nameEnd s) := by
  intro t
  induction t with
  | nil =>
    intro i h hi
    have hl := drop_nil h
    rw [size_list] at hl
    refine Ev.step (fun k => rfl) (Ev.iteF (by omega) (Ev.bind0 (inRange_ev _ _ _) ?_))
    simp only [List.all_nil, Bool.true_and]
    unfold nameEnd
    by_cases h1 : 1 ≤ s.size
    · by_cases h2 : s.size ≤ 6
      · refine Ev.iteT (by simp; omega) ?_
        by_cases h3 : s.toList = ([97, 110, 100] : List UInt8)
        · exact Ev.iteT h3 (Ev.bool (by simp [h3]))
        · refine Ev.iteF h3 ?_
          by_cases h4 : s.toList = ([111, 114] : List UInt8)
          · exact Ev.iteT h4 (Ev.bool (by simp [h4]))
          · exact Ev.iteF h4 (Ev.bool (by simp [h1, h2, bne_iff_ne.2 h3, bne_iff_ne.2 h4]))
      · exact Ev.iteF (by simp; omega) (Ev.bool (by simp [h2]))
    · exact Ev.iteF (by simp; omega) (Ev.bool (by simp [h1]))
  | cons b t ih =>
    intro i h hi
    obtain ⟨hl, hb, ht⟩ := drop_cons h
    have hl' := hl
    rw [size_list] at hl'
    refine Ev.step (fun k => rfl) (Ev.iteT (by omega) (Ev.iteT (by omega) ?_))
    rw [bt_nat s i hl, hb]
    by_cases h1 : (b.toNat : Int) < 97
    · exact Ev.iteT h1 (Ev.bool (by simp [lowB]; omega))
    · refine Ev.iteF h1 ?_
      by_cases h2 : (b.toNat : Int) > 122
      · exact Ev.iteT h2 (Ev.bool (by simp [lowB]; omega))
      · refine Ev.iteF h2 ?_
        rw [wrapN (by omega)]
        have := ih (i + 1) ht (by omega)
        have e : lowB b = true := by simp [lowB]; omega
        simpa [List.all_cons, e] using this
theorem validName_ev (s : ByteArray) (hs : s.size ≤ 4611686018427387903) : Ev (fun k => spec_validName.f k s) (nameS s) :=
  validName_loop s hs _ 0 rfl (Nat.zero_le _)
theorem extract_size_le (s : ByteArray) (a b : Nat) : (s.extract a b).size ≤ s.size := by
  rw [ByteArray.size_extract]
  omega
theorem indexByte_cons (b : UInt8) (l : List UInt8) (c : UInt8) : Lib.indexByte (b :: l) c = if b = c then 0 else if Lib.indexByte l c < 0 then -1 else Lib.indexByte l c + 1 := by
  have hg := Lib.indexByte_ge l c
  rw [Lib.indexByte]
  by_cases h : b = c
  · simp [h]
  · have h1 : (b == c) = false := by simpa using h
    rw [h1, if_neg h]
    simp only [Bool.false_eq_true, if_false]
    by_cases h2 : Lib.indexByte l c = -1
    · rw [h2]
      simp
    · have h3 : (Lib.indexByte l c == -1) = false := by simpa using h2
      have h4 : ¬ Lib.indexByte l c < 0 := by omega
      rw [h3, if_neg h4]
      simp
theorem indexByte_lt (l : List UInt8) (c : UInt8) : Lib.indexByte l c < l.length := by
  induction l with
  | nil => simp [Lib.indexByte]
  | cons b l ih =>
    rw [indexByte_cons]
    have hg := Lib.indexByte_ge l c
    simp only [List.length_cons]
    split
    · omega
    · split <;> omega
/-- Where the first point stands, and whether both sides of it are names. -/
def idS (s : ByteArray) : Bool := decide (0 ≤ Lib.indexByte s.data.toList 46) && (nameS (s.extract 0 (Lib.indexByte s.data.toList 46).toNat) && nameS (s.extract ((Lib.indexByte s.data.toList 46).toNat + 1) s.size))
theorem stringsCut_at (s : ByteArray) (c : UInt8) (hs : s.size ≤ 4611686018427387903) :
    strings_Cut.f s ⟨#[c]⟩ = some (if 0 ≤ Lib.indexByte s.data.toList c then (s.extract 0 (Lib.indexByte s.data.toList c).toNat, s.extract ((Lib.indexByte s.data.toList c).toNat + 1) s.size, true) else (s, ⟨#[]⟩, false)) := by
  have hg := Lib.indexByte_ge s.data.toList c
  have hl := indexByte_lt s.data.toList c
  rw [size_list] at hl
  have e1 : (⟨#[c]⟩ : ByteArray).size = 1 := rfl
  have e : stringslite_Index.f s ⟨#[c]⟩ = some (Lib.indexByte s.data.toList c) := rfl
  unfold strings_Cut.f stringslite_Cut.f
  rw [e]
  simp only [Option.bind_some, e1]
  generalize Lib.indexByte s.data.toList c = i at hg hl ⊢
  by_cases h : 0 ≤ i
  · have ew : wrap64 (i + ((1 : Nat) : Int)) = ((i.toNat + 1 : Nat) : Int) := by unfold wrap64; omega
    rw [if_pos h, if_pos h, if_pos (by omega), ew, if_pos (by omega), if_pos (by omega), if_pos h, Int.toNat_natCast]
    rfl
  · rw [if_neg h, if_neg h]
    rfl
theorem idOk_ev (s : ByteArray) (hs : s.size ≤ 4611686018427387903) : Ev (fun k => impl_idOk.f k s) (idS s) := by
  unfold impl_idOk.f idS
  refine Ev.bind0 (stringsCut_at s 46 hs) ?_
  by_cases h : 0 ≤ Lib.indexByte s.data.toList 46
  · simp only [if_pos h]
    have n1 := nameOk_ev (s.extract 0 (Lib.indexByte s.data.toList 46).toNat) (by have := extract_size_le s 0 (Lib.indexByte s.data.toList 46).toNat; omega)
    have n2 := nameOk_ev (s.extract ((Lib.indexByte s.data.toList 46).toNat + 1) s.size) (by have := extract_size_le s ((Lib.indexByte s.data.toList 46).toNat + 1) s.size; omega)
    refine Ev.iteT (by trivial) (Ev.bind n1 ?_)
    cases hn : nameS (s.extract 0 (Lib.indexByte s.data.toList 46).toNat) with
    | true => exact Ev.iteT rfl (Ev.bind n2 (Ev.bool (by simp [h])))
    | false => exact Ev.iteF (by simp) (Ev.bool (by simp))
  · simp only [if_neg h]
    exact Ev.iteF (by simp) (Ev.bool (by simp [h]))
theorem validId_loop (s : ByteArray) (hs : s.size ≤ 4611686018427387903) : ∀ (t : List UInt8) (i : Nat), s.data.toList.drop i = t → i ≤ s.size →
    Ev (fun k => spec_validId.l0 k s (i : Int)) (decide (0 ≤ Lib.indexByte t 46) && (nameS (s.extract 0 (i + (Lib.indexByte t 46).toNat)) && nameS (s.extract (i + (Lib.indexByte t 46).toNat + 1) s.size))) := by
  intro t
  induction t with
  | nil =>
    intro i h hi
    have hl := drop_nil h
    rw [size_list] at hl
    exact Ev.step (fun k => rfl) (Ev.iteF (by omega) (Ev.bool (by simp [Lib.indexByte])))
  | cons b t ih =>
    intro i h hi
    obtain ⟨hl, hb, ht⟩ := drop_cons h
    have hl' := hl
    rw [size_list] at hl'
    refine Ev.step (fun k => rfl) (Ev.iteT (by omega) (Ev.iteT (by omega) ?_))
    rw [bt_nat s i hl, hb]
    by_cases h1 : b = 46
    · subst h1
      refine Ev.iteT (by decide) (Ev.iteT (by omega) ?_)
      have n1 := validName_ev (s.extract 0 i) (by have := extract_size_le s 0 i; omega)
      have n2 := validName_ev (s.extract (i + 1) s.size) (by have := extract_size_le s (i + 1) s.size; omega)
      rw [indexByte_cons, if_pos rfl]
      simp only [Int.toNat_natCast, Int.toNat_zero, Nat.add_zero, Int.le_refl, decide_true, Bool.true_and]
      refine Ev.bind n1 ?_
      rw [wrapN (by omega)]
      cases hn : nameS (s.extract 0 i) with
      | true =>
        refine Ev.iteT rfl (Ev.iteT (by omega) (Ev.iteT (by omega) ?_))
        rw [Int.toNat_natCast]
        exact Ev.bind n2 (Ev.bool (by simp))
      | false => exact Ev.iteF (by simp) (Ev.bool (by simp))
    · have hne : ¬ (b.toNat : Int) = 46 := fun h2 => h1 (by apply UInt8.toNat.inj; simp; omega)
      refine Ev.iteF hne ?_
      rw [wrapN (by omega)]
      have := ih (i + 1) ht (by omega)
      rw [indexByte_cons, if_neg h1]
      have hg := Lib.indexByte_ge t 46
      by_cases h2 : Lib.indexByte t 46 < 0
      · rw [if_pos h2]
        rw [show decide (0 ≤ Lib.indexByte t 46) = false from decide_eq_false (by omega)] at this
        simpa using this
      · rw [if_neg h2]
        have e1 : (Lib.indexByte t 46 + 1).toNat = (Lib.indexByte t 46).toNat + 1 := by omega
        rw [e1, show i + ((Lib.indexByte t 46).toNat + 1) = i + 1 + (Lib.indexByte t 46).toNat from by omega, show decide (0 ≤ Lib.indexByte t 46 + 1) = true from decide_eq_true (by omega)]
        rw [show decide (0 ≤ Lib.indexByte t 46) = true from decide_eq_true (by omega)] at this
        exact this
theorem validId_ev (s : ByteArray) (hs : s.size ≤ 4611686018427387903) : Ev (fun k => spec_validId.f k s) (idS s) := by
  have := validId_loop s hs _ 0 rfl (Nat.zero_le _)
  simp only [Nat.zero_add] at this
  exact this
def memB (l : List ByteArray) (x : ByteArray) : Bool := l.any fun y => decide (y = x)
theorem memB_iff {l : List ByteArray} {x : ByteArray} : memB l x = true ↔ x ∈ l := by
  simp [memB]
theorem memB_eq {l : List ByteArray} {x : ByteArray} {p : Prop} [Decidable p] (h : p ↔ x ∈ l) : decide p = memB l x := by
  rw [Bool.eq_iff_iff, memB_iff]
  simpa using h
theorem index_loop (l : List ByteArray) (x : ByteArray) (hl : l.length ≤ 4611686018427387903) : ∀ (t : List ByteArray) (i : Nat), l.drop i = t → i ≤ l.length →
    ∃ r : Int, Ev (fun k => slices_Index_string_string.l0 k l x (l.length : Int) (i : Int)) r ∧ (0 ≤ r ↔ x ∈ t) := by
  intro t
  induction t with
  | nil =>
    intro i h hi
    have hl2 := drop_nil h
    exact ⟨-1, Ev.step (fun k => rfl) (Ev.iteF (by omega) (Ev.some_ rfl)), by simp⟩
  | cons b t ih =>
    intro i h hi
    obtain ⟨hl2, hb, ht⟩ := drop_cons h
    by_cases h1 : x = b
    · refine ⟨(i : Int), Ev.step (fun k => rfl) (Ev.iteT (by omega) (Ev.iteT (by omega) (Ev.iteT (by omega) (Ev.iteT ?_ (Ev.some_ rfl))))), by simp [h1]⟩
      rw [rdOf_nat _ _ _ hl2, hb, h1]
    · obtain ⟨r, hr, hm⟩ := ih (i + 1) ht (by omega)
      refine ⟨r, Ev.step (fun k => rfl) (Ev.iteT (by omega) (Ev.iteT (by omega) (Ev.iteT (by omega) (Ev.iteF ?_ ?_)))), by simp [h1, hm]⟩
      · rw [rdOf_nat _ _ _ hl2, hb, toList_iff]
        exact h1
      · rw [wrapN (by omega)]
        exact hr
theorem contains_ev (l : List ByteArray) (x : ByteArray) (hl : l.length ≤ 4611686018427387903) : Ev (fun k => slices_Contains_string_string.f k l x) (memB l x) := by
  obtain ⟨r, hr, hm⟩ := index_loop l x hl l 0 rfl (Nat.zero_le _)
  exact Ev.bind hr (Ev.bool (memB_eq hm))
theorem nodup_take_succ {α : Type} (l : List α) (i : Nat) (h : i < l.length) : (l.take (i + 1)).Nodup ↔ (l.take i).Nodup ∧ l[i] ∉ l.take i := by
  rw [List.take_succ_eq_append_getElem h, List.nodup_append]
  simp only [List.nodup_cons, List.not_mem_nil, not_false_eq_true, List.nodup_nil, and_self, true_and, List.mem_singleton, forall_eq]
  exact ⟨fun ⟨a, b⟩ => ⟨a, fun hm => b _ hm rfl⟩, fun ⟨a, b⟩ => ⟨a, fun x hx e => b (e ▸ hx)⟩⟩
theorem nodup_of_take {α : Type} (l : List α) (i : Nat) (h : ¬ (l.take i).Nodup) : ¬ l.Nodup := fun hn => h (hn.sublist (List.take_sublist _ _))
theorem apart_loop (l : List ByteArray) (hl : l.length ≤ 4611686018427387903) : ∀ (d i : Nat), i + d = l.length → (l.take i).Nodup →
    Ev (fun k => impl_apart.l0 k l l (l.length : Int) (i : Int)) (decide l.Nodup) := by
  intro d
  induction d with
  | zero =>
    intro i hd hn
    have e : l.take i = l := List.take_of_length_le (by omega)
    rw [e] at hn
    exact Ev.step (fun k => rfl) (Ev.iteF (by omega) (Ev.some_ (by simp [hn])))
  | succ d ih =>
    intro i hd hn
    have hi : i < l.length := by omega
    refine Ev.step (fun k => rfl) (Ev.iteT (by omega) (Ev.iteT (by omega) (Ev.iteT (by omega) (Ev.iteT (by omega) ?_))))
    rw [Int.toNat_natCast, rdOf_nat _ _ _ hi]
    refine Ev.bind (contains_ev (l.take i) l[i] (by rw [List.length_take]; omega)) ?_
    by_cases hm : l[i] ∈ l.take i
    · refine Ev.iteT (memB_iff.2 hm) (Ev.bool ?_)
      have : ¬ l.Nodup := nodup_of_take l (i + 1) (fun h => ((nodup_take_succ l i hi).1 h).2 hm)
      simp [this]
    · refine Ev.iteF (by rw [memB_iff]; exact hm) ?_
      rw [wrapN (by omega)]
      exact ih (i + 1) (by omega) ((nodup_take_succ l i hi).2 ⟨hn, hm⟩)
theorem apart_ev (l : List ByteArray) (hl : l.length ≤ 4611686018427387903) : Ev (fun k => impl_apart.f k l) (decide l.Nodup) :=
  apart_loop l hl l.length 0 (by omega) (by simp)
/-- All in a list are of a size that numbers hold. -/
def SizesOk (l : List ByteArray) : Prop := ∀ x ∈ l, x.size ≤ 4611686018427387903
def idsS (l : List ByteArray) : Bool := l.all idS && (decide (l.length ≤ 10) && decide l.Nodup)
theorem idsOk_loop (l : List ByteArray) (hl : l.length ≤ 4611686018427387903) (hz : SizesOk l) : ∀ (t : List ByteArray) (i : Nat), l.drop i = t → i ≤ l.length →
    Ev (fun k => impl_idsOk.l0 k l l (l.length : Int) (i : Int)) (t.all idS && (decide (l.length ≤ 10) && decide l.Nodup)) := by
  intro t
  induction t with
  | nil =>
    intro i h hi
    have hl2 := drop_nil h
    refine Ev.step (fun k => rfl) (Ev.iteF (by omega) ?_)
    by_cases h1 : l.length ≤ 10
    · exact Ev.iteT (by omega) (Ev.bind (apart_ev l hl) (Ev.bool (by simp [h1])))
    · exact Ev.iteF (by omega) (Ev.bool (by simp [h1]))
  | cons b t ih =>
    intro i h hi
    obtain ⟨hl2, hb, ht⟩ := drop_cons h
    refine Ev.step (fun k => rfl) (Ev.iteT (by omega) (Ev.iteT (by omega) (Ev.iteT (by omega) ?_)))
    rw [rdOf_nat _ _ _ hl2, hb]
    have hs : b.size ≤ 4611686018427387903 := hz b (hb ▸ List.getElem_mem hl2)
    refine Ev.bind (idOk_ev b hs) ?_
    cases hn : idS b with
    | true =>
      refine Ev.iteT rfl ?_
      rw [wrapN (by omega)]
      simpa [List.all_cons, hn] using ih (i + 1) ht (by omega)
    | false => exact Ev.iteF (by simp) (Ev.bool (by simp [hn]))
theorem idsOk_ev (l : List ByteArray) (hl : l.length ≤ 4611686018427387903) (hz : SizesOk l) : Ev (fun k => impl_idsOk.f k l) (idsS l) :=
  idsOk_loop l hl hz l 0 rfl (Nat.zero_le _)
theorem xor_nat (a b : Nat) (ha : a < 2 ^ 62) (hb : b < 2 ^ 62) : bits .xor .i64 a b = ((a ^^^ b : Nat) : Int) := by
  have hk : IntKind.i64.bits = 64 := rfl
  have ha' : a % 2 ^ 64 = a := Nat.mod_eq_of_lt (by omega)
  have hb' : b % 2 ^ 64 = b := Nat.mod_eq_of_lt (by omega)
  have hx := Nat.xor_lt_two_pow ha hb
  simp only [bits, hk, BitVec.ofInt_natCast, BitVec.toNat_xor, BitVec.toNat_ofNat, ha', hb']
  rw [IntKind.wrap_i64]
  omega
theorem xor_nonneg (a b : Int) (ha : 0 ≤ a) (ha' : a < 4611686018427387904) (hb : 0 ≤ b) (hb' : b < 4611686018427387904) : 0 ≤ bits .xor .i64 a b := by
  obtain ⟨x, rfl⟩ := Int.eq_ofNat_of_zero_le ha
  obtain ⟨y, rfl⟩ := Int.eq_ofNat_of_zero_le hb
  rw [xor_nat x y (by omega) (by omega)]
  omega
/-- A code: what a reader reads. -/
structure Code_ (b : List Int) : Prop where
  len : b.length ≤ 2000
  byte : ∀ x ∈ b, 0 ≤ x ∧ x ≤ 255
theorem Code_.at_ {b : List Int} (h : Code_ b) (i : Int) (h0 : 0 ≤ i) (h1 : i < b.length) : 0 ≤ rd b i ∧ rd b i ≤ 255 := by
  obtain ⟨j, rfl⟩ := Int.eq_ofNat_of_zero_le h0
  rw [rd_nat b j (by omega)]
  exact h.byte _ (List.getElem_mem _)
theorem Code_.nil : Code_ [] := ⟨by simp, by simp⟩
theorem newReader_ev (l : List Int) (h : ∀ x ∈ l, 0 ≤ x ∧ x ≤ 255) : ∃ b, spec_newReader.f l = some (b, 0) ∧ Code_ b := by
  unfold spec_newReader.f
  by_cases h1 : (l.length : Int) > 2000
  · rw [if_pos h1, if_pos (by omega)]
    exact ⟨_, rfl, ⟨by rw [List.length_take]; omega, fun x hx => h x (List.mem_of_mem_take hx)⟩⟩
  · rw [if_neg h1]
    exact ⟨_, rfl, ⟨by omega, h⟩⟩
theorem pick_ev {b : List Int} (hb : Code_ b) (p n : Int) (h0 : 0 ≤ p) (h1 : p ≤ 1099511627776) (hn : n ≤ 1099511627776) :
    ∃ v, Ev (fun k => spec_reader_pick.f k b p n) (v, p + 1) ∧ 0 ≤ v ∧ (1 ≤ n → v < n) := by
  have w1 : wrap64 (p + 1) = p + 1 := wrapI (by omega)
  have w0 : wrap64 (p + 1 - 1) = p := by rw [wrapI (by omega)]; omega
  have hl := hb.len
  unfold spec_reader_pick.f
  rw [w1]
  by_cases c1 : n < 1
  · exact ⟨0, ⟨1, fun k hk => by obtain ⟨m, rfl⟩ : ∃ m, k = m + 1 := ⟨k - 1, by omega⟩; exact (if_pos c1).trans rfl⟩, by omega, by omega⟩
  · simp only [if_neg c1]
    by_cases c2 : b.length = 0
    · exact ⟨0, Ev.step (fun k => rfl) (Ev.iteT (by simp [c2]) (Ev.some_ rfl)), by omega, by omega⟩
    · by_cases c3 : p < (b.length : Int)
      · have ha := hb.at_ p h0 c3
        have w2 : wrap64 (rd b p) = rd b p := wrapI (by omega)
        refine ⟨Int.tmod (rd b p) n, Ev.step (fun k => rfl) (Ev.iteF (by simp only [beq_iff_eq]; omega) (Ev.iteT (by rw [w0]; exact c3) (Ev.iteT (by rw [w0]; exact h0) (Ev.iteF (by omega) (Ev.some_ ?_))))), Int.tmod_nonneg _ ha.1, fun _ => Int.tmod_lt_of_pos _ (by omega)⟩
        rw [w0, w2]
      · have hL : (0 : Int) < b.length := by omega
        have t1 : 0 ≤ Int.tmod p b.length := Int.tmod_nonneg _ h0
        have t2 : Int.tmod p b.length < b.length := Int.tmod_lt_of_pos _ hL
        have w3 : wrap64 (p * 7) = p * 7 := wrapI (by omega)
        have w4 : wrap64 (p * 7 + 3) = p * 7 + 3 := wrapI (by omega)
        have t3 : 0 ≤ Int.tmod (p * 7 + 3) b.length := Int.tmod_nonneg _ (by omega)
        have t4 : Int.tmod (p * 7 + 3) b.length < b.length := Int.tmod_lt_of_pos _ hL
        have a1 := hb.at_ _ t1 t2
        have a2 := hb.at_ _ t3 t4
        have d0 : 0 ≤ Int.tdiv p b.length := Int.tdiv_nonneg h0 (by omega)
        have d1 : Int.tdiv p b.length ≤ p := by
          rw [Int.tdiv_eq_ediv_of_nonneg h0]
          exact Int.ediv_le_self _ h0
        generalize hA : rd b (Int.tmod p b.length) = A at a1
        generalize hB : rd b (Int.tmod (p * 7 + 3) b.length) = B at a2
        generalize hQ : Int.tdiv p b.length = Q at d0 d1
        have v1 : wrap64 A = A := wrapI (by omega)
        have v2 : wrap64 (A * 131) = A * 131 := wrapI (by omega)
        have v3 : wrap64 B = B := wrapI (by omega)
        have v4 : wrap64 (B * 1117) = B * 1117 := wrapI (by omega)
        have v5 : wrap64 (A * 131 + B * 1117) = A * 131 + B * 1117 := wrapI (by omega)
        have v6 : wrap64 (p * 29) = p * 29 := wrapI (by omega)
        have v7 : wrap64 (A * 131 + B * 1117 + p * 29) = A * 131 + B * 1117 + p * 29 := wrapI (by omega)
        have v8 : wrap64 Q = Q := wrapI (by omega)
        have v9 : wrap64 (Q * 53) = Q * 53 := wrapI (by omega)
        have v10 : wrap64 (A * 131 + B * 1117 + p * 29 + Q * 53) = A * 131 + B * 1117 + p * 29 + Q * 53 := wrapI (by omega)
        have x0 : 0 ≤ A * 131 + B * 1117 + p * 29 + Q * 53 := by omega
        have x1 : A * 131 + B * 1117 + p * 29 + Q * 53 < 4611686018427387904 := by omega
        generalize hX : A * 131 + B * 1117 + p * 29 + Q * 53 = X at v10 x0 x1
        have e0 : 0 ≤ Int.tdiv X 64 := Int.tdiv_nonneg x0 (by omega)
        have e1 : Int.tdiv X 64 ≤ X := by
          rw [Int.tdiv_eq_ediv_of_nonneg x0]
          exact Int.ediv_le_self _ x0
        have v11 : wrap64 (Int.tdiv X 64) = Int.tdiv X 64 := wrapI (by omega)
        have hx := xor_nonneg X (Int.tdiv X 64) x0 x1 e0 (by omega)
        refine ⟨Int.tmod (bits .xor .i64 X (Int.tdiv X 64)) n, ?_, Int.tmod_nonneg _ hx, fun _ => Int.tmod_lt_of_pos _ (by omega)⟩
        refine Ev.step (fun k => rfl) (Ev.iteF (by simp only [beq_iff_eq]; omega) (Ev.iteF (by rw [w0]; exact c3) (Ev.iteF (by omega) ?_)))
        simp only [w0, w3, w4]
        refine Ev.iteT t1 (Ev.iteT t2 (Ev.iteT t3 (Ev.iteT t4 (Ev.iteF (by omega) (Ev.some_ ?_)))))
        simp only [hA, hB, hQ, v1, v2, v3, v4, v5, v6, v7, v8, v9, hX, v10, v11]
theorem of_ev {b : List Int} (hb : Code_ b) (p : Int) (h0 : 0 ≤ p) (h1 : p ≤ 1099511627776) (l : List ByteArray) (hl : 1 ≤ l.length) (hl' : l.length ≤ 1000) :
    ∃ x, x ∈ l ∧ Ev (fun k => spec_reader_of.f k b p l) (x, p + 1) := by
  obtain ⟨v, hv, v0, v1⟩ := pick_ev hb p (l.length : Int) h0 h1 (by omega)
  have v1 := v1 (by omega)
  obtain ⟨j, rfl⟩ := Int.eq_ofNat_of_zero_le v0
  refine ⟨l[j]'(by omega), List.getElem_mem _, ?_⟩
  unfold spec_reader_of.f
  exact Ev.bind hv (Ev.iteT v0 (Ev.iteT v1 (Ev.some_ (by rw [rdOf_nat _ _ _ (by omega)]))))
theorem one_ev {b : List Int} (hb : Code_ b) (p : Int) (h0 : 0 ≤ p) (h1 : p ≤ 1099511627776) (l : List Int) (hl : 1 ≤ l.length) (hl' : l.length ≤ 1000) :
    ∃ x, x ∈ l ∧ Ev (fun k => spec_reader_one.f k b p l) (x, p + 1) := by
  obtain ⟨v, hv, v0, v1⟩ := pick_ev hb p (l.length : Int) h0 h1 (by omega)
  have v1 := v1 (by omega)
  obtain ⟨j, rfl⟩ := Int.eq_ofNat_of_zero_le v0
  refine ⟨l[j]'(by omega), List.getElem_mem _, ?_⟩
  unfold spec_reader_one.f
  exact Ev.bind hv (Ev.iteT v0 (Ev.iteT v1 (Ev.some_ (by rw [rd_nat _ _ (by omega)]))))
theorem wfByte {x : Int} (h : (Lit.int .u8 x).wf = true) : 0 ≤ x ∧ x ≤ 255 := by
  simp [Lit.wf, IntKind.min, IntKind.max, IntKind.signed, IntKind.bits] at h
  omega
theorem hasText_loop (l : List ByteArray) (x : ByteArray) (hl : l.length ≤ 4611686018427387903) : ∀ (t : List ByteArray) (i : Nat), l.drop i = t → i ≤ l.length →
    Ev (fun k => spec_hasText.l0 k l x (i : Int)) (memB t x) := by
  intro t
  induction t with
  | nil =>
    intro i h hi
    have hl2 := drop_nil h
    exact Ev.step (fun k => rfl) (Ev.iteF (by omega) (Ev.some_ rfl))
  | cons b t ih =>
    intro i h hi
    obtain ⟨hl2, hb, ht⟩ := drop_cons h
    refine Ev.step (fun k => rfl) (Ev.iteT (by omega) (Ev.iteT (by omega) ?_))
    rw [rdOf_nat _ _ _ hl2, hb]
    by_cases h1 : b = x
    · exact Ev.iteT (by rw [h1]) (Ev.some_ (by simp [memB, h1]))
    · refine Ev.iteF (by rw [toList_iff]; exact h1) ?_
      rw [wrapN (by omega)]
      have e : memB (b :: t) x = memB t x := by simp [memB, h1]
      rw [e]
      exact ih (i + 1) ht (by omega)
theorem hasText_ev (l : List ByteArray) (x : ByteArray) (hl : l.length ≤ 4611686018427387903) : Ev (fun k => spec_hasText.f k l x) (memB l x) :=
  hasText_loop l x hl l 0 rfl (Nat.zero_le _)
theorem validOrder_loop (l : List ByteArray) (hl : l.length ≤ 4611686018427387903) (hz : SizesOk l) : ∀ (d i : Nat), i + d = l.length → (l.take i).all idS = true → (l.take i).Nodup →
    Ev (fun k => spec_validOrder.l0 k l (i : Int)) (idsS l) := by
  intro d
  induction d with
  | zero =>
    intro i hd h1 h2
    have e : l.take i = l := List.take_of_length_le (by omega)
    rw [e] at h1 h2
    exact Ev.step (fun k => rfl) (Ev.iteF (by omega) (Ev.some_ (by unfold idsS; rw [h1]; simp [h2]; omega)))
  | succ d ih =>
    intro i hd h1 h2
    have hi : i < l.length := by omega
    have hmem : l[i] ∈ l := List.getElem_mem hi
    refine Ev.step (fun k => rfl) (Ev.iteT (by omega) (Ev.iteT (by omega) ?_))
    rw [rdOf_nat _ _ _ hi]
    refine Ev.bind (validId_ev l[i] (hz _ hmem)) ?_
    cases e1 : idS l[i] with
    | false =>
      refine Ev.iteF (by simp) (Ev.bool ?_)
      have : l.all idS = false := by
        rw [List.all_eq_false]
        exact ⟨_, hmem, by simp [e1]⟩
      unfold idsS
      rw [this]
      simp
    | true =>
      refine Ev.iteT rfl (Ev.iteT (by omega) ?_)
      rw [Int.toNat_natCast]
      refine Ev.bind (hasText_ev (l.take i) l[i] (by rw [List.length_take]; omega)) ?_
      have hn := nodup_take_succ l i hi
      by_cases e2 : memB (l.take i) l[i] = true
      · refine Ev.iteT e2 (Ev.bool ?_)
        have : ¬ l.Nodup := nodup_of_take l (i + 1) (fun h => (hn.1 h).2 (memB_iff.1 e2))
        unfold idsS
        simp [this]
      · refine Ev.iteF e2 ?_
        rw [wrapN (by omega)]
        refine ih (i + 1) (by omega) ?_ (hn.2 ⟨h2, fun h => e2 (memB_iff.2 h)⟩)
        rw [List.take_succ_eq_append_getElem hi, List.all_append, h1]
        simp [e1]
theorem validOrder_ev (l : List ByteArray) (hl : l.length ≤ 4611686018427387903) (hz : SizesOk l) : Ev (fun k => spec_validOrder.f k l) (idsS l) :=
  validOrder_loop l hl hz l.length 0 (by omega) (by simp) (by simp)
def addT (l : List ByteArray) (x : ByteArray) : List ByteArray := if memB l x = true then l else l ++ [x]
theorem addText_ev (l : List ByteArray) (x : ByteArray) (hl : l.length < 8796093022208) : Ev (fun k => spec_addText.f k l x) (addT l x) := by
  unfold spec_addText.f addT
  refine Ev.bind (hasText_ev l x (by omega)) ?_
  by_cases h : memB l x = true
  · exact Ev.iteT h (Ev.some_ (if_pos h).symm)
  · exact Ev.iteF h (Ev.iteT hl (Ev.some_ (if_neg h).symm))
theorem addT_len (l : List ByteArray) (x : ByteArray) : (addT l x).length ≤ l.length + 1 := by
  unfold addT
  split <;> simp
theorem addT_mem {l : List ByteArray} {x y : ByteArray} (h : y ∈ addT l x) : y ∈ l ∨ y = x := by
  unfold addT at h
  split at h
  · exact .inl h
  · rcases List.mem_append.1 h with h | h
    · exact .inl h
    · exact .inr (List.mem_singleton.1 h)
theorem rdL_nat (l : List (List ByteArray)) (i : Nat) (h : i < l.length) : rd_L1 l (i : Int) = l[i] := by
  unfold rd_L1
  exact getD_nat _ _ _ h
def causeS (c : List ByteArray) : Bool := decide (1 ≤ c.length ∧ c.length ≤ 3) && idsS c
def causesS (l : List (List ByteArray)) : Bool := l.all causeS && decide (l.length ≤ 4)
structure CauseSizes (l : List (List ByteArray)) : Prop where
  len : l.length ≤ 4611686018427387903
  lens : ∀ c ∈ l, c.length ≤ 4611686018427387903
  sizes : ∀ c ∈ l, SizesOk c
theorem implCauses_loop (l : List (List ByteArray)) (h : CauseSizes l) : ∀ (t : List (List ByteArray)) (i : Nat), l.drop i = t → i ≤ l.length →
    Ev (fun k => impl_ValidCauses.l0 k l l (l.length : Int) (i : Int)) (t.all causeS && decide (l.length ≤ 4)) := by
  have hlen := h.len
  intro t
  induction t with
  | nil =>
    intro i hd hi
    have hl2 := drop_nil hd
    refine Ev.step (fun k => rfl) (Ev.iteF (by omega) (Ev.some_ ?_))
    simp only [List.all_nil, Bool.true_and, decide_eq_decide]
    omega
  | cons c t ih =>
    intro i hd hi
    obtain ⟨hl2, hb, ht⟩ := drop_cons hd
    have hcm : c ∈ l := by rw [← hb]; exact List.getElem_mem hl2
    have hnext := ih (i + 1) ht (by omega)
    refine Ev.step (fun k => rfl) (Ev.iteT (by omega) (Ev.iteT (by omega) (Ev.iteT (by omega) ?_)))
    rw [rdL_nat _ _ hl2, hb, wrapN (by omega), List.all_cons, Bool.and_assoc]
    by_cases c1 : (c.length : Int) < 1
    · have e : causeS c = false := by
        unfold causeS
        rw [decide_eq_false (by omega)]
        rfl
      rw [e]
      exact Ev.iteT c1 (Ev.some_ rfl)
    refine Ev.iteF c1 ?_
    by_cases c2 : (c.length : Int) > 3
    · have e : causeS c = false := by
        unfold causeS
        rw [decide_eq_false (by omega)]
        rfl
      rw [e]
      exact Ev.iteT c2 (Ev.some_ rfl)
    refine Ev.iteF c2 (Ev.bind (idsOk_ev c (h.lens c hcm) (h.sizes c hcm)) ?_)
    have e : causeS c = idsS c := by
      unfold causeS
      rw [decide_eq_true (by omega)]
      rfl
    rw [e]
    cases hi2 : idsS c with
    | true => exact Ev.iteT rfl (by simpa using hnext)
    | false => exact Ev.iteF Bool.false_ne_true (Ev.some_ rfl)
theorem implCauses_ev (l : List (List ByteArray)) (h : CauseSizes l) : Ev (fun k => impl_ValidCauses.f k l) (causesS l) :=
  implCauses_loop l h l 0 rfl (Nat.zero_le _)
theorem specCauses_loop (l : List (List ByteArray)) (h : CauseSizes l) : ∀ (t : List (List ByteArray)) (i : Nat), l.drop i = t → i ≤ l.length →
    Ev (fun k => spec_validCauses.l0 k l (i : Int)) (t.all causeS && decide (l.length ≤ 4)) := by
  have hlen := h.len
  intro t
  induction t with
  | nil =>
    intro i hd hi
    have hl2 := drop_nil hd
    refine Ev.step (fun k => rfl) (Ev.iteF (by omega) (Ev.some_ ?_))
    simp only [List.all_nil, Bool.true_and, decide_eq_decide]
    omega
  | cons c t ih =>
    intro i hd hi
    obtain ⟨hl2, hb, ht⟩ := drop_cons hd
    have hcm : c ∈ l := by rw [← hb]; exact List.getElem_mem hl2
    have hnext := ih (i + 1) ht (by omega)
    refine Ev.step (fun k => rfl) (Ev.iteT (by omega) (Ev.iteT (by omega) ?_))
    rw [rdL_nat _ _ hl2, hb, wrapN (by omega), List.all_cons, Bool.and_assoc]
    refine Ev.bind (validOrder_ev c (h.lens c hcm) (h.sizes c hcm)) ?_
    cases hi2 : idsS c with
    | true =>
      refine Ev.iteT rfl (Ev.bind0 (inRange_ev (c.length : Int) 1 3) ?_)
      by_cases c1 : 1 ≤ c.length ∧ c.length ≤ 3
      · have e : causeS c = true := by
          unfold causeS
          rw [decide_eq_true c1, hi2]
          rfl
        rw [e]
        exact Ev.iteT (decide_eq_true (by omega)) (by simpa using hnext)
      · have e : causeS c = false := by
          unfold causeS
          rw [decide_eq_false c1]
          rfl
        rw [e]
        exact Ev.iteF (by rw [decide_eq_false (by omega)]; exact Bool.false_ne_true) (Ev.some_ rfl)
    | false =>
      have e : causeS c = false := by
        unfold causeS
        rw [hi2, Bool.and_false]
      rw [e]
      exact Ev.iteF Bool.false_ne_true (Ev.some_ rfl)
theorem specCauses_ev (l : List (List ByteArray)) (h : CauseSizes l) : Ev (fun k => spec_validCauses.f k l) (causesS l) :=
  specCauses_loop l h l 0 rfl (Nat.zero_le _)
theorem SpecCauses_ev (l : List (List ByteArray)) (h : CauseSizes l) : Ev (fun k => spec_ValidCauses.f k l) (causesS l) := by
  unfold spec_ValidCauses.f
  exact Ev.bind (specCauses_ev l h) (Ev.some_ rfl)
theorem memB_cons (x y : ByteArray) (t : List ByteArray) : memB (x :: t) y = (decide (x = y) || memB t y) := by
  rw [Bool.eq_iff_iff, memB_iff]
  simp only [List.mem_cons, Bool.or_eq_true, decide_eq_true_eq, memB_iff]
  constructor
  · rintro (h | h)
    · exact .inl h.symm
    · exact .inr h
  · rintro (h | h)
    · exact .inl h.symm
    · exact .inr h
theorem count_cons {x : ByteArray} {t : List ByteArray} (hx : x ∉ t) : ∀ (a : List ByteArray), a.Nodup → (a.filter (memB (x :: t))).length = (a.filter (memB t)).length + if memB a x = true then 1 else 0 := by
  intro a
  induction a with
  | nil => intro _; simp [memB]
  | cons y a ih =>
    intro hn
    rw [List.nodup_cons] at hn
    have := ih hn.2
    rw [List.filter_cons, List.filter_cons, memB_cons x y t, memB_cons y x a]
    by_cases e : x = y
    · subst e
      have h1 : memB t x = false := by
        rw [Bool.eq_false_iff]
        exact fun h => hx (memB_iff.1 h)
      have h2 : memB a x = false := by
        rw [Bool.eq_false_iff]
        exact fun h => hn.1 (memB_iff.1 h)
      rw [h2] at this
      simp [h1, h2]
      simpa using this
    · have e2 : ¬ y = x := fun h => e h.symm
      cases h1 : memB t y <;> simp [e, e2] <;> omega
theorem count_all (a : List ByteArray) (ha : a.Nodup) : ∀ (c : List ByteArray), c.Nodup → (a.filter (memB c)).length ≤ c.length ∧ ((a.filter (memB c)).length = c.length ↔ c.all (memB a) = true) := by
  intro c
  induction c with
  | nil =>
    intro _
    have e : a.filter (memB []) = [] := List.filter_eq_nil_iff.2 (by simp [memB])
    rw [e]
    simp
  | cons x t ih =>
    intro hn
    rw [List.nodup_cons] at hn
    obtain ⟨h1, h2⟩ := ih hn.2
    rw [count_cons hn.1 a ha, List.all_cons, List.length_cons]
    cases hx : memB a x with
    | true =>
      simp only [if_true, Bool.true_and]
      refine ⟨by omega, ?_⟩
      rw [← h2]
      omega
    | false =>
      simp only [Bool.false_eq_true, if_false, Bool.false_and, iff_false]
      exact ⟨by omega, by omega⟩
theorem inOrderOf_loop (a c : List ByteArray) (ha : a.length ≤ 8796093022207) (hc : c.length ≤ 4611686018427387903) : ∀ (t : List ByteArray) (i : Nat) (acc : List ByteArray), a.drop i = t → i ≤ a.length → acc.length ≤ i →
    Ev (fun k => impl_inOrderOf.l0 k c acc a (a.length : Int) (i : Int)) (acc ++ t.filter (memB c)) := by
  intro t
  induction t with
  | nil =>
    intro i acc h hi hacc
    have hl2 := drop_nil h
    exact Ev.step (fun k => rfl) (Ev.iteF (by omega) (Ev.some_ (by simp)))
  | cons x t ih =>
    intro i acc h hi hacc
    obtain ⟨hl2, hb, ht⟩ := drop_cons h
    refine Ev.step (fun k => rfl) (Ev.iteT (by omega) (Ev.iteT (by omega) (Ev.iteT (by omega) ?_)))
    rw [rdOf_nat _ _ _ hl2, hb, wrapN (by omega)]
    refine Ev.bind (contains_ev c x hc) ?_
    rw [List.filter_cons]
    by_cases hm : memB c x = true
    · rw [if_pos hm]
      have := ih (i + 1) (acc ++ [x]) ht (by omega) (by simp; omega)
      rw [List.append_assoc] at this
      exact Ev.iteT hm (Ev.iteT (by omega) this)
    · rw [if_neg hm]
      exact Ev.iteF hm (ih (i + 1) acc ht (by omega) (by omega))
theorem inOrderOf_ev (a c : List ByteArray) (ha : a.length ≤ 8796093022207) (hc : c.length ≤ 4611686018427387903) : Ev (fun k => impl_inOrderOf.f k a c) (a.filter (memB c)) :=
  inOrderOf_loop a c ha hc a 0 [] rfl (Nat.zero_le _) (Nat.zero_le _)
def hasAll (a c : List ByteArray) : Bool := decide (((a.filter (memB c)).length : Int) = (c.length : Int))
theorem failsFind_ev (a : List ByteArray) (ha : a.length ≤ 8796093022207) : ∀ (l : List (List ByteArray)) (i : Nat), (∀ c ∈ l, c.length ≤ 4611686018427387903) → ∃ j, Ev (fun k => impl_fails.find k a l i) j ∧ (decide (j ≥ 0) = l.any (hasAll a)) := by
  intro l
  induction l with
  | nil => intro i _; exact ⟨-1, Ev.some_ rfl, rfl⟩
  | cons c t ih =>
    intro i h
    have hone : Ev (fun k => impl_fails.one k a c) (hasAll a c) := by
      unfold impl_fails.one
      exact Ev.bind (inOrderOf_ev a c ha (h c List.mem_cons_self)) (Ev.some_ rfl)
    rw [List.any_cons]
    by_cases hh : hasAll a c = true
    · refine ⟨(i : Int), Ev.bind hone (Ev.iteT hh (Ev.some_ rfl)), ?_⟩
      rw [hh, decide_eq_true (show (i : Int) ≥ 0 by omega)]
      rfl
    · obtain ⟨j, hj, e⟩ := ih (i + 1) (fun c hc => h c (List.mem_cons_of_mem _ hc))
      refine ⟨j, Ev.bind hone (Ev.iteF hh hj), ?_⟩
      rw [e, Bool.eq_false_iff.2 hh]
      rfl
theorem implFails_ev (l : List (List ByteArray)) (a : List ByteArray) (ha : a.length ≤ 8796093022207) (h : ∀ c ∈ l, c.length ≤ 4611686018427387903) : Ev (fun k => impl_fails.f k l a) (l.any (hasAll a)) := by
  obtain ⟨j, hj, e⟩ := failsFind_ev a ha l 0 h
  unfold impl_fails.f
  exact Ev.bind hj (Ev.some_ e)
def failsS (l : List (List ByteArray)) (a : List ByteArray) : Bool := causesS l && idsS a && l.any fun c => c.all (memB a)
theorem idsS_nodup {l : List ByteArray} (h : idsS l = true) : l.Nodup := by
  unfold idsS at h
  simp only [Bool.and_eq_true, decide_eq_true_eq] at h
  exact h.2.2
theorem causesS_nodup {l : List (List ByteArray)} (h : causesS l = true) : ∀ c ∈ l, c.Nodup := by
  unfold causesS causeS at h
  simp only [Bool.and_eq_true, decide_eq_true_eq, List.all_eq_true] at h
  exact fun c hc => idsS_nodup (h.1 c hc).2
theorem any_hasAll {l : List (List ByteArray)} {a : List ByteArray} (h : causesS l = true) (ha : idsS a = true) : l.any (hasAll a) = l.any fun c => c.all (memB a) := by
  have hn := causesS_nodup h
  have e : ∀ c ∈ l, hasAll a c = c.all (memB a) := fun c hc => by
    unfold hasAll
    rw [Bool.eq_iff_iff, decide_eq_true_eq, ← (count_all a (idsS_nodup ha) c (hn c hc)).2]
    omega
  rw [Bool.eq_iff_iff, List.any_eq_true, List.any_eq_true]
  exact ⟨fun ⟨c, hc, h1⟩ => ⟨c, hc, by rw [← e c hc]; exact h1⟩, fun ⟨c, hc, h1⟩ => ⟨c, hc, by rw [e c hc]; exact h1⟩⟩
theorem implFailsWith_ev (l : List (List ByteArray)) (a : List ByteArray) (h : CauseSizes l) (ha : a.length ≤ 8796093022207) (hz : SizesOk a) : Ev (fun k => impl_FailsWith.f k l a) (failsS l a) := by
  unfold impl_FailsWith.f failsS
  refine Ev.bind (implCauses_ev l h) ?_
  by_cases h1 : causesS l = true
  · refine Ev.iteT h1 (Ev.bind (idsOk_ev a (by omega) hz) ?_)
    by_cases h2 : idsS a = true
    · refine Ev.iteT h2 (Ev.bind (implFails_ev l a ha h.lens) (Ev.some_ ?_))
      rw [any_hasAll h1 h2, h1, h2]
      rfl
    · exact Ev.iteF h2 (Ev.some_ (by rw [Bool.eq_false_iff.2 h2]; simp))
  · exact Ev.iteF h1 (Ev.some_ (by rw [Bool.eq_false_iff.2 h1]; simp))
def SmallC (c : List ByteArray) : Prop := c.length ≤ 1000 ∧ ∀ x ∈ c, x.size ≤ 1000
structure SmallCauses (l : List (List ByteArray)) : Prop where
  len : l.length ≤ 1000
  all : ∀ c ∈ l, SmallC c
theorem SmallC.sizes {c : List ByteArray} (h : SmallC c) : SizesOk c := fun x hx => by have := h.2 x hx; omega
theorem SmallCauses.sizes {l : List (List ByteArray)} (h : SmallCauses l) : CauseSizes l := ⟨by have := h.len; omega, fun c hc => by have := (h.all c hc).1; omega, fun c hc => (h.all c hc).sizes⟩
theorem someCauses_l1 {b : List Int} (hb : Code_ b) (x3 : List (List ByteArray)) (x4 : Int) (hx3 : x3.length ≤ 1000) (p0 : Int) (r : List (List ByteArray) → Int → Prop)
    (hc : ∀ (c : List ByteArray) (p : Int), SmallC c → 0 ≤ p → p ≤ p0 → ∃ R p', Ev (fun k => spec_someCauses.l0 k (x3 ++ [c]) (wrap64 (x4 - 1)) b p) (R, p') ∧ r R p') : ∀ (n : Nat) (c : List ByteArray) (p : Int), c.length + n ≤ 1000 → (∀ x ∈ c, x.size ≤ 1000) → 0 ≤ p → p + n ≤ p0 → p0 ≤ 1000000 →
    ∃ R p', Ev (fun k => spec_someCauses.l1 k x3 x4 c (n : Int) b p) (R, p') ∧ r R p' := by
  intro n
  induction n with
  | zero =>
    intro c p hl hz h0 h1 h2
    obtain ⟨R, p', he, hr⟩ := hc c p ⟨by omega, hz⟩ h0 (by omega)
    exact ⟨R, p', Ev.step (fun k => rfl) (Ev.iteF (by omega) (Ev.iteT (by omega) he)), hr⟩
  | succ n ih =>
    intro c p hl hz h0 h1 h2
    obtain ⟨x, hx, he⟩ := of_ev hb p h0 (by omega) [(⟨#[109, 46, 97]⟩ : ByteArray), (⟨#[109, 46, 98]⟩ : ByteArray), (⟨#[110, 46, 97]⟩ : ByteArray), (⟨#[109, 46, 99]⟩ : ByteArray), (⟨#[107, 46, 100]⟩ : ByteArray)] (by decide) (by decide)
    have hx2 : x.size ≤ 1000 := by
      simp only [List.mem_cons, List.not_mem_nil, or_false] at hx
      rcases hx with rfl | rfl | rfl | rfl | rfl <;> decide
    have ew : wrap64 (((n + 1 : Nat) : Int) - 1) = (n : Int) := by rw [wrapI (by omega)]; omega
    have hal := addT_len c x
    obtain ⟨R, p', he2, hr⟩ := ih (addT c x) (p + 1) (by omega) (fun q hq => by
      rcases addT_mem hq with hq | rfl
      · exact hz q hq
      · exact hx2) (by omega) (by omega) h2
    refine ⟨R, p', Ev.step (fun k => rfl) (Ev.iteT (by omega) (Ev.bind he (Ev.bind (addText_ev c x (by omega)) ?_))), hr⟩
    rw [ew]
    exact he2
theorem someCauses_l0 {b : List Int} (hb : Code_ b) : ∀ (n : Nat) (x3 : List (List ByteArray)) (p : Int), x3.length + n ≤ 100 → (∀ c ∈ x3, SmallC c) → 0 ≤ p → p + 10 * n ≤ 10000 →
    ∃ R p', Ev (fun k => spec_someCauses.l0 k x3 (n : Int) b p) (R, p') ∧ (SmallCauses R ∧ 0 ≤ p' ∧ p' ≤ 20000) := by
  intro n
  induction n with
  | zero =>
    intro x3 p hl hs h0 h1
    have small : SmallCauses x3 := ⟨by omega, hs⟩
    have key : ∀ m : Int, ¬ m > 0 → ∃ R p', Ev (fun k => spec_someCauses.l0 k x3 m b p) (R, p') ∧ (SmallCauses R ∧ 0 ≤ p' ∧ p' ≤ 20000) := by
      intro m hm
      by_cases c1 : (x3.length : Int) > 0
      · obtain ⟨v, hv, v0, v1⟩ := pick_ev hb p 20 h0 (by omega) (by omega)
        by_cases c2 : v = 0
        · refine ⟨_, _, Ev.step (fun k => rfl) (Ev.iteF hm (Ev.iteT c1 (Ev.bind hv (Ev.iteT c2 (Ev.iteT (by omega) (Ev.some_ rfl)))))), ⟨?_, ?_⟩, by omega, by omega⟩
          · rw [List.length_set]; exact small.len
          · intro c hc
            rcases List.mem_or_eq_of_mem_set hc with h | rfl
            · exact hs c h
            · exact ⟨Nat.zero_le _, fun x hx => by cases hx⟩
        · exact ⟨_, _, Ev.step (fun k => rfl) (Ev.iteF hm (Ev.iteT c1 (Ev.bind hv (Ev.iteF c2 (Ev.some_ rfl))))), small, by omega, by omega⟩
      · exact ⟨_, _, Ev.step (fun k => rfl) (Ev.iteF hm (Ev.iteF c1 (Ev.some_ rfl))), small, by omega, by omega⟩
    exact key _ (by omega)
  | succ n ih =>
    intro x3 p hl hs h0 h1
    obtain ⟨y, hy, he⟩ := one_ev hb p h0 (by omega) [1, 2, 3, 2] (by decide) (by decide)
    have hy2 : 0 ≤ y ∧ y ≤ 3 := by
      simp only [List.mem_cons, List.not_mem_nil, or_false] at hy
      omega
    obtain ⟨m, rfl⟩ := Int.eq_ofNat_of_zero_le hy2.1
    have ew : wrap64 (((n + 1 : Nat) : Int) - 1) = (n : Int) := by rw [wrapI (by omega)]; omega
    obtain ⟨R, p', hl2, hr⟩ := someCauses_l1 hb x3 ((n + 1 : Nat) : Int) (by omega) (p + 8) (fun R p' => SmallCauses R ∧ 0 ≤ p' ∧ p' ≤ 20000) (fun c q hc hq hq2 => by
      rw [ew]
      exact ih (x3 ++ [c]) q (by simp; omega) (fun d hd => by
        rcases List.mem_append.1 hd with hd | hd
        · exact hs d hd
        · rw [List.mem_singleton.1 hd]; exact hc) hq (by omega)) m [] (p + 1) (by simp; omega) (fun x hx => by cases hx) (by omega) (by omega) (by omega)
    exact ⟨R, p', Ev.step (fun k => rfl) (Ev.iteT (by omega) (Ev.bind he hl2)), hr⟩
theorem someCauses_ev {b : List Int} (hb : Code_ b) (p : Int) (h0 : 0 ≤ p) (h1 : p ≤ 1000) :
    ∃ R p', Ev (fun k => spec_someCauses.f k b p) (R, p') ∧ SmallCauses R ∧ 0 ≤ p' ∧ p' ≤ 20000 := by
  obtain ⟨y, hy, he⟩ := one_ev hb p h0 (by omega) [2, 1, 3, 4, 0] (by decide) (by decide)
  have hy2 : 0 ≤ y ∧ y ≤ 4 := by
    simp only [List.mem_cons, List.not_mem_nil, or_false] at hy
    omega
  obtain ⟨n, rfl⟩ := Int.eq_ofNat_of_zero_le hy2.1
  obtain ⟨R, p', hl, hr⟩ := someCauses_l0 hb n [] (p + 1) (by simp; omega) (fun c hc => by cases hc) (by omega) (by omega)
  unfold spec_someCauses.f
  exact ⟨R, p', Ev.bind he hl, hr⟩
end Go.Proofs.Ytlnaejkbanpcjaa.D
