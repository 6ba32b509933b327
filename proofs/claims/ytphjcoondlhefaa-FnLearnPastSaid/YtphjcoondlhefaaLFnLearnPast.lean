/- Plain laws, without Go, that the law FnLearnPast leans on. No condition. -/
import Derived.Test.YtphjcoondlhefaaXx0
import Derived.Test.YtphjcoondlhefaaXx2
import Derived.Test.YtphjcoondlhefaaXx3
import Derived.Test.YtphjcoondlhefaaXx4
import Derived.Test.YtphjcoondlhefaaXx5
import Derived.Test.YtphjcoondlhefaaXx6
import Derived.Test.YtphjcoondlhefaaXx7
import Derived.Test.YtphjcoondlhefaaXx8
import Derived.Test.YtphjcoondlhefaaXx9
import Derived.Test.YtphjcoondlhefaaWMore
import Derived.IntWalk
import Derived.Laws.BitsLemmas
import Derived.Lib.Bytealg
import Derived.Lib.Strings
set_option linter.unusedSimpArgs false
set_option linter.unusedVariables false
namespace Go.Proofs.Ytphjcoondlhefaa.X
open Go.RowKit Go.Proofs.YtphjcoondlhefaaW.PrintWords Go.Proofs.YtphjcoondlhefaaW.PrintLast Go.Proofs.YtphjcoondlhefaaW.PrintMore
theorem Ev.iteT {α : Type} {c : Prop} [Decidable c] {g f : Nat → Option α} {r : α} (h : c) (k : Ev g r) : Ev (fun n => if c then g n else f n) r := by
  simpa only [if_pos h] using k
theorem Ev.iteF {α : Type} {c : Prop} [Decidable c] {g f : Nat → Option α} {r : α} (h : ¬ c) (k : Ev f r) : Ev (fun n => if c then g n else f n) r := by
  simpa only [if_neg h] using k
/-- A callee without rounds. -/
theorem Ev.bind0 {α β : Type} {g : Option α} {f : Nat → α → Option β} {a : α} {r : β} (h : g = some a) (k : Ev (fun n => f n a) r) : Ev (fun n => g.bind (f n)) r := by
  subst h
  simpa only [Option.bind_some] using k
theorem Ev.some_ {α : Type} {x r : α} (h : x = r) : Ev (fun _ => some x) r := ⟨0, fun _ _ => by rw [h]⟩
theorem Ev.bool {b r : Bool} (h : b = r) : Ev (fun _ => some b) r := Ev.some_ h
theorem wrapN {i : Nat} (h : i < 4611686018427387904) : wrap64 ((i : Int) + 1) = ((i + 1 : Nat) : Int) := by
  unfold wrap64
  omega
theorem wrapI {x : Int} (h : -9223372036854775808 ≤ x ∧ x ≤ 9223372036854775807) : wrap64 x = x := by
  unfold wrap64
  omega
theorem rdOf_nat {α : Type} (d : α) (l : List α) (i : Nat) (h : i < l.length) : rdOf d l (i : Int) = l[i] := by
  simp [rdOf, List.getD_eq_getElem?_getD, List.getElem?_eq_getElem h]
theorem rd_nat (l : List Int) (i : Nat) (h : i < l.length) : rd l (i : Int) = l[i] := by
  simp [rd, List.getD_eq_getElem?_getD, List.getElem?_eq_getElem h]
theorem getD_nat {α : Type} (d : α) (l : List α) (i : Nat) (h : i < l.length) : l.getD (i : Int).toNat d = l[i] := by
  simp [List.getD_eq_getElem?_getD, List.getElem?_eq_getElem h]
theorem size_list (s : ByteArray) : s.data.toList.length = s.size := by rw [Array.length_toList]; rfl
theorem bt_nat (s : ByteArray) (i : Nat) (h : i < s.data.toList.length) : bt s (i : Int) = ((s.data.toList[i]).toNat : Int) := by
  have h' : i < s.size := by rw [← size_list]; exact h
  unfold bt
  rw [dif_pos (by simpa using h')]
  rfl
/-- A list seen from place i on. -/
theorem drop_cons {α : Type} {l : List α} {i : Nat} {b : α} {t : List α} (h : l.drop i = b :: t) : ∃ hi : i < l.length, l[i] = b ∧ l.drop (i + 1) = t := by
  have hi : i < l.length := by
    rcases Nat.lt_or_ge i l.length with h1 | h1
    · exact h1
    · rw [List.drop_of_length_le h1] at h
      cases h
  refine ⟨hi, ?_, ?_⟩
  · rw [List.drop_eq_getElem_cons hi] at h
    exact (List.cons.inj h).1
  · rw [List.drop_eq_getElem_cons hi] at h
    exact (List.cons.inj h).2
theorem drop_nil {α : Type} {l : List α} {i : Nat} (h : l.drop i = []) : l.length ≤ i := by
  have := congrArg List.length h
  rw [List.length_drop] at this
  simpa using Nat.sub_eq_zero_iff_le.1 this
theorem toList_inj {a b : ByteArray} (h : a.toList = b.toList) : a = b := by
  rw [Lib.toList_data, Lib.toList_data] at h
  cases a with
  | mk x => cases b with
    | mk y =>
      have : x = y := Array.ext' h
      rw [this]
theorem toList_iff {a b : ByteArray} : a.toList = b.toList ↔ a = b := ⟨toList_inj, fun h => by rw [h]⟩
def lowB (b : UInt8) : Bool := decide (97 ≤ (b.toNat : Int)) && decide ((b.toNat : Int) ≤ 122)
/-- What is asked of a name behind its letters. -/
def nameEnd (s : ByteArray) : Bool := decide (1 ≤ s.size) && (decide (s.size ≤ 6) && (s.toList != ([97, 110, 100] : List UInt8) && (s.toList != ([111, 114] : List UInt8) && s.toList != ([110, 111, 116] : List UInt8))))
def nameS (s : ByteArray) : Bool := s.data.toList.all lowB && nameEnd s
theorem nameOk_loop (s : ByteArray) (hs : s.size ≤ 4611686018427387903) : ∀ (t : List UInt8) (i : Nat), s.data.toList.drop i = t → i ≤ s.size →
    Ev (fun k => impl_nameOk.l0 k s (s.size : Int) (i : Int)) (t.all lowB && nameEnd s) := by
  intro t
  induction t with
  | nil =>
    intro i h hi
    have hl := drop_nil h
    rw [size_list] at hl
    refine Ev.step (fun k => rfl) (Ev.iteF (by omega) ?_)
    simp only [List.all_nil, Bool.true_and]
    unfold nameEnd
    by_cases h1 : 1 ≤ s.size
    · refine Ev.iteT (by omega) ?_
      by_cases h2 : s.size ≤ 6
      · refine Ev.iteT (by omega) ?_
        by_cases h3 : s.toList = ([97, 110, 100] : List UInt8)
        · exact Ev.iteT h3 (Ev.bool (by simp [h3]))
        · refine Ev.iteF h3 ?_
          by_cases h4 : s.toList = ([111, 114] : List UInt8)
          · exact Ev.iteT h4 (Ev.bool (by simp [h4]))
          · exact Ev.iteF h4 (Ev.bool (by simp [h1, h2, bne_iff_ne.2 h3, bne_iff_ne.2 h4]))
      · exact Ev.iteF (by omega) (Ev.bool (by simp [h2]))
    · exact Ev.iteF (by omega) (Ev.bool (by simp [h1]))
  | cons b t ih =>
    intro i h hi
    obtain ⟨hl, hb, ht⟩ := drop_cons h
    have hl' := hl
    rw [size_list] at hl'
    refine Ev.step (fun k => rfl) (Ev.iteT (by omega) (Ev.iteT (by omega) (Ev.iteT (by omega) ?_)))
    rw [bt_nat s i hl, hb]
    by_cases h1 : (b.toNat : Int) < 97
    · exact Ev.iteT h1 (Ev.bool (by simp [lowB]; omega))
    · refine Ev.iteF h1 ?_
      by_cases h2 : (b.toNat : Int) > 122
      · exact Ev.iteT h2 (Ev.bool (by simp [lowB]; omega))
      · refine Ev.iteF h2 ?_
        rw [wrapN (by omega)]
        have := ih (i + 1) ht (by omega)
        have e : lowB b = true := by simp [lowB]; omega
        simpa [List.all_cons, e] using this
theorem nameOk_ev (s : ByteArray) (hs : s.size ≤ 4611686018427387903) : Ev (fun k => impl_nameOk.f k s) (nameS s) :=
  nameOk_loop s hs _ 0 rfl (Nat.zero_le _)
theorem inRange_ev (a b c : Int) : spec_inRange.f a b c = some (decide (b ≤ a ∧ a ≤ c)) := by
  unfold spec_inRange.f
  by_cases h : b ≤ a
  · rw [if_pos h]
    simp [h]
  · rw [if_neg h]
    simp [h]
theorem validName_loop (s : ByteArray) (hs : s.size ≤ 4611686018427387903) : ∀ (t : List UInt8) (i : Nat), s.data.toList.drop i = t → i ≤ s.size →
    Ev (fun k => spec_validName.l0 k s (i : Int)) (t.all lowB && nameEnd s) := by
  intro t
  induction t with
  | nil =>
    intro i h hi
    have hl := drop_nil h
    rw [size_list] at hl
    refine Ev.step (fun k => rfl) (Ev.iteF (by omega) (Ev.bind0 (inRange_ev _ _ _) ?_))
    simp only [List.all_nil, Bool.true_and]
    unfold nameEnd
    by_cases h1 : 1 ≤ s.size
    · by_cases h2 : s.size ≤ 6
      · refine Ev.iteT (by simp; omega) ?_
        by_cases h3 : s.toList = ([97, 110, 100] : List UInt8)
        · exact Ev.iteT h3 (Ev.bool (by simp [h3]))
        · refine Ev.iteF h3 ?_
          by_cases h4 : s.toList = ([111, 114] : List UInt8)
          · exact Ev.iteT h4 (Ev.bool (by simp [h4]))
          · exact Ev.iteF h4 (Ev.bool (by simp [h1, h2, bne_iff_ne.2 h3, bne_iff_ne.2 h4]))
      · exact Ev.iteF (by simp; omega) (Ev.bool (by simp [h2]))
    · exact Ev.iteF (by simp; omega) (Ev.bool (by simp [h1]))
  | cons b t ih =>
    intro i h hi
    obtain ⟨hl, hb, ht⟩ := drop_cons h
    have hl' := hl
    rw [size_list] at hl'
    refine Ev.step (fun k => rfl) (Ev.iteT (by omega) (Ev.iteT (by omega) ?_))
    rw [bt_nat s i hl, hb]
    by_cases h1 : (b.toNat : Int) < 97
    · exact Ev.iteT h1 (Ev.bool (by simp [lowB]; omega))
    · refine Ev.iteF h1 ?_
      by_cases h2 : (b.toNat : Int) > 122
      · exact Ev.iteT h2 (Ev.bool (by simp [lowB]; omega))
      · refine Ev.iteF h2 ?_
        rw [wrapN (by omega)]
        have := ih (i + 1) ht (by omega)
        have e : lowB b = true := by simp [lowB]; omega
        simpa [List.all_cons, e] using this
theorem validName_ev (s : ByteArray) (hs : s.size ≤ 4611686018427387903) : Ev (fun k => spec_validName.f k s) (nameS s) :=
  validName_loop s hs _ 0 rfl (Nat.zero_le _)
theorem extract_size_le (s : ByteArray) (a b : Nat) : (s.extract a b).size ≤ s.size := by
  rw [ByteArray.size_extract]
  omega
theorem indexByte_cons (b : UInt8) (l : List UInt8) (c : UInt8) : Lib.indexByte (b :: l) c = if b = c then 0 else if Lib.indexByte l c < 0 then -1 else Lib.indexByte l c + 1 := by
  have hg := Lib.indexByte_ge l c
  rw [Lib.indexByte]
  by_cases h : b = c
  · simp [h]
  · have h1 : (b == c) = false := by simpa using h
    rw [h1, if_neg h]
    simp only [Bool.false_eq_true, if_false]
    by_cases h2 : Lib.indexByte l c = -1
    · rw [h2]
      simp
    · have h3 : (Lib.indexByte l c == -1) = false := by simpa using h2
      have h4 : ¬ Lib.indexByte l c < 0 := by omega
      rw [h3, if_neg h4]
      simp
theorem indexByte_lt (l : List UInt8) (c : UInt8) : Lib.indexByte l c < l.length := by
  induction l with
  | nil => simp [Lib.indexByte]
  | cons b l ih =>
    rw [indexByte_cons]
    have hg := Lib.indexByte_ge l c
    simp only [List.length_cons]
    split
    · omega
    · split <;> omega
/-- Where the first point stands, and whether both sides of it are names. -/
def idS (s : ByteArray) : Bool := decide (0 ≤ Lib.indexByte s.data.toList 46) && (nameS (s.extract 0 (Lib.indexByte s.data.toList 46).toNat) && nameS (s.extract ((Lib.indexByte s.data.toList 46).toNat + 1) s.size))
theorem stringsCut_at (s : ByteArray) (c : UInt8) (hs : s.size ≤ 4611686018427387903) :
    strings_Cut.f s ⟨#[c]⟩ = some (if 0 ≤ Lib.indexByte s.data.toList c then (s.extract 0 (Lib.indexByte s.data.toList c).toNat, s.extract ((Lib.indexByte s.data.toList c).toNat + 1) s.size, true) else (s, ⟨#[]⟩, false)) := by
  have hg := Lib.indexByte_ge s.data.toList c
  have hl := indexByte_lt s.data.toList c
  rw [size_list] at hl
  have e1 : (⟨#[c]⟩ : ByteArray).size = 1 := rfl
  have e : stringslite_Index.f s ⟨#[c]⟩ = some (Lib.indexByte s.data.toList c) := rfl
  unfold strings_Cut.f stringslite_Cut.f
  rw [e]
  simp only [Option.bind_some, e1]
  generalize Lib.indexByte s.data.toList c = i at hg hl ⊢
  by_cases h : 0 ≤ i
  · have ew : wrap64 (i + ((1 : Nat) : Int)) = ((i.toNat + 1 : Nat) : Int) := by unfold wrap64; omega
    rw [if_pos h, if_pos h, if_pos (by omega), ew, if_pos (by omega), if_pos (by omega), if_pos h, Int.toNat_natCast]
    rfl
  · rw [if_neg h, if_neg h]
    rfl
theorem idOk_ev (s : ByteArray) (hs : s.size ≤ 4611686018427387903) : Ev (fun k => impl_idOk.f k s) (idS s) := by
  unfold impl_idOk.f idS
  refine Ev.bind0 (stringsCut_at s 46 hs) ?_
  by_cases h : 0 ≤ Lib.indexByte s.data.toList 46
  · simp only [if_pos h]
    have n1 := nameOk_ev (s.extract 0 (Lib.indexByte s.data.toList 46).toNat) (by have := extract_size_le s 0 (Lib.indexByte s.data.toList 46).toNat; omega)
    have n2 := nameOk_ev (s.extract ((Lib.indexByte s.data.toList 46).toNat + 1) s.size) (by have := extract_size_le s ((Lib.indexByte s.data.toList 46).toNat + 1) s.size; omega)
    refine Ev.iteT (by trivial) (Ev.bind n1 ?_)
    cases hn : nameS (s.extract 0 (Lib.indexByte s.data.toList 46).toNat) with
    | true => exact Ev.iteT rfl (Ev.bind n2 (Ev.bool (by simp [h])))
    | false => exact Ev.iteF (by simp) (Ev.bool (by simp))
  · simp only [if_neg h]
    exact Ev.iteF (by simp) (Ev.bool (by simp [h]))
theorem validId_loop (s : ByteArray) (hs : s.size ≤ 4611686018427387903) : ∀ (t : List UInt8) (i : Nat), s.data.toList.drop i = t → i ≤ s.size →
    Ev (fun k => spec_validId.l0 k s (i : Int)) (decide (0 ≤ Lib.indexByte t 46) && (nameS (s.extract 0 (i + (Lib.indexByte t 46).toNat)) && nameS (s.extract (i + (Lib.indexByte t 46).toNat + 1) s.size))) := by
  intro t
  induction t with
  | nil =>
    intro i h hi
    have hl := drop_nil h
    rw [size_list] at hl
    exact Ev.step (fun k => rfl) (Ev.iteF (by omega) (Ev.bool (by simp [Lib.indexByte])))
  | cons b t ih =>
    intro i h hi
    obtain ⟨hl, hb, ht⟩ := drop_cons h
    have hl' := hl
    rw [size_list] at hl'
    refine Ev.step (fun k => rfl) (Ev.iteT (by omega) (Ev.iteT (by omega) ?_))
    rw [bt_nat s i hl, hb]
    by_cases h1 : b = 46
    · subst h1
      refine Ev.iteT (by decide) (Ev.iteT (by omega) ?_)
      have n1 := validName_ev (s.extract 0 i) (by have := extract_size_le s 0 i; omega)
      have n2 := validName_ev (s.extract (i + 1) s.size) (by have := extract_size_le s (i + 1) s.size; omega)
      rw [indexByte_cons, if_pos rfl]
      simp only [Int.toNat_natCast, Int.toNat_zero, Nat.add_zero, Int.le_refl, decide_true, Bool.true_and]
      refine Ev.bind n1 ?_
      rw [wrapN (by omega)]
      cases hn : nameS (s.extract 0 i) with
      | true =>
        refine Ev.iteT rfl (Ev.iteT (by omega) (Ev.iteT (by omega) ?_))
        rw [Int.toNat_natCast]
        exact Ev.bind n2 (Ev.bool (by simp))
      | false => exact Ev.iteF (by simp) (Ev.bool (by simp))
    · have hne : ¬ (b.toNat : Int) = 46 := fun h2 => h1 (by apply UInt8.toNat.inj; simp; omega)
      refine Ev.iteF hne ?_
      rw [wrapN (by omega)]
      have := ih (i + 1) ht (by omega)
      rw [indexByte_cons, if_neg h1]
      have hg := Lib.indexByte_ge t 46
      by_cases h2 : Lib.indexByte t 46 < 0
      · rw [if_pos h2]
        rw [show decide (0 ≤ Lib.indexByte t 46) = false from decide_eq_false (by omega)] at this
        simpa using this
      · rw [if_neg h2]
        have e1 : (Lib.indexByte t 46 + 1).toNat = (Lib.indexByte t 46).toNat + 1 := by omega
        rw [e1, show i + ((Lib.indexByte t 46).toNat + 1) = i + 1 + (Lib.indexByte t 46).toNat from by omega, show decide (0 ≤ Lib.indexByte t 46 + 1) = true from decide_eq_true (by omega)]
        rw [show decide (0 ≤ Lib.indexByte t 46) = true from decide_eq_true (by omega)] at this
        exact this
theorem validId_ev (s : ByteArray) (hs : s.size ≤ 4611686018427387903) : Ev (fun k => spec_validId.f k s) (idS s) := by
  have := validId_loop s hs _ 0 rfl (Nat.zero_le _)
  simp only [Nat.zero_add] at this
  exact this
def memB (l : List ByteArray) (x : ByteArray) : Bool := l.any fun y => decide (y = x)
theorem memB_iff {l : List ByteArray} {x : ByteArray} : memB l x = true ↔ x ∈ l := by
  simp [memB]
theorem memB_eq {l : List ByteArray} {x : ByteArray} {p : Prop} [Decidable p] (h : p ↔ x ∈ l) : decide p = memB l x := by
  rw [Bool.eq_iff_iff, memB_iff]
  simpa using h
theorem index_loop (l : List ByteArray) (x : ByteArray) (hl : l.length ≤ 4611686018427387903) : ∀ (t : List ByteArray) (i : Nat), l.drop i = t → i ≤ l.length →
    ∃ r : Int, Ev (fun k => slices_Index_string_string.l0 k l x (l.length : Int) (i : Int)) r ∧ (0 ≤ r ↔ x ∈ t) := by
  intro t
  induction t with
  | nil =>
    intro i h hi
    have hl2 := drop_nil h
    exact ⟨-1, Ev.step (fun k => rfl) (Ev.iteF (by omega) (Ev.some_ rfl)), by simp⟩
  | cons b t ih =>
    intro i h hi
    obtain ⟨hl2, hb, ht⟩ := drop_cons h
    by_cases h1 : x = b
    · refine ⟨(i : Int), Ev.step (fun k => rfl) (Ev.iteT (by omega) (Ev.iteT (by omega) (Ev.iteT (by omega) (Ev.iteT ?_ (Ev.some_ rfl))))), by simp [h1]⟩
      rw [rdOf_nat _ _ _ hl2, hb, h1]
    · obtain ⟨r, hr, hm⟩ := ih (i + 1) ht (by omega)
      refine ⟨r, Ev.step (fun k => rfl) (Ev.iteT (by omega) (Ev.iteT (by omega) (Ev.iteT (by omega) (Ev.iteF ?_ ?_)))), by simp [h1, hm]⟩
      · rw [rdOf_nat _ _ _ hl2, hb, toList_iff]
        exact h1
      · rw [wrapN (by omega)]
        exact hr
theorem contains_ev (l : List ByteArray) (x : ByteArray) (hl : l.length ≤ 4611686018427387903) : Ev (fun k => slices_Contains_string_string.f k l x) (memB l x) := by
  obtain ⟨r, hr, hm⟩ := index_loop l x hl l 0 rfl (Nat.zero_le _)
  exact Ev.bind hr (Ev.bool (memB_eq hm))
theorem nodup_take_succ {α : Type} (l : List α) (i : Nat) (h : i < l.length) : (l.take (i + 1)).Nodup ↔ (l.take i).Nodup ∧ l[i] ∉ l.take i := by
  rw [List.take_succ_eq_append_getElem h, List.nodup_append]
  simp only [List.nodup_cons, List.not_mem_nil, not_false_eq_true, List.nodup_nil, and_self, true_and, List.mem_singleton, forall_eq]
  exact ⟨fun ⟨a, b⟩ => ⟨a, fun hm => b _ hm rfl⟩, fun ⟨a, b⟩ => ⟨a, fun x hx e => b (e ▸ hx)⟩⟩
theorem nodup_of_take {α : Type} (l : List α) (i : Nat) (h : ¬ (l.take i).Nodup) : ¬ l.Nodup := fun hn => h (hn.sublist (List.take_sublist _ _))
theorem apart_loop (l : List ByteArray) (hl : l.length ≤ 4611686018427387903) : ∀ (d i : Nat), i + d = l.length → (l.take i).Nodup →
    Ev (fun k => impl_apart.l0 k l l (l.length : Int) (i : Int)) (decide l.Nodup) := by
  intro d
  induction d with
  | zero =>
    intro i hd hn
    have e : l.take i = l := List.take_of_length_le (by omega)
    rw [e] at hn
    exact Ev.step (fun k => rfl) (Ev.iteF (by omega) (Ev.some_ (by simp [hn])))
  | succ d ih =>
    intro i hd hn
    have hi : i < l.length := by omega
    refine Ev.step (fun k => rfl) (Ev.iteT (by omega) (Ev.iteT (by omega) (Ev.iteT (by omega) (Ev.iteT (by omega) ?_))))
    rw [Int.toNat_natCast, rdOf_nat _ _ _ hi]
    refine Ev.bind (contains_ev (l.take i) l[i] (by rw [List.length_take]; omega)) ?_
    by_cases hm : l[i] ∈ l.take i
    · refine Ev.iteT (memB_iff.2 hm) (Ev.bool ?_)
      have : ¬ l.Nodup := nodup_of_take l (i + 1) (fun h => ((nodup_take_succ l i hi).1 h).2 hm)
      simp [this]
    · refine Ev.iteF (by rw [memB_iff]; exact hm) ?_
      rw [wrapN (by omega)]
      exact ih (i + 1) (by omega) ((nodup_take_succ l i hi).2 ⟨hn, hm⟩)
theorem apart_ev (l : List ByteArray) (hl : l.length ≤ 4611686018427387903) : Ev (fun k => impl_apart.f k l) (decide l.Nodup) :=
  apart_loop l hl l.length 0 (by omega) (by simp)
/-- All in a list are of a size that numbers hold. -/
def SizesOk (l : List ByteArray) : Prop := ∀ x ∈ l, x.size ≤ 4611686018427387903
def idsS (l : List ByteArray) : Bool := l.all idS && (decide (l.length ≤ 10) && decide l.Nodup)
theorem idsOk_loop (l : List ByteArray) (hl : l.length ≤ 4611686018427387903) (hz : SizesOk l) : ∀ (t : List ByteArray) (i : Nat), l.drop i = t → i ≤ l.length →
    Ev (fun k => impl_idsOk.l0 k l l (l.length : Int) (i : Int)) (t.all idS && (decide (l.length ≤ 10) && decide l.Nodup)) := by
  intro t
  induction t with
  | nil =>
    intro i h hi
    have hl2 := drop_nil h
    refine Ev.step (fun k => rfl) (Ev.iteF (by omega) ?_)
    by_cases h1 : l.length ≤ 10
    · exact Ev.iteT (by omega) (Ev.bind (apart_ev l hl) (Ev.bool (by simp [h1])))
    · exact Ev.iteF (by omega) (Ev.bool (by simp [h1]))
  | cons b t ih =>
    intro i h hi
    obtain ⟨hl2, hb, ht⟩ := drop_cons h
    refine Ev.step (fun k => rfl) (Ev.iteT (by omega) (Ev.iteT (by omega) (Ev.iteT (by omega) ?_)))
    rw [rdOf_nat _ _ _ hl2, hb]
    have hs : b.size ≤ 4611686018427387903 := hz b (hb ▸ List.getElem_mem hl2)
    refine Ev.bind (idOk_ev b hs) ?_
    cases hn : idS b with
    | true =>
      refine Ev.iteT rfl ?_
      rw [wrapN (by omega)]
      simpa [List.all_cons, hn] using ih (i + 1) ht (by omega)
    | false => exact Ev.iteF (by simp) (Ev.bool (by simp [hn]))
theorem idsOk_ev (l : List ByteArray) (hl : l.length ≤ 4611686018427387903) (hz : SizesOk l) : Ev (fun k => impl_idsOk.f k l) (idsS l) :=
  idsOk_loop l hl hz l 0 rfl (Nat.zero_le _)
theorem xor_nat (a b : Nat) (ha : a < 2 ^ 62) (hb : b < 2 ^ 62) : bits .xor .i64 a b = ((a ^^^ b : Nat) : Int) := by
  have hk : IntKind.i64.bits = 64 := rfl
  have ha' : a % 2 ^ 64 = a := Nat.mod_eq_of_lt (by omega)
  have hb' : b % 2 ^ 64 = b := Nat.mod_eq_of_lt (by omega)
  have hx := Nat.xor_lt_two_pow ha hb
  simp only [bits, hk, BitVec.ofInt_natCast, BitVec.toNat_xor, BitVec.toNat_ofNat, ha', hb']
  rw [IntKind.wrap_i64]
  omega
theorem xor_nonneg (a b : Int) (ha : 0 ≤ a) (ha' : a < 4611686018427387904) (hb : 0 ≤ b) (hb' : b < 4611686018427387904) : 0 ≤ bits .xor .i64 a b := by
  obtain ⟨x, rfl⟩ := Int.eq_ofNat_of_zero_le ha
  obtain ⟨y, rfl⟩ := Int.eq_ofNat_of_zero_le hb
  rw [xor_nat x y (by omega) (by omega)]
  omega
/-- A code: what a reader reads. -/
structure Code_ (b : List Int) : Prop where
  len : b.length ≤ 2000
  byte : ∀ x ∈ b, 0 ≤ x ∧ x ≤ 255
theorem Code_.at_ {b : List Int} (h : Code_ b) (i : Int) (h0 : 0 ≤ i) (h1 : i < b.length) : 0 ≤ rd b i ∧ rd b i ≤ 255 := by
  obtain ⟨j, rfl⟩ := Int.eq_ofNat_of_zero_le h0
  rw [rd_nat b j (by omega)]
  exact h.byte _ (List.getElem_mem _)
theorem Code_.nil : Code_ [] := ⟨by simp, by simp⟩
theorem newReader_ev (l : List Int) (h : ∀ x ∈ l, 0 ≤ x ∧ x ≤ 255) : ∃ b, spec_newReader.f l = some (b, 0) ∧ Code_ b := by
  unfold spec_newReader.f
  by_cases h1 : (l.length : Int) > 2000
  · rw [if_pos h1, if_pos (by omega)]
    exact ⟨_, rfl, ⟨by rw [List.length_take]; omega, fun x hx => h x (List.mem_of_mem_take hx)⟩⟩
  · rw [if_neg h1]
    exact ⟨_, rfl, ⟨by omega, h⟩⟩
theorem pick_ev {b : List Int} (hb : Code_ b) (p n : Int) (h0 : 0 ≤ p) (h1 : p ≤ 1099511627776) (hn : n ≤ 1099511627776) :
    ∃ v, Ev (fun k => spec_reader_pick.f k b p n) (v, p + 1) ∧ 0 ≤ v ∧ (1 ≤ n → v < n) := by
  have w1 : wrap64 (p + 1) = p + 1 := wrapI (by omega)
  have w0 : wrap64 (p + 1 - 1) = p := by rw [wrapI (by omega)]; omega
  have hl := hb.len
  unfold spec_reader_pick.f
  rw [w1]
  by_cases c1 : n < 1
  · exact ⟨0, ⟨1, fun k hk => by obtain ⟨m, rfl⟩ : ∃ m, k = m + 1 := ⟨k - 1, by omega⟩; exact (if_pos c1).trans rfl⟩, by omega, by omega⟩
  · simp only [if_neg c1]
    by_cases c2 : b.length = 0
    · exact ⟨0, Ev.step (fun k => rfl) (Ev.iteT (by simp [c2]) (Ev.some_ rfl)), by omega, by omega⟩
    · by_cases c3 : p < (b.length : Int)
      · have ha := hb.at_ p h0 c3
        have w2 : wrap64 (rd b p) = rd b p := wrapI (by omega)
        refine ⟨Int.tmod (rd b p) n, Ev.step (fun k => rfl) (Ev.iteF (by simp only [beq_iff_eq]; omega) (Ev.iteT (by rw [w0]; exact c3) (Ev.iteT (by rw [w0]; exact h0) (Ev.iteF (by omega) (Ev.some_ ?_))))), Int.tmod_nonneg _ ha.1, fun _ => Int.tmod_lt_of_pos _ (by omega)⟩
        rw [w0, w2]
      · have hL : (0 : Int) < b.length := by omega
        have t1 : 0 ≤ Int.tmod p b.length := Int.tmod_nonneg _ h0
        have t2 : Int.tmod p b.length < b.length := Int.tmod_lt_of_pos _ hL
        have w3 : wrap64 (p * 7) = p * 7 := wrapI (by omega)
        have w4 : wrap64 (p * 7 + 3) = p * 7 + 3 := wrapI (by omega)
        have t3 : 0 ≤ Int.tmod (p * 7 + 3) b.length := Int.tmod_nonneg _ (by omega)
        have t4 : Int.tmod (p * 7 + 3) b.length < b.length := Int.tmod_lt_of_pos _ hL
        have a1 := hb.at_ _ t1 t2
        have a2 := hb.at_ _ t3 t4
        have d0 : 0 ≤ Int.tdiv p b.length := Int.tdiv_nonneg h0 (by omega)
        have d1 : Int.tdiv p b.length ≤ p := by
          rw [Int.tdiv_eq_ediv_of_nonneg h0]
          exact Int.ediv_le_self _ h0
        generalize hA : rd b (Int.tmod p b.length) = A at a1
        generalize hB : rd b (Int.tmod (p * 7 + 3) b.length) = B at a2
        generalize hQ : Int.tdiv p b.length = Q at d0 d1
        have v1 : wrap64 A = A := wrapI (by omega)
        have v2 : wrap64 (A * 131) = A * 131 := wrapI (by omega)
        have v3 : wrap64 B = B := wrapI (by omega)
        have v4 : wrap64 (B * 1117) = B * 1117 := wrapI (by omega)
        have v5 : wrap64 (A * 131 + B * 1117) = A * 131 + B * 1117 := wrapI (by omega)
        have v6 : wrap64 (p * 29) = p * 29 := wrapI (by omega)
        have v7 : wrap64 (A * 131 + B * 1117 + p * 29) = A * 131 + B * 1117 + p * 29 := wrapI (by omega)
        have v8 : wrap64 Q = Q := wrapI (by omega)
        have v9 : wrap64 (Q * 53) = Q * 53 := wrapI (by omega)
        have v10 : wrap64 (A * 131 + B * 1117 + p * 29 + Q * 53) = A * 131 + B * 1117 + p * 29 + Q * 53 := wrapI (by omega)
        have x0 : 0 ≤ A * 131 + B * 1117 + p * 29 + Q * 53 := by omega
        have x1 : A * 131 + B * 1117 + p * 29 + Q * 53 < 4611686018427387904 := by omega
        generalize hX : A * 131 + B * 1117 + p * 29 + Q * 53 = X at v10 x0 x1
        have e0 : 0 ≤ Int.tdiv X 64 := Int.tdiv_nonneg x0 (by omega)
        have e1 : Int.tdiv X 64 ≤ X := by
          rw [Int.tdiv_eq_ediv_of_nonneg x0]
          exact Int.ediv_le_self _ x0
        have v11 : wrap64 (Int.tdiv X 64) = Int.tdiv X 64 := wrapI (by omega)
        have hx := xor_nonneg X (Int.tdiv X 64) x0 x1 e0 (by omega)
        refine ⟨Int.tmod (bits .xor .i64 X (Int.tdiv X 64)) n, ?_, Int.tmod_nonneg _ hx, fun _ => Int.tmod_lt_of_pos _ (by omega)⟩
        refine Ev.step (fun k => rfl) (Ev.iteF (by simp only [beq_iff_eq]; omega) (Ev.iteF (by rw [w0]; exact c3) (Ev.iteF (by omega) ?_)))
        simp only [w0, w3, w4]
        refine Ev.iteT t1 (Ev.iteT t2 (Ev.iteT t3 (Ev.iteT t4 (Ev.iteF (by omega) (Ev.some_ ?_)))))
        simp only [hA, hB, hQ, v1, v2, v3, v4, v5, v6, v7, v8, v9, hX, v10, v11]
theorem of_ev {b : List Int} (hb : Code_ b) (p : Int) (h0 : 0 ≤ p) (h1 : p ≤ 1099511627776) (l : List ByteArray) (hl : 1 ≤ l.length) (hl' : l.length ≤ 1000) :
    ∃ x, x ∈ l ∧ Ev (fun k => spec_reader_of.f k b p l) (x, p + 1) := by
  obtain ⟨v, hv, v0, v1⟩ := pick_ev hb p (l.length : Int) h0 h1 (by omega)
  have v1 := v1 (by omega)
  obtain ⟨j, rfl⟩ := Int.eq_ofNat_of_zero_le v0
  refine ⟨l[j]'(by omega), List.getElem_mem _, ?_⟩
  unfold spec_reader_of.f
  exact Ev.bind hv (Ev.iteT v0 (Ev.iteT v1 (Ev.some_ (by rw [rdOf_nat _ _ _ (by omega)]))))
theorem one_ev {b : List Int} (hb : Code_ b) (p : Int) (h0 : 0 ≤ p) (h1 : p ≤ 1099511627776) (l : List Int) (hl : 1 ≤ l.length) (hl' : l.length ≤ 1000) :
    ∃ x, x ∈ l ∧ Ev (fun k => spec_reader_one.f k b p l) (x, p + 1) := by
  obtain ⟨v, hv, v0, v1⟩ := pick_ev hb p (l.length : Int) h0 h1 (by omega)
  have v1 := v1 (by omega)
  obtain ⟨j, rfl⟩ := Int.eq_ofNat_of_zero_le v0
  refine ⟨l[j]'(by omega), List.getElem_mem _, ?_⟩
  unfold spec_reader_one.f
  exact Ev.bind hv (Ev.iteT v0 (Ev.iteT v1 (Ev.some_ (by rw [rd_nat _ _ (by omega)]))))
theorem aModule_ev {b : List Int} (hb : Code_ b) (p : Int) (h0 : 0 ≤ p) (h1 : p ≤ 1099511627776) :
    ∃ x, x.size = 1 ∧ Ev (fun k => spec_aModule.f k b p) (x, p + 1) := by
  obtain ⟨x, hx, he⟩ := of_ev hb p h0 h1 [(⟨#[109]⟩ : ByteArray), (⟨#[110]⟩ : ByteArray), (⟨#[109]⟩ : ByteArray), (⟨#[107]⟩ : ByteArray)] (by decide) (by decide)
  refine ⟨x, ?_, Ev.bind he (Ev.some_ rfl)⟩
  simp only [List.mem_cons, List.not_mem_nil, or_false] at hx
  rcases hx with rfl | rfl | rfl | rfl <;> rfl
theorem anId_ev {b : List Int} (hb : Code_ b) (p : Int) (h0 : 0 ≤ p) (h1 : p ≤ 1099511627775) :
    ∃ x, x.size = 3 ∧ Ev (fun k => spec_anId.f k b p) (x, p + 2) := by
  obtain ⟨m, hm, he⟩ := aModule_ev hb p h0 (by omega)
  obtain ⟨y, hy, he2⟩ := of_ev hb (p + 1) (by omega) (by omega) [(⟨#[97]⟩ : ByteArray), (⟨#[98]⟩ : ByteArray), (⟨#[99]⟩ : ByteArray), (⟨#[100]⟩ : ByteArray), (⟨#[101]⟩ : ByteArray)] (by decide) (by decide)
  have hy1 : y.size = 1 := by
    simp only [List.mem_cons, List.not_mem_nil, or_false] at hy
    rcases hy with rfl | rfl | rfl | rfl | rfl <;> rfl
  refine ⟨(m ++ ⟨#[46]⟩) ++ y, by rw [ByteArray.size_append, ByteArray.size_append, hm, hy1]; rfl, ?_⟩
  unfold spec_anId.f
  exact Ev.bind he (Ev.iteT (by show m.size + 1 ≤ _; omega) (Ev.bind he2 (Ev.iteT (by show m.size + 1 + y.size ≤ _; omega) (Ev.some_ (by simp; omega)))))
theorem rdP_nat (l : List S54) (i : Nat) (h : i < l.length) : rd_T54 l (i : Int) = l[i] := by
  unfold rd_T54
  exact getD_nat _ _ _ h
/-- Where an id first stands, from place i on; -1 if nowhere. -/
def findP (x : ByteArray) : List S54 → Nat → Int
  | [], _ => -1
  | q :: t, i => if q.f0 = x then (i : Int) else findP x t (i + 1)
theorem findP_iff (x : ByteArray) (t : List S54) : ∀ i, 0 ≤ findP x t i ↔ x ∈ t.map (·.f0) := by
  induction t with
  | nil => intro i; simp [findP]
  | cons q t ih =>
    intro i
    unfold findP
    by_cases h : q.f0 = x
    · rw [if_pos h]
      simp [h]
    · rw [if_neg h, ih]
      simp only [List.map_cons, List.mem_cons]
      exact ⟨fun h2 => .inr h2, fun h2 => h2.elim (fun e => absurd e.symm h) id⟩
theorem pastAt_loop (l : List S54) (x : ByteArray) (hl : l.length ≤ 4611686018427387903) : ∀ (t : List S54) (i : Nat), l.drop i = t → i ≤ l.length →
    Ev (fun k => spec_pastAt.l0 k l x (i : Int)) (findP x t i) := by
  intro t
  induction t with
  | nil =>
    intro i h hi
    have hl2 := drop_nil h
    exact Ev.step (fun k => rfl) (Ev.iteF (by omega) (Ev.some_ rfl))
  | cons q t ih =>
    intro i h hi
    obtain ⟨hl2, hb, ht⟩ := drop_cons h
    refine Ev.step (fun k => rfl) (Ev.iteT (by omega) (Ev.iteT (by omega) ?_))
    rw [rdP_nat _ _ hl2, hb]
    unfold findP
    by_cases h1 : q.f0 = x
    · rw [if_pos h1]
      exact Ev.iteT (by rw [h1]) (Ev.some_ rfl)
    · rw [if_neg h1, wrapN (by omega)]
      exact Ev.iteF (by rw [toList_iff]; exact h1) (ih (i + 1) ht (by omega))
theorem pastAt_ev (l : List S54) (x : ByteArray) (hl : l.length ≤ 4611686018427387903) : Ev (fun k => spec_pastAt.f k l x) (findP x l 0) :=
  pastAt_loop l x hl l 0 rfl (Nat.zero_le _)
def PastSizes (l : List S54) : Prop := ∀ q ∈ l, q.f0.size ≤ 4611686018427387903
def costS (q : S54) : Bool := decide (0 ≤ q.f2) && decide (q.f2 ≤ 99)
/-- What is asked of what is known. -/
def pastS (l : List S54) : Bool := l.all costS && idsS (l.map (·.f0))
theorem validPastI_loop (l : List S54) (hl : l.length ≤ 8796093022207) (hz : PastSizes l) : ∀ (t : List S54) (i : Nat), l.drop i = t → i ≤ l.length →
    Ev (fun k => impl_ValidPast.l0 k ((l.take i).map (·.f0)) l (l.length : Int) (i : Int)) (t.all costS && idsS (l.map (·.f0))) := by
  intro t
  induction t with
  | nil =>
    intro i h hi
    have hl2 := drop_nil h
    have e : l.take i = l := List.take_of_length_le hl2
    rw [e]
    refine Ev.step (fun k => rfl) (Ev.iteF (by omega) ?_)
    exact Ev.bind (idsOk_ev (l.map (·.f0)) (by rw [List.length_map]; omega) (fun x hx => by obtain ⟨q, hq, rfl⟩ := List.mem_map.1 hx; exact hz q hq)) (Ev.bool (by simp))
  | cons q t ih =>
    intro i h hi
    obtain ⟨hl2, hb, ht⟩ := drop_cons h
    refine Ev.step (fun k => rfl) (Ev.iteT (by omega) (Ev.iteT (by omega) (Ev.iteT (by omega) ?_)))
    rw [rdP_nat _ _ hl2, hb]
    by_cases h1 : q.f2 < 0
    · exact Ev.iteT h1 (Ev.bool (by simp [costS]; omega))
    · refine Ev.iteF h1 ?_
      by_cases h2 : q.f2 > 99
      · exact Ev.iteT h2 (Ev.bool (by simp [costS]; omega))
      · refine Ev.iteF h2 (Ev.iteT (by rw [List.length_map, List.length_take]; omega) ?_)
        rw [wrapN (by omega)]
        have e : (l.take i).map (·.f0) ++ [q.f0] = (l.take (i + 1)).map (·.f0) := by
          rw [List.take_succ_eq_append_getElem hl2, List.map_append, hb]
          rfl
        rw [e]
        have ec : costS q = true := by simp [costS]; omega
        simpa [List.all_cons, ec] using ih (i + 1) ht (by omega)
theorem validPastI_ev (l : List S54) (hl : l.length ≤ 8796093022207) (hz : PastSizes l) : Ev (fun k => impl_ValidPast.f k l) (pastS l) := by
  have := validPastI_loop l hl hz l 0 rfl (Nat.zero_le _)
  exact this
/-- The same, told place by place. -/
theorem validPastS_loop (l : List S54) (hl : l.length ≤ 8796093022207) (hz : PastSizes l) : ∀ (d i : Nat), i + d = l.length → (l.take i).all costS = true → ((l.take i).map (·.f0)).all idS = true → ((l.take i).map (·.f0)).Nodup →
    Ev (fun k => spec_validPast.l0 k l (i : Int)) (pastS l) := by
  intro d
  induction d with
  | zero =>
    intro i hd h1 h2 h3
    have e : l.take i = l := List.take_of_length_le (by omega)
    rw [e] at h1 h2 h3
    exact Ev.step (fun k => rfl) (Ev.iteF (by omega) (Ev.some_ (by unfold pastS idsS; rw [h1, h2]; simp [h3]; omega)))
  | succ d ih =>
    intro i hd h1 h2 h3
    have hi : i < l.length := by omega
    have hmem : l[i] ∈ l := List.getElem_mem hi
    have hmap : (l.map (·.f0))[i]'(by rw [List.length_map]; exact hi) = l[i].f0 := by simp
    refine Ev.step (fun k => rfl) (Ev.iteT (by omega) (Ev.iteT (by omega) ?_))
    rw [rdP_nat _ _ hi]
    refine Ev.bind (validId_ev l[i].f0 (hz _ hmem)) ?_
    cases e1 : idS l[i].f0 with
    | false =>
      refine Ev.iteF (by simp) (Ev.bool ?_)
      have : (l.map (·.f0)).all idS = false := by
        rw [List.all_eq_false]
        exact ⟨_, List.mem_map.2 ⟨_, hmem, rfl⟩, by simp [e1]⟩
      unfold pastS idsS
      rw [this]
      simp
    | true =>
      refine Ev.iteT rfl (Ev.iteT (by omega) ?_)
      rw [Int.toNat_natCast]
      refine Ev.bind (pastAt_ev (l.take i) l[i].f0 (by rw [List.length_take]; omega)) ?_
      have hf := findP_iff l[i].f0 (l.take i) 0
      by_cases e2 : 0 ≤ findP l[i].f0 (l.take i) 0
      · refine Ev.iteT e2 (Ev.bool ?_)
        have hm := hf.1 e2
        have : ¬ (l.map (·.f0)).Nodup := by
          refine nodup_of_take _ (i + 1) (fun h => ?_)
          have := ((nodup_take_succ (l.map (·.f0)) i (by rw [List.length_map]; exact hi)).1 h).2
          rw [hmap, ← List.map_take] at this
          exact this hm
        unfold pastS idsS
        simp [this]
      · refine Ev.iteF (by omega) (Ev.bind0 (inRange_ev _ _ _) ?_)
        by_cases e3 : 0 ≤ l[i].f2 ∧ l[i].f2 ≤ 99
        · refine Ev.iteT (by simpa using e3) ?_
          rw [wrapN (by omega)]
          have hx : l.take (i + 1) = l.take i ++ [l[i]] := List.take_succ_eq_append_getElem hi
          refine ih (i + 1) (by omega) ?_ ?_ ?_
          · rw [hx, List.all_append, h1]
            simp [costS, e3]
          · rw [hx, List.map_append, List.all_append, h2]
            simp [e1]
          · have hn := nodup_take_succ (l.map (·.f0)) i (by rw [List.length_map]; exact hi)
            rw [← List.map_take, ← List.map_take, hmap] at hn
            exact hn.2 ⟨h3, fun hm => e2 (hf.2 hm)⟩
        · refine Ev.iteF (by simpa using e3) (Ev.bool ?_)
          have : l.all costS = false := by
            rw [List.all_eq_false]
            exact ⟨_, hmem, by simp [costS]; omega⟩
          unfold pastS
          rw [this]
          simp
theorem validPastS_ev (l : List S54) (hl : l.length ≤ 8796093022207) (hz : PastSizes l) : Ev (fun k => spec_validPast.f k l) (pastS l) :=
  validPastS_loop l hl hz l.length 0 (by omega) (by simp) (by simp) (by simp)
theorem wfByte {x : Int} (h : (Lit.int .u8 x).wf = true) : 0 ≤ x ∧ x ≤ 255 := by
  simp [Lit.wf, IntKind.min, IntKind.max, IntKind.signed, IntKind.bits] at h
  omega
/-- Drawn pasts are short, and their ids too. -/
structure SmallPast (l : List S54) : Prop where
  len : l.length ≤ 1000
  ids : ∀ q ∈ l, q.f0.size ≤ 1000
theorem somePast_loop {b : List Int} (hb : Code_ b) : ∀ (n : Nat) (x3 : List S54) (p : Int), n ≤ 50 → x3.length + n ≤ 50 → (∀ q ∈ x3, q.f0.size = 3) → 0 ≤ p → p + 4 * n ≤ 1000000 →
    ∃ l p', Ev (fun k => spec_somePast.l0 k x3 (n : Int) b p) (l, p') ∧ SmallPast l ∧ 0 ≤ p' ∧ p' ≤ p + 4 * n + 2 := by
  intro n
  induction n with
  | zero =>
    intro x3 p hn hl hq h0 h1
    have small : SmallPast x3 := ⟨by omega, fun q hm => by rw [hq q hm]; omega⟩
    by_cases c1 : (x3.length : Int) > 0
    · obtain ⟨v, hv, v0, v1⟩ := pick_ev hb p 20 h0 (by omega) (by omega)
      by_cases c2 : v = 0
      · obtain ⟨y, hy, he⟩ := one_ev hb (p + 1) (by omega) (by omega) [(-1), 100] (by decide) (by decide)
        refine ⟨_, _, Ev.step (fun k => rfl) (Ev.iteF (by omega) (Ev.iteT c1 (Ev.bind hv (Ev.iteT c2 (Ev.bind he (Ev.iteT c1 (Ev.some_ rfl))))))), ⟨by rw [List.length_set]; omega, fun q hm => ?_⟩, by dsimp only; omega, by dsimp only; omega⟩
        rcases List.mem_or_eq_of_mem_set hm with hm | rfl
        · rw [hq q hm]; omega
        · have e := rdP_nat x3 0 (by omega)
          simp only [Int.natCast_zero] at e
          show (rd_T54 x3 0).f0.size ≤ 1000
          rw [e, hq _ (List.getElem_mem _)]
          omega
      · exact ⟨x3, p + 1, Ev.step (fun k => rfl) (Ev.iteF (by omega) (Ev.iteT c1 (Ev.bind hv (Ev.iteF c2 (Ev.some_ rfl))))), small, by omega, by omega⟩
    · exact ⟨x3, p, Ev.step (fun k => rfl) (Ev.iteF (by omega) (Ev.iteF c1 (Ev.some_ rfl))), small, h0, by omega⟩
  | succ n ih =>
    intro x3 p hn hl hq h0 h1
    obtain ⟨x, hx, he⟩ := anId_ev hb p h0 (by omega)
    obtain ⟨v, hv, v0, v1⟩ := pick_ev hb (p + 2) 3 (by omega) (by omega) (by omega)
    obtain ⟨y, hy, he2⟩ := one_ev hb (p + 2 + 1) (by omega) (by omega) [1, 5, 9, 2, 0, 30] (by decide) (by decide)
    have hp := pastAt_ev x3 x (by omega)
    have ew : wrap64 (((n + 1 : Nat) : Int) - 1) = (n : Int) := by rw [wrapI (by omega)]; omega
    by_cases c1 : findP x x3 0 < 0
    · obtain ⟨l, p', hr, hs, g0, g1⟩ := ih (x3 ++ [(⟨x, (v == 0), y⟩ : S54)]) (p + 2 + 1 + 1) (by omega) (by rw [List.length_append, List.length_singleton]; omega) (fun q hm => by
        rcases List.mem_append.1 hm with hm | hm
        · exact hq q hm
        · rw [List.mem_singleton.1 hm]; exact hx) (by omega) (by omega)
      refine ⟨l, p', Ev.step (fun k => rfl) (Ev.iteT (by omega) (Ev.bind he (Ev.bind hv (Ev.bind he2 (Ev.bind hp (Ev.iteT c1 (Ev.iteT (by omega) ?_))))))), hs, g0, by omega⟩
      rw [ew]
      exact hr
    · obtain ⟨l, p', hr, hs, g0, g1⟩ := ih x3 (p + 2 + 1 + 1) (by omega) (by omega) hq (by omega) (by omega)
      refine ⟨l, p', Ev.step (fun k => rfl) (Ev.iteT (by omega) (Ev.bind he (Ev.bind hv (Ev.bind he2 (Ev.bind hp (Ev.iteF c1 ?_)))))), hs, g0, by omega⟩
      rw [ew]
      exact hr
theorem somePast_ev {b : List Int} (hb : Code_ b) (p : Int) (h0 : 0 ≤ p) (h1 : p ≤ 100000) :
    ∃ l p', Ev (fun k => spec_somePast.f k b p) (l, p') ∧ SmallPast l ∧ 0 ≤ p' ∧ p' ≤ p + 100 := by
  obtain ⟨y, hy, he⟩ := one_ev hb p h0 (by omega) [4, 3, 5, 2, 0, 7] (by decide) (by decide)
  have hy2 : 0 ≤ y ∧ y ≤ 7 := by
    simp only [List.mem_cons, List.not_mem_nil, or_false] at hy
    omega
  obtain ⟨n, rfl⟩ := Int.eq_ofNat_of_zero_le hy2.1
  obtain ⟨l, p', hr, hs, g0, g1⟩ := somePast_loop hb n [] (p + 1) (by omega) (by simp; omega) (fun q hq => by cases hq) (by omega) (by omega)
  exact ⟨l, p', Ev.bind he hr, hs, g0, by omega⟩
theorem find_findP (x : ByteArray) (t : List S54) : ∀ i, impl_pastAt.find x t i = findP x t i := by
  induction t with
  | nil => intro i; rfl
  | cons q t ih =>
    intro i
    unfold impl_pastAt.find findP
    rw [ih]
    by_cases h : q.f0 = x
    · rw [if_pos h, if_pos (by rw [h])]
    · rw [if_neg h, if_neg (by rw [toList_iff]; exact h)]
theorem implPastAt_eq (l : List S54) (x : ByteArray) : impl_pastAt.f l x = some (findP x l 0) := by
  unfold impl_pastAt.f
  rw [find_findP]
/-- Whether a test failed last time, by the past. -/
def failedV (x : ByteArray) : List S54 → Bool
  | [] => false
  | q :: t => if q.f0 = x then q.f1 else failedV x t
structure SmallRes (l : List S56) : Prop where
  len : l.length ≤ 1000
  ids : ∀ q ∈ l, q.f0.size ≤ 1000
structure SmallTexts (l : List ByteArray) : Prop where
  len : l.length ≤ 1000
  ids : ∀ x ∈ l, x.size ≤ 1000
theorem someReport_j2 {b : List Int} (hb : Code_ b) (c : Bool) (p : Int) (h0 : 0 ≤ p) (h1 : p ≤ 1000000) (rs : List S56) (ds : List ByteArray) (hr : SmallRes rs) (hd : SmallTexts ds) (hc : c = true → 0 < rs.length) :
    ∃ rs' ds' p', Ev (fun k => spec_someReport.j2 k c b p rs ds) (rs', ds', p') ∧ SmallRes rs' ∧ SmallTexts ds' ∧ 0 ≤ p' ∧ p' ≤ p + 2 := by
  by_cases c1 : c = true
  · obtain ⟨x, hx, he⟩ := of_ev hb p h0 (by omega) [(⟨#[109]⟩ : ByteArray), (⟨#[109, 46, 97, 46, 98]⟩ : ByteArray), (⟨#[77, 46, 97]⟩ : ByteArray)] (by decide) (by decide)
    obtain ⟨y, hy, he2⟩ := one_ev hb (p + 1) (by omega) (by omega) [0, 6, -1] (by decide) (by decide)
    have hx2 : x.size ≤ 1000 := by
      simp only [List.mem_cons, List.not_mem_nil, or_false] at hx
      rcases hx with rfl | rfl | rfl <;> decide
    have := hc c1
    refine ⟨_, _, _, Ev.step (fun k => rfl) (Ev.iteT c1 (Ev.bind he (Ev.bind he2 (Ev.iteT (by omega) (Ev.some_ rfl))))), ⟨?_, ?_⟩, hd, by omega, by omega⟩
    · rw [List.length_set]; exact hr.len
    · intro q hq
      rcases List.mem_or_eq_of_mem_set hq with h | rfl
      · exact hr.ids q h
      · exact hx2
  · exact ⟨_, _, _, Ev.step (fun k => rfl) (Ev.iteF c1 (Ev.some_ rfl)), hr, hd, h0, by omega⟩
theorem someReport_l1 {b : List Int} (hb : Code_ b) : ∀ (n : Nat) (p : Int) (rs : List S56) (ds : List ByteArray), n ≤ 50 → ds.length + n ≤ 100 → 0 ≤ p → p + n ≤ 500000 → SmallRes rs → (∀ x ∈ ds, x.size ≤ 1000) →
    ∃ rs' ds' p', Ev (fun k => spec_someReport.l1 k (n : Int) b p rs ds) (rs', ds', p') ∧ SmallRes rs' ∧ SmallTexts ds' ∧ 0 ≤ p' ∧ p' ≤ p + n + 3 := by
  intro n
  induction n with
  | zero =>
    intro p rs ds hn hl h0 h1 hr hd
    have hd2 : SmallTexts ds := ⟨by omega, hd⟩
    by_cases c1 : (rs.length : Int) > 0
    · obtain ⟨v, hv, v0, v1⟩ := pick_ev hb p 24 h0 (by omega) (by omega)
      obtain ⟨rs', ds', p', he, g1, g2, g3, g4⟩ := someReport_j2 hb (v == 0) (p + 1) (by omega) (by omega) rs ds hr hd2 (fun _ => by omega)
      exact ⟨rs', ds', p', Ev.step (fun k => rfl) (Ev.iteF (by omega) (Ev.iteT c1 (Ev.bind hv he))), g1, g2, g3, by omega⟩
    · obtain ⟨rs', ds', p', he, g1, g2, g3, g4⟩ := someReport_j2 hb false p (by omega) (by omega) rs ds hr hd2 (fun h => by cases h)
      exact ⟨rs', ds', p', Ev.step (fun k => rfl) (Ev.iteF (by omega) (Ev.iteF c1 he)), g1, g2, g3, by omega⟩
  | succ n ih =>
    intro p rs ds hn hl h0 h1 hr hd
    obtain ⟨x, hx, he⟩ := of_ev hb p h0 (by omega) [(⟨#[100, 98]⟩ : ByteArray), (⟨#[116, 109, 112]⟩ : ByteArray)] (by decide) (by decide)
    have hx2 : x.size ≤ 1000 := by
      simp only [List.mem_cons, List.not_mem_nil, or_false] at hx
      rcases hx with rfl | rfl <;> decide
    have ew : wrap64 (((n + 1 : Nat) : Int) - 1) = (n : Int) := by rw [wrapI (by omega)]; omega
    obtain ⟨rs', ds', p', hr', g1, g2, g3, g4⟩ := ih (p + 1) rs (ds ++ [x]) (by omega) (by simp; omega) (by omega) (by omega) hr (fun q hq => by
      rcases List.mem_append.1 hq with hq | hq
      · exact hd q hq
      · rw [List.mem_singleton.1 hq]; exact hx2)
    refine ⟨rs', ds', p', Ev.step (fun k => rfl) (Ev.iteT (by omega) (Ev.bind he (Ev.iteT (by omega) ?_))), g1, g2, g3, by omega⟩
    rw [ew]
    exact hr'
theorem someReport_l0 {b : List Int} (hb : Code_ b) : ∀ (n : Nat) (p : Int) (rs : List S56), n ≤ 50 → rs.length + n ≤ 100 → 0 ≤ p → p + 3 * n ≤ 400000 → (∀ q ∈ rs, q.f0.size ≤ 1000) →
    ∃ rs' ds' p', Ev (fun k => spec_someReport.l0 k (n : Int) b p rs []) (rs', ds', p') ∧ SmallRes rs' ∧ SmallTexts ds' ∧ 0 ≤ p' ∧ p' ≤ p + 3 * n + 10 := by
  intro n
  induction n with
  | zero =>
    intro p rs hn hl h0 h1 hr
    obtain ⟨y, hy, he⟩ := one_ev hb p h0 (by omega) [0, 1, 2, 0] (by decide) (by decide)
    have hy2 : 0 ≤ y ∧ y ≤ 2 := by
      simp only [List.mem_cons, List.not_mem_nil, or_false] at hy
      omega
    obtain ⟨m, rfl⟩ := Int.eq_ofNat_of_zero_le hy2.1
    obtain ⟨rs', ds', p', hr', g1, g2, g3, g4⟩ := someReport_l1 hb m (p + 1) rs [] (by omega) (by simp; omega) (by omega) (by omega) ⟨by omega, hr⟩ (fun x hx => by cases hx)
    exact ⟨rs', ds', p', Ev.step (fun k => rfl) (Ev.iteF (by omega) (Ev.bind he hr')), g1, g2, g3, by omega⟩
  | succ n ih =>
    intro p rs hn hl h0 h1 hr
    obtain ⟨x, hx, he⟩ := anId_ev hb p h0 (by omega)
    obtain ⟨y, hy, he2⟩ := one_ev hb (p + 2) (by omega) (by omega) [0, 1, 2, 3, 4, 5, 0, 1] (by decide) (by decide)
    have ew : wrap64 (((n + 1 : Nat) : Int) - 1) = (n : Int) := by rw [wrapI (by omega)]; omega
    obtain ⟨rs', ds', p', hr', g1, g2, g3, g4⟩ := ih (p + 2 + 1) (rs ++ [(⟨x, y⟩ : S56)]) (by omega) (by simp; omega) (by omega) (by omega) (fun q hq => by
      rcases List.mem_append.1 hq with hq | hq
      · exact hr q hq
      · rw [List.mem_singleton.1 hq]; show x.size ≤ 1000; omega)
    refine ⟨rs', ds', p', Ev.step (fun k => rfl) (Ev.iteT (by omega) (Ev.bind he (Ev.bind he2 (Ev.iteT (by omega) ?_)))), g1, g2, g3, by omega⟩
    rw [ew]
    exact hr'
theorem someReport_ev {b : List Int} (hb : Code_ b) (p : Int) (h0 : 0 ≤ p) (h1 : p ≤ 100000) :
    ∃ rs ds p', Ev (fun k => spec_someReport.f k b p) (rs, ds, p') ∧ SmallRes rs ∧ SmallTexts ds ∧ 0 ≤ p' ∧ p' ≤ p + 100 := by
  obtain ⟨y, hy, he⟩ := one_ev hb p h0 (by omega) [4, 3, 5, 2, 1, 0] (by decide) (by decide)
  have hy2 : 0 ≤ y ∧ y ≤ 5 := by
    simp only [List.mem_cons, List.not_mem_nil, or_false] at hy
    omega
  obtain ⟨n, rfl⟩ := Int.eq_ofNat_of_zero_le hy2.1
  obtain ⟨rs, ds, p', hr, g1, g2, g3, g4⟩ := someReport_l0 hb n (p + 1) [] (by omega) (by simp; omega) (by omega) (by omega) (fun q hq => by cases hq)
  exact ⟨rs, ds, p', Ev.bind he hr, g1, g2, g3, by omega⟩
def badO (o : Int) : Bool := if o = 1 then true else o == 2
theorem implIsBad_eq (o : Int) : impl_isBad.f o = some (badO o) := by
  unfold impl_isBad.f badO
  split <;> rfl
theorem specIsBad_eq (o : Int) : spec_isBad.f o = some (badO o) := by
  unfold spec_isBad.f badO
  split <;> rfl
/-- One result more. -/
def insP (x : S56) : List S54 → List S54
  | [] => [⟨x.f0, badO x.f1, 1⟩]
  | a :: t => if a.f0 = x.f0 then ⟨a.f0, badO x.f1, a.f2⟩ :: t else a :: insP x t
theorem insP_new {x : S56} (l : List S54) : ∀ i, findP x.f0 l i < 0 → insP x l = l ++ [⟨x.f0, badO x.f1, 1⟩] := by
  induction l with
  | nil => intro i _; rfl
  | cons a t ih =>
    intro i h
    unfold findP at h
    unfold insP
    by_cases c : a.f0 = x.f0
    · rw [if_pos c] at h
      omega
    · rw [if_neg c] at h
      rw [if_neg c, ih (i + 1) h]
      rfl
theorem insP_old {x : S56} (l : List S54) : ∀ i, 0 ≤ findP x.f0 l i → ∃ (j : Nat) (h : j < l.length), findP x.f0 l i = ((i + j : Nat) : Int) ∧ insP x l = l.set j ⟨(l[j]).f0, badO x.f1, (l[j]).f2⟩ := by
  induction l with
  | nil => intro i h; simp [findP] at h
  | cons a t ih =>
    intro i h
    unfold findP at h ⊢
    unfold insP
    by_cases c : a.f0 = x.f0
    · rw [if_pos c, if_pos c]
      exact ⟨0, by simp, rfl, rfl⟩
    · rw [if_neg c] at h
      obtain ⟨j, hj, h1, h2⟩ := ih (i + 1) h
      rw [if_neg c, if_neg c]
      exact ⟨j + 1, by simp; omega, by rw [h1]; congr 1; omega, by rw [h2]; rfl⟩
theorem insP_len (x : S56) (l : List S54) : l.length ≤ (insP x l).length ∧ (insP x l).length ≤ l.length + 1 := by
  induction l with
  | nil => simp [insP]
  | cons a t ih =>
    unfold insP
    split
    · simp
    · simp; omega
theorem insP_keeps (x : S56) (l : List S54) : ∀ (i : Nat) (h : i < l.length), ∃ h' : i < (insP x l).length, ((insP x l)[i]).f0 = (l[i]).f0 ∧ ((insP x l)[i]).f2 = (l[i]).f2 := by
  induction l with
  | nil => intro i h; cases h
  | cons a t ih =>
    intro i h
    have hl := insP_len x (a :: t)
    refine ⟨by omega, ?_⟩
    by_cases c : a.f0 = x.f0
    · have e : insP x (a :: t) = ⟨a.f0, badO x.f1, a.f2⟩ :: t := by rw [insP, if_pos c]
      simp only [e]
      cases i with
      | zero => exact ⟨rfl, rfl⟩
      | succ i => exact ⟨rfl, rfl⟩
    · have e : insP x (a :: t) = a :: insP x t := by rw [insP, if_neg c]
      simp only [e]
      cases i with
      | zero => exact ⟨rfl, rfl⟩
      | succ i =>
        obtain ⟨_, h1⟩ := ih i (by simpa using h)
        exact h1
theorem insP_has (x : S56) (l : List S54) : failedV x.f0 (insP x l) = badO x.f1 ∧ ∃ q ∈ insP x l, q.f0 = x.f0 := by
  induction l with
  | nil => exact ⟨by simp [insP, failedV], _, List.mem_cons_self, rfl⟩
  | cons a t ih =>
    unfold insP
    by_cases c : a.f0 = x.f0
    · rw [if_pos c]
      exact ⟨by simp [failedV, c], _, List.mem_cons_self, c⟩
    · rw [if_neg c]
      obtain ⟨h1, q, hq, e⟩ := ih
      exact ⟨by simp [failedV, c, h1], q, List.mem_cons_of_mem _ hq, e⟩
theorem insP_sizes {x : S56} {l : List S54} (hx : x.f0.size ≤ 1000) (h : ∀ q ∈ l, q.f0.size ≤ 1000) : ∀ q ∈ insP x l, q.f0.size ≤ 1000 := by
  induction l with
  | nil => intro q hq; simp [insP] at hq; rw [hq]; exact hx
  | cons a t ih =>
    intro q hq
    unfold insP at hq
    split at hq
    · rcases List.mem_cons.1 hq with rfl | hq
      · exact h a List.mem_cons_self
      · exact h q (List.mem_cons_of_mem _ hq)
    · rcases List.mem_cons.1 hq with rfl | hq
      · exact h _ List.mem_cons_self
      · exact ih (fun q hq => h q (List.mem_cons_of_mem _ hq)) q hq
def learn1 (p : List S54) (x : S56) : List S54 := if x.f1 = 3 then p else insP x p
/-- All results, one after the other. -/
def learnV (p : List S54) (l : List S56) : List S54 := l.foldl learn1 p
def learnR (p : List S54) : List S54 × Bool := if pastS p = true then (p, true) else ([], false)
def learnS (p : List S54) (l : List S56) : List S54 × Bool := if pastS p = true then learnR (learnV p l) else ([], false)
theorem learn1_len (p : List S54) (x : S56) : p.length ≤ (learn1 p x).length ∧ (learn1 p x).length ≤ p.length + 1 := by
  unfold learn1
  split
  · omega
  · exact insP_len x p
theorem learn1_sizes {x : S56} {l : List S54} (hx : x.f0.size ≤ 1000) (h : ∀ q ∈ l, q.f0.size ≤ 1000) : ∀ q ∈ learn1 l x, q.f0.size ≤ 1000 := by
  unfold learn1
  split
  · exact h
  · exact insP_sizes hx h
theorem learnV_keeps (l : List S56) : ∀ (p : List S54) (i : Nat) (h : i < p.length), ∃ h' : i < (learnV p l).length, ((learnV p l)[i]).f0 = (p[i]).f0 ∧ ((learnV p l)[i]).f2 = (p[i]).f2 := by
  induction l with
  | nil => intro p i h; exact ⟨h, rfl, rfl⟩
  | cons x t ih =>
    intro p i h
    have hk : ∃ h' : i < (learn1 p x).length, ((learn1 p x)[i]).f0 = (p[i]).f0 ∧ ((learn1 p x)[i]).f2 = (p[i]).f2 := by
      by_cases c : x.f1 = 3
      · have e : learn1 p x = p := by rw [learn1, if_pos c]
        rw [e]
        exact ⟨h, rfl, rfl⟩
      · have e : learn1 p x = insP x p := by rw [learn1, if_neg c]
        rw [e]
        exact insP_keeps x p i h
    obtain ⟨g, g1, g2⟩ := hk
    obtain ⟨g', g3, g4⟩ := ih (learn1 p x) i g
    exact ⟨g', g3.trans g1, g4.trans g2⟩
theorem learnV_len (l : List S56) : ∀ (p : List S54), (learnV p l).length ≤ p.length + l.length := by
  induction l with
  | nil => intro p; exact Nat.le_refl _
  | cons x t ih =>
    intro p
    have h1 := ih (learn1 p x)
    have h2 := learn1_len p x
    show (learnV (learn1 p x) t).length ≤ _
    simp
    omega
theorem learnV_sizes (l : List S56) (hl : ∀ q ∈ l, q.f0.size ≤ 1000) : ∀ (p : List S54), (∀ q ∈ p, q.f0.size ≤ 1000) → ∀ q ∈ learnV p l, q.f0.size ≤ 1000 := by
  induction l with
  | nil => intro p h; exact h
  | cons x t ih =>
    intro p h
    exact ih (fun q hq => hl q (List.mem_cons_of_mem _ hq)) (learn1 p x) (learn1_sizes (hl x List.mem_cons_self) h)
theorem learnV_last (p : List S54) (l : List S56) (n : Nat) (hn : n + 1 = l.length) : learnV p l = learn1 (learnV p (l.take n)) (l[n]'(by omega)) := by
  have e : l = l.take n ++ [l[n]'(by omega)] := by
    have := List.take_succ_eq_append_getElem (l := l) (i := n) (by omega)
    rw [← this, List.take_of_length_le (by omega)]
  unfold learnV
  conv => lhs; rw [e]
  rw [List.foldl_append]
  rfl
theorem rdR_nat (l : List S56) (i : Nat) (h : i < l.length) : rd_T56 l (i : Int) = l[i] := by
  unfold rd_T56
  rw [Int.toNat_natCast, List.getD_eq_getElem?_getD, List.getElem?_eq_getElem h]
  rfl
theorem implLearn_loop (l : List S56) (hl : l.length ≤ 1000) (hi : ∀ q ∈ l, q.f0.size ≤ 1000) : ∀ (t : List S56) (i : Nat) (p : List S54), l.drop i = t → i ≤ l.length → p.length ≤ 1000 + i → (∀ q ∈ p, q.f0.size ≤ 1000) →
    Ev (fun k => impl_LearnPast.l0 k p l (l.length : Int) (i : Int)) (learnR (learnV p t)) := by
  intro t
  induction t with
  | nil =>
    intro i p h hi2 hp hz
    have hl2 := drop_nil h
    refine Ev.step (fun k => rfl) (Ev.iteF (by omega) (Ev.bind (validPastI_ev p (by omega) (fun q hq => by have := hz q hq; omega)) ?_))
    show Ev _ (learnR p)
    by_cases c : pastS p = true
    · have e : learnR p = (p, true) := if_pos c
      rw [e]
      exact Ev.iteT c (Ev.some_ rfl)
    · have e : learnR p = ([], false) := if_neg c
      rw [e]
      exact Ev.iteF c (Ev.some_ rfl)
  | cons x t ih =>
    intro i p h hi2 hp hz
    obtain ⟨hl2, hb, ht⟩ := drop_cons h
    have hx : x.f0.size ≤ 1000 := hi x (by rw [← hb]; exact List.getElem_mem hl2)
    have hnext := ih (i + 1) (learn1 p x) ht (by omega) (by have := learn1_len p x; omega) (learn1_sizes hx hz)
    refine Ev.step (fun k => rfl) (Ev.iteT (by omega) (Ev.iteT (by omega) (Ev.iteT (by omega) ?_)))
    rw [rdR_nat _ _ hl2, hb, wrapN (by omega)]
    show Ev _ (learnR (learnV (learn1 p x) t))
    by_cases c : x.f1 = 3
    · have e : learn1 p x = p := by rw [learn1, if_pos c]
      rw [e] at hnext ⊢
      exact Ev.iteT c hnext
    · have e : learn1 p x = insP x p := by rw [learn1, if_neg c]
      rw [e] at hnext ⊢
      refine Ev.iteF c (Ev.bind0 (implPastAt_eq p x.f0) ?_)
      by_cases c2 : findP x.f0 p 0 ≥ 0
      · obtain ⟨j, hj, e1, e2⟩ := insP_old p 0 c2
        rw [e2] at hnext ⊢
        refine Ev.iteT c2 (Ev.bind0 (implIsBad_eq x.f1) ?_)
        rw [e1, Nat.zero_add]
        refine Ev.iteT (by omega) (Ev.iteT (by omega) ?_)
        rw [rdP_nat p j hj, Int.toNat_natCast]
        exact hnext
      · have e2 := insP_new p 0 (show findP x.f0 p 0 < 0 by omega)
        rw [e2] at hnext ⊢
        exact Ev.iteF c2 (Ev.bind0 (implIsBad_eq x.f1) (Ev.iteT (by omega) hnext))
theorem implLearn_ev (p : List S54) (l : List S56) (d : List ByteArray) (hl : l.length ≤ 1000) (hi : ∀ q ∈ l, q.f0.size ≤ 1000) (hp : p.length ≤ 1000) (hz : ∀ q ∈ p, q.f0.size ≤ 1000) :
    Ev (fun k => impl_LearnPast.f k p l d) (learnS p l) := by
  unfold impl_LearnPast.f learnS
  refine Ev.bind (validPastI_ev p (by omega) (fun q hq => by have := hz q hq; omega)) ?_
  by_cases c : pastS p = true
  · rw [if_pos c]
    refine Ev.iteT c (Ev.bind0 (a := p) (by unfold impl_Past.f; simp; omega) ?_)
    exact implLearn_loop l hl hi l 0 p rfl (Nat.zero_le _) (by omega) hz
  · rw [if_neg c]
    exact Ev.iteF c (Ev.some_ rfl)
theorem specLearn_loop (l : List S56) (d : List ByteArray) (hl : l.length ≤ 1000) (hi : ∀ q ∈ l, q.f0.size ≤ 1000) : ∀ (t : List S56) (i : Nat) (p : List S54), l.drop i = t → i ≤ l.length → p.length ≤ 1000 + i → (∀ q ∈ p, q.f0.size ≤ 1000) →
    Ev (fun k => spec_LearnPast.l0 k p (i : Int) l d) (learnR (learnV p t)) := by
  intro t
  induction t with
  | nil =>
    intro i p h hi2 hp hz
    have hl2 := drop_nil h
    refine Ev.step (fun k => rfl) (Ev.iteF (by omega) (Ev.bind (validPastS_ev p (by omega) (fun q hq => by have := hz q hq; omega)) ?_))
    show Ev _ (learnR p)
    by_cases c : pastS p = true
    · have e : learnR p = (p, true) := if_pos c
      rw [e]
      exact Ev.iteT c (Ev.some_ rfl)
    · have e : learnR p = ([], false) := if_neg c
      rw [e]
      exact Ev.iteF c (Ev.some_ rfl)
  | cons x t ih =>
    intro i p h hi2 hp hz
    obtain ⟨hl2, hb, ht⟩ := drop_cons h
    have hx : x.f0.size ≤ 1000 := hi x (by rw [← hb]; exact List.getElem_mem hl2)
    have hnext := ih (i + 1) (learn1 p x) ht (by omega) (by have := learn1_len p x; omega) (learn1_sizes hx hz)
    refine Ev.step (fun k => rfl) (Ev.iteT (by omega) (Ev.iteT (by omega) ?_))
    rw [rdR_nat _ _ hl2, hb, wrapN (by omega)]
    show Ev _ (learnR (learnV (learn1 p x) t))
    by_cases c : x.f1 = 3
    · have e : learn1 p x = p := by rw [learn1, if_pos c]
      rw [e] at hnext ⊢
      exact Ev.iteT c hnext
    · have e : learn1 p x = insP x p := by rw [learn1, if_neg c]
      rw [e] at hnext ⊢
      refine Ev.iteF c (Ev.bind (pastAt_ev p x.f0 (by omega)) ?_)
      by_cases c2 : findP x.f0 p 0 < 0
      · have e2 := insP_new p 0 c2
        rw [e2] at hnext ⊢
        exact Ev.iteT c2 (Ev.bind0 (specIsBad_eq x.f1) (Ev.iteT (by omega) hnext))
      · obtain ⟨j, hj, e1, e2⟩ := insP_old p 0 (show 0 ≤ findP x.f0 p 0 by omega)
        rw [e2] at hnext ⊢
        refine Ev.iteF c2 (Ev.bind0 (specIsBad_eq x.f1) ?_)
        rw [e1, Nat.zero_add]
        refine Ev.iteT (by omega) (Ev.iteT (by omega) ?_)
        rw [rdP_nat p j hj, Int.toNat_natCast]
        exact hnext
theorem specLearn_ev (p : List S54) (l : List S56) (d : List ByteArray) (hl : l.length ≤ 1000) (hi : ∀ q ∈ l, q.f0.size ≤ 1000) (hp : p.length ≤ 1000) (hz : ∀ q ∈ p, q.f0.size ≤ 1000) :
    Ev (fun k => spec_LearnPast.f k p l d) (learnS p l) := by
  unfold spec_LearnPast.f learnS
  refine Ev.bind (validPastS_ev p (by omega) (fun q hq => by have := hz q hq; omega)) ?_
  by_cases c : pastS p = true
  · rw [if_pos c]
    refine Ev.iteT c (Ev.bind0 rfl (Ev.iteT (by simp; omega) ?_))
    exact specLearn_loop l d hl hi l 0 p rfl (Nat.zero_le _) (by omega) hz
  · rw [if_neg c]
    exact Ev.iteF c (Ev.some_ rfl)
theorem equalPast_loop (a : List S54) (ha : a.length ≤ 4611686018427387903) : ∀ (d i : Nat), i + d = a.length → Ev (fun k => laws_equalPast.l0 k a a (i : Int)) true := by
  intro d
  induction d with
  | zero =>
    intro i hd
    exact Ev.step (fun k => rfl) (Ev.iteF (by omega) (Ev.some_ rfl))
  | succ d ih =>
    intro i hd
    refine Ev.step (fun k => rfl) (Ev.iteT (by omega) (Ev.iteT (by omega) (Ev.iteT (by omega) (Ev.iteF (by simp) ?_))))
    rw [wrapN (by omega)]
    exact ih (i + 1) (by omega)
theorem equalPast_ev (a : List S54) (ha : a.length ≤ 4611686018427387903) : Ev (fun k => laws_equalPast.f k a a) true := by
  unfold laws_equalPast.f
  exact Ev.iteT rfl (equalPast_loop a ha a.length 0 (by omega))
end Go.Proofs.Ytphjcoondlhefaa.X
