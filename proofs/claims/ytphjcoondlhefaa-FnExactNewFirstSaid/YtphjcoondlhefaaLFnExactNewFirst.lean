/- Plain laws, without Go, that the law FnExactNewFirst leans on. No condition. -/
import Derived.Test.YtphjcoondlhefaaQx0
import Derived.Test.YtphjcoondlhefaaQx2
import Derived.Test.YtphjcoondlhefaaQx3
import Derived.Test.YtphjcoondlhefaaQx4
import Derived.Test.YtphjcoondlhefaaQx9
import Derived.Test.YtphjcoondlhefaaQx10
import Derived.Test.YtphjcoondlhefaaQx12
import Derived.Test.YtphjcoondlhefaaQx13
import Derived.Test.YtphjcoondlhefaaQx14
import Derived.Test.YtphjcoondlhefaaQx15
import Derived.Test.YtphjcoondlhefaaQx16
import Derived.Test.YtphjcoondlhefaaQx17
import Derived.Test.YtphjcoondlhefaaWMore
import Derived.IntWalk
import Derived.Lib.Bytealg
import Derived.Lib.Strings
set_option linter.unusedSimpArgs false
set_option linter.unusedVariables false
namespace Go.Proofs.Ytphjcoondlhefaa.Q
open Go.RowKit Go.Proofs.YtphjcoondlhefaaW.PrintWords Go.Proofs.YtphjcoondlhefaaW.PrintLast Go.Proofs.YtphjcoondlhefaaW.PrintMore
theorem Ev.iteT {α : Type} {c : Prop} [Decidable c] {g f : Nat → Option α} {r : α} (h : c) (k : Ev g r) : Ev (fun n => if c then g n else f n) r := by
  simpa only [if_pos h] using k
theorem Ev.iteF {α : Type} {c : Prop} [Decidable c] {g f : Nat → Option α} {r : α} (h : ¬ c) (k : Ev f r) : Ev (fun n => if c then g n else f n) r := by
  simpa only [if_neg h] using k
/-- A callee without rounds. -/
theorem Ev.bind0 {α β : Type} {g : Option α} {f : Nat → α → Option β} {a : α} {r : β} (h : g = some a) (k : Ev (fun n => f n a) r) : Ev (fun n => g.bind (f n)) r := by
  subst h
  simpa only [Option.bind_some] using k
theorem Ev.some_ {α : Type} {x r : α} (h : x = r) : Ev (fun _ => some x) r := ⟨0, fun _ _ => by rw [h]⟩
theorem Ev.bool {b r : Bool} (h : b = r) : Ev (fun _ => some b) r := Ev.some_ h
theorem wrapN {i : Nat} (h : i < 4611686018427387904) : wrap64 ((i : Int) + 1) = ((i + 1 : Nat) : Int) := by
  unfold wrap64
  omega
theorem wrapI {x : Int} (h : -9223372036854775808 ≤ x ∧ x ≤ 9223372036854775807) : wrap64 x = x := by
  unfold wrap64
  omega
theorem rdOf_nat {α : Type} (d : α) (l : List α) (i : Nat) (h : i < l.length) : rdOf d l (i : Int) = l[i] := by
  simp [rdOf, List.getD_eq_getElem?_getD, List.getElem?_eq_getElem h]
theorem getD_nat {α : Type} (d : α) (l : List α) (i : Nat) (h : i < l.length) : l.getD (i : Int).toNat d = l[i] := by
  simp [List.getD_eq_getElem?_getD, List.getElem?_eq_getElem h]
theorem size_list (s : ByteArray) : s.data.toList.length = s.size := by rw [Array.length_toList]; rfl
theorem bt_nat (s : ByteArray) (i : Nat) (h : i < s.data.toList.length) : bt s (i : Int) = ((s.data.toList[i]).toNat : Int) := by
  have h' : i < s.size := by rw [← size_list]; exact h
  unfold bt
  rw [dif_pos (by simpa using h')]
  rfl
/-- A list seen from place i on. -/
theorem drop_cons {α : Type} {l : List α} {i : Nat} {b : α} {t : List α} (h : l.drop i = b :: t) : ∃ hi : i < l.length, l[i] = b ∧ l.drop (i + 1) = t := by
  have hi : i < l.length := by
    rcases Nat.lt_or_ge i l.length with h1 | h1
    · exact h1
    · rw [List.drop_of_length_le h1] at h
      cases h
  refine ⟨hi, ?_, ?_⟩
  · rw [List.drop_eq_getElem_cons hi] at h
    exact (List.cons.inj h).1
  · rw [List.drop_eq_getElem_cons hi] at h
    exact (List.cons.inj h).2
theorem drop_nil {α : Type} {l : List α} {i : Nat} (h : l.drop i = []) : l.length ≤ i := by
  have := congrArg List.length h
  rw [List.length_drop] at this
  simpa using Nat.sub_eq_zero_iff_le.1 this
theorem toList_inj {a b : ByteArray} (h : a.toList = b.toList) : a = b := by
  rw [Lib.toList_data, Lib.toList_data] at h
  cases a with
  | mk x => cases b with
    | mk y =>
      have : x = y := Array.ext' h
      rw [this]
theorem toList_iff {a b : ByteArray} : a.toList = b.toList ↔ a = b := ⟨toList_inj, fun h => by rw [h]⟩
def lowB (b : UInt8) : Bool := decide (97 ≤ (b.toNat : Int)) && decide ((b.toNat : Int) ≤ 122)
/-- What is asked of a name behind its letters. -/
def nameEnd (s : ByteArray) : Bool := decide (1 ≤ s.size) && (decide (s.size ≤ 6) && (s.toList != ([97, 110, 100] : List UInt8) && (s.toList != ([111, 114] : List UInt8) && s.toList != ([110, 111, 116] : List UInt8))))
def nameS (s : ByteArray) : Bool := s.data.toList.all lowB && nameEnd s
theorem nameOk_loop (s : ByteArray) (hs : s.size ≤ 4611686018427387903) : ∀ (t : List UInt8) (i : Nat), s.data.toList.drop i = t → i ≤ s.size →
    Ev (fun k => impl_nameOk.l0 k s (s.size : Int) (i : Int)) (t.all lowB && nameEnd s) := by
  intro t
  induction t with
  | nil =>
    intro i h hi
    have hl := drop_nil h
    rw [size_list] at hl
    refine Ev.step (fun k => rfl) (Ev.iteF (by omega) ?_)
    simp only [List.all_nil, Bool.true_and]
    unfold nameEnd
    by_cases h1 : 1 ≤ s.size
    · refine Ev.iteT (by omega) ?_
      by_cases h2 : s.size ≤ 6
      · refine Ev.iteT (by omega) ?_
        by_cases h3 : s.toList = ([97, 110, 100] : List UInt8)
        · exact Ev.iteT h3 (Ev.bool (by simp [h3]))
        · refine Ev.iteF h3 ?_
          by_cases h4 : s.toList = ([111, 114] : List UInt8)
          · exact Ev.iteT h4 (Ev.bool (by simp [h4]))
          · exact Ev.iteF h4 (Ev.bool (by simp [h1, h2, bne_iff_ne.2 h3, bne_iff_ne.2 h4]))
      · exact Ev.iteF (by omega) (Ev.bool (by simp [h2]))
    · exact Ev.iteF (by omega) (Ev.bool (by simp [h1]))
  | cons b t ih =>
    intro i h hi
    obtain ⟨hl, hb, ht⟩ := drop_cons h
    have hl' := hl
    rw [size_list] at hl'
    refine Ev.step (fun k => rfl) (Ev.iteT (by omega) (Ev.iteT (by omega) (Ev.iteT (by omega) ?_)))
    rw [bt_nat s i hl, hb]
    by_cases h1 : (b.toNat : Int) < 97
    · exact Ev.iteT h1 (Ev.bool (by simp [lowB]; omega))
    · refine Ev.iteF h1 ?_
      by_cases h2 : (b.toNat : Int) > 122
      · exact Ev.iteT h2 (Ev.bool (by simp [lowB]; omega))
      · refine Ev.iteF h2 ?_
        rw [wrapN (by omega)]
        have := ih (i + 1) ht (by omega)
        have e : lowB b = true := by simp [lowB]; omega
        simpa [List.all_cons, e] using this
theorem nameOk_ev (s : ByteArray) (hs : s.size ≤ 4611686018427387903) : Ev (fun k => impl_nameOk.f k s) (nameS s) :=
  nameOk_loop s hs _ 0 rfl (Nat.zero_le _)
theorem inRange_ev (a b c : Int) : spec_inRange.f a b c = some (decide (b ≤ a ∧ a ≤ c)) := by
  unfold spec_inRange.f
  by_cases h : b ≤ a
  · rw [if_pos h]
    simp [h]
  · rw [if_neg h]
    simp [h]
theorem validName_loop (s : ByteArray) (hs : s.size ≤ 4611686018427387903) : ∀ (t : List UInt8) (i : Nat), s.data.toList.drop i = t → i ≤ s.size →
    Ev (fun k => spec_validName.l0 k s (i : Int)) (t.all lowB && nameEnd s) := by
  intro t
  induction t with
  | nil =>
    intro i h hi
    have hl := drop_nil h
    rw [size_list] at hl
    refine Ev.step (fun k => rfl) (Ev.iteF (by omega) (Ev.bind0 (inRange_ev _ _ _) ?_))
    simp only [List.all_nil, Bool.true_and]
    unfold nameEnd
    by_cases h1 : 1 ≤ s.size
    · by_cases h2 : s.size ≤ 6
      · refine Ev.iteT (by simp; omega) ?_
        by_cases h3 : s.toList = ([97, 110, 100] : List UInt8)
        · exact Ev.iteT h3 (Ev.bool (by simp [h3]))
        · refine Ev.iteF h3 ?_
          by_cases h4 : s.toList = ([111, 114] : List UInt8)
          · exact Ev.iteT h4 (Ev.bool (by simp [h4]))
          · exact Ev.iteF h4 (Ev.bool (by simp [h1, h2, bne_iff_ne.2 h3, bne_iff_ne.2 h4]))
      · exact Ev.iteF (by simp; omega) (Ev.bool (by simp [h2]))
    · exact Ev.iteF (by simp; omega) (Ev.bool (by simp [h1]))
  | cons b t ih =>
    intro i h hi
    obtain ⟨hl, hb, ht⟩ := drop_cons h
    have hl' := hl
    rw [size_list] at hl'
    refine Ev.step (fun k => rfl) (Ev.iteT (by omega) (Ev.iteT (by omega) ?_))
    rw [bt_nat s i hl, hb]
    by_cases h1 : (b.toNat : Int) < 97
    · exact Ev.iteT h1 (Ev.bool (by simp [lowB]; omega))
    · refine Ev.iteF h1 ?_
      by_cases h2 : (b.toNat : Int) > 122
      · exact Ev.iteT h2 (Ev.bool (by simp [lowB]; omega))
      · refine Ev.iteF h2 ?_
        rw [wrapN (by omega)]
        have := ih (i + 1) ht (by omega)
        have e : lowB b = true := by simp [lowB]; omega
        simpa [List.all_cons, e] using this
theorem validName_ev (s : ByteArray) (hs : s.size ≤ 4611686018427387903) : Ev (fun k => spec_validName.f k s) (nameS s) :=
  validName_loop s hs _ 0 rfl (Nat.zero_le _)
theorem extract_size_le (s : ByteArray) (a b : Nat) : (s.extract a b).size ≤ s.size := by
  rw [ByteArray.size_extract]
  omega
theorem indexByte_cons (b : UInt8) (l : List UInt8) (c : UInt8) : Lib.indexByte (b :: l) c = if b = c then 0 else if Lib.indexByte l c < 0 then -1 else Lib.indexByte l c + 1 := by
  have hg := Lib.indexByte_ge l c
  rw [Lib.indexByte]
  by_cases h : b = c
  · simp [h]
  · have h1 : (b == c) = false := by simpa using h
    rw [h1, if_neg h]
    simp only [Bool.false_eq_true, if_false]
    by_cases h2 : Lib.indexByte l c = -1
    · rw [h2]
      simp
    · have h3 : (Lib.indexByte l c == -1) = false := by simpa using h2
      have h4 : ¬ Lib.indexByte l c < 0 := by omega
      rw [h3, if_neg h4]
      simp
theorem indexByte_lt (l : List UInt8) (c : UInt8) : Lib.indexByte l c < l.length := by
  induction l with
  | nil => simp [Lib.indexByte]
  | cons b l ih =>
    rw [indexByte_cons]
    have hg := Lib.indexByte_ge l c
    simp only [List.length_cons]
    split
    · omega
    · split <;> omega
/-- Where the first point stands, and whether both sides of it are names. -/
def idS (s : ByteArray) : Bool := decide (0 ≤ Lib.indexByte s.data.toList 46) && (nameS (s.extract 0 (Lib.indexByte s.data.toList 46).toNat) && nameS (s.extract ((Lib.indexByte s.data.toList 46).toNat + 1) s.size))
theorem stringsCut_at (s : ByteArray) (c : UInt8) (hs : s.size ≤ 4611686018427387903) :
    strings_Cut.f s ⟨#[c]⟩ = some (if 0 ≤ Lib.indexByte s.data.toList c then (s.extract 0 (Lib.indexByte s.data.toList c).toNat, s.extract ((Lib.indexByte s.data.toList c).toNat + 1) s.size, true) else (s, ⟨#[]⟩, false)) := by
  have hg := Lib.indexByte_ge s.data.toList c
  have hl := indexByte_lt s.data.toList c
  rw [size_list] at hl
  have e1 : (⟨#[c]⟩ : ByteArray).size = 1 := rfl
  have e : stringslite_Index.f s ⟨#[c]⟩ = some (Lib.indexByte s.data.toList c) := rfl
  unfold strings_Cut.f stringslite_Cut.f
  rw [e]
  simp only [Option.bind_some, e1]
  generalize Lib.indexByte s.data.toList c = i at hg hl ⊢
  by_cases h : 0 ≤ i
  · have ew : wrap64 (i + ((1 : Nat) : Int)) = ((i.toNat + 1 : Nat) : Int) := by unfold wrap64; omega
    rw [if_pos h, if_pos h, if_pos (by omega), ew, if_pos (by omega), if_pos (by omega), if_pos h, Int.toNat_natCast]
    rfl
  · rw [if_neg h, if_neg h]
    rfl
theorem idOk_ev (s : ByteArray) (hs : s.size ≤ 4611686018427387903) : Ev (fun k => impl_idOk.f k s) (idS s) := by
  unfold impl_idOk.f idS
  refine Ev.bind0 (stringsCut_at s 46 hs) ?_
  by_cases h : 0 ≤ Lib.indexByte s.data.toList 46
  · simp only [if_pos h]
    have n1 := nameOk_ev (s.extract 0 (Lib.indexByte s.data.toList 46).toNat) (by have := extract_size_le s 0 (Lib.indexByte s.data.toList 46).toNat; omega)
    have n2 := nameOk_ev (s.extract ((Lib.indexByte s.data.toList 46).toNat + 1) s.size) (by have := extract_size_le s ((Lib.indexByte s.data.toList 46).toNat + 1) s.size; omega)
    refine Ev.iteT (by trivial) (Ev.bind n1 ?_)
    cases hn : nameS (s.extract 0 (Lib.indexByte s.data.toList 46).toNat) with
    | true => exact Ev.iteT rfl (Ev.bind n2 (Ev.bool (by simp [h])))
    | false => exact Ev.iteF (by simp) (Ev.bool (by simp))
  · simp only [if_neg h]
    exact Ev.iteF (by simp) (Ev.bool (by simp [h]))
theorem validId_loop (s : ByteArray) (hs : s.size ≤ 4611686018427387903) : ∀ (t : List UInt8) (i : Nat), s.data.toList.drop i = t → i ≤ s.size →
    Ev (fun k => spec_validId.l0 k s (i : Int)) (decide (0 ≤ Lib.indexByte t 46) && (nameS (s.extract 0 (i + (Lib.indexByte t 46).toNat)) && nameS (s.extract (i + (Lib.indexByte t 46).toNat + 1) s.size))) := by
  intro t
  induction t with
  | nil =>
    intro i h hi
    have hl := drop_nil h
    rw [size_list] at hl
    exact Ev.step (fun k => rfl) (Ev.iteF (by omega) (Ev.bool (by simp [Lib.indexByte])))
  | cons b t ih =>
    intro i h hi
    obtain ⟨hl, hb, ht⟩ := drop_cons h
    have hl' := hl
    rw [size_list] at hl'
    refine Ev.step (fun k => rfl) (Ev.iteT (by omega) (Ev.iteT (by omega) ?_))
    rw [bt_nat s i hl, hb]
    by_cases h1 : b = 46
    · subst h1
      refine Ev.iteT (by decide) (Ev.iteT (by omega) ?_)
      have n1 := validName_ev (s.extract 0 i) (by have := extract_size_le s 0 i; omega)
      have n2 := validName_ev (s.extract (i + 1) s.size) (by have := extract_size_le s (i + 1) s.size; omega)
      rw [indexByte_cons, if_pos rfl]
      simp only [Int.toNat_natCast, Int.toNat_zero, Nat.add_zero, Int.le_refl, decide_true, Bool.true_and]
      refine Ev.bind n1 ?_
      rw [wrapN (by omega)]
      cases hn : nameS (s.extract 0 i) with
      | true =>
        refine Ev.iteT rfl (Ev.iteT (by omega) (Ev.iteT (by omega) ?_))
        rw [Int.toNat_natCast]
        exact Ev.bind n2 (Ev.bool (by simp))
      | false => exact Ev.iteF (by simp) (Ev.bool (by simp))
    · have hne : ¬ (b.toNat : Int) = 46 := fun h2 => h1 (by apply UInt8.toNat.inj; simp; omega)
      refine Ev.iteF hne ?_
      rw [wrapN (by omega)]
      have := ih (i + 1) ht (by omega)
      rw [indexByte_cons, if_neg h1]
      have hg := Lib.indexByte_ge t 46
      by_cases h2 : Lib.indexByte t 46 < 0
      · rw [if_pos h2]
        rw [show decide (0 ≤ Lib.indexByte t 46) = false from decide_eq_false (by omega)] at this
        simpa using this
      · rw [if_neg h2]
        have e1 : (Lib.indexByte t 46 + 1).toNat = (Lib.indexByte t 46).toNat + 1 := by omega
        rw [e1, show i + ((Lib.indexByte t 46).toNat + 1) = i + 1 + (Lib.indexByte t 46).toNat from by omega, show decide (0 ≤ Lib.indexByte t 46 + 1) = true from decide_eq_true (by omega)]
        rw [show decide (0 ≤ Lib.indexByte t 46) = true from decide_eq_true (by omega)] at this
        exact this
theorem validId_ev (s : ByteArray) (hs : s.size ≤ 4611686018427387903) : Ev (fun k => spec_validId.f k s) (idS s) := by
  have := validId_loop s hs _ 0 rfl (Nat.zero_le _)
  simp only [Nat.zero_add] at this
  exact this
def memB (l : List ByteArray) (x : ByteArray) : Bool := l.any fun y => decide (y = x)
theorem memB_iff {l : List ByteArray} {x : ByteArray} : memB l x = true ↔ x ∈ l := by
  simp [memB]
theorem memB_eq {l : List ByteArray} {x : ByteArray} {p : Prop} [Decidable p] (h : p ↔ x ∈ l) : decide p = memB l x := by
  rw [Bool.eq_iff_iff, memB_iff]
  simpa using h
theorem index_loop (l : List ByteArray) (x : ByteArray) (hl : l.length ≤ 4611686018427387903) : ∀ (t : List ByteArray) (i : Nat), l.drop i = t → i ≤ l.length →
    ∃ r : Int, Ev (fun k => slices_Index_string_string.l0 k l x (l.length : Int) (i : Int)) r ∧ (0 ≤ r ↔ x ∈ t) := by
  intro t
  induction t with
  | nil =>
    intro i h hi
    have hl2 := drop_nil h
    exact ⟨-1, Ev.step (fun k => rfl) (Ev.iteF (by omega) (Ev.some_ rfl)), by simp⟩
  | cons b t ih =>
    intro i h hi
    obtain ⟨hl2, hb, ht⟩ := drop_cons h
    by_cases h1 : x = b
    · refine ⟨(i : Int), Ev.step (fun k => rfl) (Ev.iteT (by omega) (Ev.iteT (by omega) (Ev.iteT (by omega) (Ev.iteT ?_ (Ev.some_ rfl))))), by simp [h1]⟩
      rw [rdOf_nat _ _ _ hl2, hb, h1]
    · obtain ⟨r, hr, hm⟩ := ih (i + 1) ht (by omega)
      refine ⟨r, Ev.step (fun k => rfl) (Ev.iteT (by omega) (Ev.iteT (by omega) (Ev.iteT (by omega) (Ev.iteF ?_ ?_)))), by simp [h1, hm]⟩
      · rw [rdOf_nat _ _ _ hl2, hb, toList_iff]
        exact h1
      · rw [wrapN (by omega)]
        exact hr
theorem contains_ev (l : List ByteArray) (x : ByteArray) (hl : l.length ≤ 4611686018427387903) : Ev (fun k => slices_Contains_string_string.f k l x) (memB l x) := by
  obtain ⟨r, hr, hm⟩ := index_loop l x hl l 0 rfl (Nat.zero_le _)
  exact Ev.bind hr (Ev.bool (memB_eq hm))
theorem nodup_take_succ {α : Type} (l : List α) (i : Nat) (h : i < l.length) : (l.take (i + 1)).Nodup ↔ (l.take i).Nodup ∧ l[i] ∉ l.take i := by
  rw [List.take_succ_eq_append_getElem h, List.nodup_append]
  simp only [List.nodup_cons, List.not_mem_nil, not_false_eq_true, List.nodup_nil, and_self, true_and, List.mem_singleton, forall_eq]
  exact ⟨fun ⟨a, b⟩ => ⟨a, fun hm => b _ hm rfl⟩, fun ⟨a, b⟩ => ⟨a, fun x hx e => b (e ▸ hx)⟩⟩
theorem nodup_of_take {α : Type} (l : List α) (i : Nat) (h : ¬ (l.take i).Nodup) : ¬ l.Nodup := fun hn => h (hn.sublist (List.take_sublist _ _))
theorem apart_loop (l : List ByteArray) (hl : l.length ≤ 4611686018427387903) : ∀ (d i : Nat), i + d = l.length → (l.take i).Nodup →
    Ev (fun k => impl_apart.l0 k l l (l.length : Int) (i : Int)) (decide l.Nodup) := by
  intro d
  induction d with
  | zero =>
    intro i hd hn
    have e : l.take i = l := List.take_of_length_le (by omega)
    rw [e] at hn
    exact Ev.step (fun k => rfl) (Ev.iteF (by omega) (Ev.some_ (by simp [hn])))
  | succ d ih =>
    intro i hd hn
    have hi : i < l.length := by omega
    refine Ev.step (fun k => rfl) (Ev.iteT (by omega) (Ev.iteT (by omega) (Ev.iteT (by omega) (Ev.iteT (by omega) ?_))))
    rw [Int.toNat_natCast, rdOf_nat _ _ _ hi]
    refine Ev.bind (contains_ev (l.take i) l[i] (by rw [List.length_take]; omega)) ?_
    by_cases hm : l[i] ∈ l.take i
    · refine Ev.iteT (memB_iff.2 hm) (Ev.bool ?_)
      have : ¬ l.Nodup := nodup_of_take l (i + 1) (fun h => ((nodup_take_succ l i hi).1 h).2 hm)
      simp [this]
    · refine Ev.iteF (by rw [memB_iff]; exact hm) ?_
      rw [wrapN (by omega)]
      exact ih (i + 1) (by omega) ((nodup_take_succ l i hi).2 ⟨hn, hm⟩)
theorem apart_ev (l : List ByteArray) (hl : l.length ≤ 4611686018427387903) : Ev (fun k => impl_apart.f k l) (decide l.Nodup) :=
  apart_loop l hl l.length 0 (by omega) (by simp)
/-- All in a list are of a size that numbers hold. -/
def SizesOk (l : List ByteArray) : Prop := ∀ x ∈ l, x.size ≤ 4611686018427387903
def idsS (l : List ByteArray) : Bool := l.all idS && (decide (l.length ≤ 10) && decide l.Nodup)
theorem idsOk_loop (l : List ByteArray) (hl : l.length ≤ 4611686018427387903) (hz : SizesOk l) : ∀ (t : List ByteArray) (i : Nat), l.drop i = t → i ≤ l.length →
    Ev (fun k => impl_idsOk.l0 k l l (l.length : Int) (i : Int)) (t.all idS && (decide (l.length ≤ 10) && decide l.Nodup)) := by
  intro t
  induction t with
  | nil =>
    intro i h hi
    have hl2 := drop_nil h
    refine Ev.step (fun k => rfl) (Ev.iteF (by omega) ?_)
    by_cases h1 : l.length ≤ 10
    · exact Ev.iteT (by omega) (Ev.bind (apart_ev l hl) (Ev.bool (by simp [h1])))
    · exact Ev.iteF (by omega) (Ev.bool (by simp [h1]))
  | cons b t ih =>
    intro i h hi
    obtain ⟨hl2, hb, ht⟩ := drop_cons h
    refine Ev.step (fun k => rfl) (Ev.iteT (by omega) (Ev.iteT (by omega) (Ev.iteT (by omega) ?_)))
    rw [rdOf_nat _ _ _ hl2, hb]
    have hs : b.size ≤ 4611686018427387903 := hz b (hb ▸ List.getElem_mem hl2)
    refine Ev.bind (idOk_ev b hs) ?_
    cases hn : idS b with
    | true =>
      refine Ev.iteT rfl ?_
      rw [wrapN (by omega)]
      simpa [List.all_cons, hn] using ih (i + 1) ht (by omega)
    | false => exact Ev.iteF (by simp) (Ev.bool (by simp [hn]))
theorem idsOk_ev (l : List ByteArray) (hl : l.length ≤ 4611686018427387903) (hz : SizesOk l) : Ev (fun k => impl_idsOk.f k l) (idsS l) :=
  idsOk_loop l hl hz l 0 rfl (Nat.zero_le _)
theorem rdP_nat (l : List S54) (i : Nat) (h : i < l.length) : rd_T54 l (i : Int) = l[i] := by
  unfold rd_T54
  exact getD_nat _ _ _ h
/-- Where an id first stands, from place i on; -1 if nowhere. -/
def findP (x : ByteArray) : List S54 → Nat → Int
  | [], _ => -1
  | q :: t, i => if q.f0 = x then (i : Int) else findP x t (i + 1)
theorem findP_iff (x : ByteArray) (t : List S54) : ∀ i, 0 ≤ findP x t i ↔ x ∈ t.map (·.f0) := by
  induction t with
  | nil => intro i; simp [findP]
  | cons q t ih =>
    intro i
    unfold findP
    by_cases h : q.f0 = x
    · rw [if_pos h]
      simp [h]
    · rw [if_neg h, ih]
      simp only [List.map_cons, List.mem_cons]
      exact ⟨fun h2 => .inr h2, fun h2 => h2.elim (fun e => absurd e.symm h) id⟩
theorem pastAt_loop (l : List S54) (x : ByteArray) (hl : l.length ≤ 4611686018427387903) : ∀ (t : List S54) (i : Nat), l.drop i = t → i ≤ l.length →
    Ev (fun k => spec_pastAt.l0 k l x (i : Int)) (findP x t i) := by
  intro t
  induction t with
  | nil =>
    intro i h hi
    have hl2 := drop_nil h
    exact Ev.step (fun k => rfl) (Ev.iteF (by omega) (Ev.some_ rfl))
  | cons q t ih =>
    intro i h hi
    obtain ⟨hl2, hb, ht⟩ := drop_cons h
    refine Ev.step (fun k => rfl) (Ev.iteT (by omega) (Ev.iteT (by omega) ?_))
    rw [rdP_nat _ _ hl2, hb]
    unfold findP
    by_cases h1 : q.f0 = x
    · rw [if_pos h1]
      exact Ev.iteT (by rw [h1]) (Ev.some_ rfl)
    · rw [if_neg h1, wrapN (by omega)]
      exact Ev.iteF (by rw [toList_iff]; exact h1) (ih (i + 1) ht (by omega))
theorem pastAt_ev (l : List S54) (x : ByteArray) (hl : l.length ≤ 4611686018427387903) : Ev (fun k => spec_pastAt.f k l x) (findP x l 0) :=
  pastAt_loop l x hl l 0 rfl (Nat.zero_le _)
def PastSizes (l : List S54) : Prop := ∀ q ∈ l, q.f0.size ≤ 4611686018427387903
def costS (q : S54) : Bool := decide (0 ≤ q.f2) && decide (q.f2 ≤ 99)
/-- What is asked of what is known. -/
def pastS (l : List S54) : Bool := l.all costS && idsS (l.map (·.f0))
theorem validPastI_loop (l : List S54) (hl : l.length ≤ 8796093022207) (hz : PastSizes l) : ∀ (t : List S54) (i : Nat), l.drop i = t → i ≤ l.length →
    Ev (fun k => impl_ValidPast.l0 k ((l.take i).map (·.f0)) l (l.length : Int) (i : Int)) (t.all costS && idsS (l.map (·.f0))) := by
  intro t
  induction t with
  | nil =>
    intro i h hi
    have hl2 := drop_nil h
    have e : l.take i = l := List.take_of_length_le hl2
    rw [e]
    refine Ev.step (fun k => rfl) (Ev.iteF (by omega) ?_)
    exact Ev.bind (idsOk_ev (l.map (·.f0)) (by rw [List.length_map]; omega) (fun x hx => by obtain ⟨q, hq, rfl⟩ := List.mem_map.1 hx; exact hz q hq)) (Ev.bool (by simp))
  | cons q t ih =>
    intro i h hi
    obtain ⟨hl2, hb, ht⟩ := drop_cons h
    refine Ev.step (fun k => rfl) (Ev.iteT (by omega) (Ev.iteT (by omega) (Ev.iteT (by omega) ?_)))
    rw [rdP_nat _ _ hl2, hb]
    by_cases h1 : q.f2 < 0
    · exact Ev.iteT h1 (Ev.bool (by simp [costS]; omega))
    · refine Ev.iteF h1 ?_
      by_cases h2 : q.f2 > 99
      · exact Ev.iteT h2 (Ev.bool (by simp [costS]; omega))
      · refine Ev.iteF h2 (Ev.iteT (by rw [List.length_map, List.length_take]; omega) ?_)
        rw [wrapN (by omega)]
        have e : (l.take i).map (·.f0) ++ [q.f0] = (l.take (i + 1)).map (·.f0) := by
          rw [List.take_succ_eq_append_getElem hl2, List.map_append, hb]
          rfl
        rw [e]
        have ec : costS q = true := by simp [costS]; omega
        simpa [List.all_cons, ec] using ih (i + 1) ht (by omega)
theorem validPastI_ev (l : List S54) (hl : l.length ≤ 8796093022207) (hz : PastSizes l) : Ev (fun k => impl_ValidPast.f k l) (pastS l) := by
  have := validPastI_loop l hl hz l 0 rfl (Nat.zero_le _)
  exact this
/-- The same, told place by place. -/
theorem validPastS_loop (l : List S54) (hl : l.length ≤ 8796093022207) (hz : PastSizes l) : ∀ (d i : Nat), i + d = l.length → (l.take i).all costS = true → ((l.take i).map (·.f0)).all idS = true → ((l.take i).map (·.f0)).Nodup →
    Ev (fun k => spec_validPast.l0 k l (i : Int)) (pastS l) := by
  intro d
  induction d with
  | zero =>
    intro i hd h1 h2 h3
    have e : l.take i = l := List.take_of_length_le (by omega)
    rw [e] at h1 h2 h3
    exact Ev.step (fun k => rfl) (Ev.iteF (by omega) (Ev.some_ (by unfold pastS idsS; rw [h1, h2]; simp [h3]; omega)))
  | succ d ih =>
    intro i hd h1 h2 h3
    have hi : i < l.length := by omega
    have hmem : l[i] ∈ l := List.getElem_mem hi
    have hmap : (l.map (·.f0))[i]'(by rw [List.length_map]; exact hi) = l[i].f0 := by simp
    refine Ev.step (fun k => rfl) (Ev.iteT (by omega) (Ev.iteT (by omega) ?_))
    rw [rdP_nat _ _ hi]
    refine Ev.bind (validId_ev l[i].f0 (hz _ hmem)) ?_
    cases e1 : idS l[i].f0 with
    | false =>
      refine Ev.iteF (by simp) (Ev.bool ?_)
      have : (l.map (·.f0)).all idS = false := by
        rw [List.all_eq_false]
        exact ⟨_, List.mem_map.2 ⟨_, hmem, rfl⟩, by simp [e1]⟩
      unfold pastS idsS
      rw [this]
      simp
    | true =>
      refine Ev.iteT rfl (Ev.iteT (by omega) ?_)
      rw [Int.toNat_natCast]
      refine Ev.bind (pastAt_ev (l.take i) l[i].f0 (by rw [List.length_take]; omega)) ?_
      have hf := findP_iff l[i].f0 (l.take i) 0
      by_cases e2 : 0 ≤ findP l[i].f0 (l.take i) 0
      · refine Ev.iteT e2 (Ev.bool ?_)
        have hm := hf.1 e2
        have : ¬ (l.map (·.f0)).Nodup := by
          refine nodup_of_take _ (i + 1) (fun h => ?_)
          have := ((nodup_take_succ (l.map (·.f0)) i (by rw [List.length_map]; exact hi)).1 h).2
          rw [hmap, ← List.map_take] at this
          exact this hm
        unfold pastS idsS
        simp [this]
      · refine Ev.iteF (by omega) (Ev.bind0 (inRange_ev _ _ _) ?_)
        by_cases e3 : 0 ≤ l[i].f2 ∧ l[i].f2 ≤ 99
        · refine Ev.iteT (by simpa using e3) ?_
          rw [wrapN (by omega)]
          have hx : l.take (i + 1) = l.take i ++ [l[i]] := List.take_succ_eq_append_getElem hi
          refine ih (i + 1) (by omega) ?_ ?_ ?_
          · rw [hx, List.all_append, h1]
            simp [costS, e3]
          · rw [hx, List.map_append, List.all_append, h2]
            simp [e1]
          · have hn := nodup_take_succ (l.map (·.f0)) i (by rw [List.length_map]; exact hi)
            rw [← List.map_take, ← List.map_take, hmap] at hn
            exact hn.2 ⟨h3, fun hm => e2 (hf.2 hm)⟩
        · refine Ev.iteF (by simpa using e3) (Ev.bool ?_)
          have : l.all costS = false := by
            rw [List.all_eq_false]
            exact ⟨_, hmem, by simp [costS]; omega⟩
          unfold pastS
          rw [this]
          simp
theorem validPastS_ev (l : List S54) (hl : l.length ≤ 8796093022207) (hz : PastSizes l) : Ev (fun k => spec_validPast.f k l) (pastS l) :=
  validPastS_loop l hl hz l.length 0 (by omega) (by simp) (by simp) (by simp)
theorem find_findP (x : ByteArray) (t : List S54) : ∀ i, impl_pastAt.find x t i = findP x t i := by
  induction t with
  | nil => intro i; rfl
  | cons q t ih =>
    intro i
    unfold impl_pastAt.find findP
    rw [ih]
    by_cases h : q.f0 = x
    · rw [if_pos h, if_pos (by rw [h])]
    · rw [if_neg h, if_neg (by rw [toList_iff]; exact h)]
theorem implPastAt_eq (l : List S54) (x : ByteArray) : impl_pastAt.f l x = some (findP x l 0) := by
  unfold impl_pastAt.f
  rw [find_findP]
theorem hasText_loop (l : List ByteArray) (x : ByteArray) (hl : l.length ≤ 4611686018427387903) : ∀ (t : List ByteArray) (i : Nat), l.drop i = t → i ≤ l.length →
    Ev (fun k => spec_hasText.l0 k l x (i : Int)) (memB t x) := by
  intro t
  induction t with
  | nil =>
    intro i h hi
    have hl2 := drop_nil h
    exact Ev.step (fun k => rfl) (Ev.iteF (by omega) (Ev.some_ rfl))
  | cons b t ih =>
    intro i h hi
    obtain ⟨hl2, hb, ht⟩ := drop_cons h
    refine Ev.step (fun k => rfl) (Ev.iteT (by omega) (Ev.iteT (by omega) ?_))
    rw [rdOf_nat _ _ _ hl2, hb]
    by_cases h1 : b = x
    · exact Ev.iteT (by rw [h1]) (Ev.some_ (by simp [memB, h1]))
    · refine Ev.iteF (by rw [toList_iff]; exact h1) ?_
      rw [wrapN (by omega)]
      have e : memB (b :: t) x = memB t x := by simp [memB, h1]
      rw [e]
      exact ih (i + 1) ht (by omega)
theorem hasText_ev (l : List ByteArray) (x : ByteArray) (hl : l.length ≤ 4611686018427387903) : Ev (fun k => spec_hasText.f k l x) (memB l x) :=
  hasText_loop l x hl l 0 rfl (Nat.zero_le _)
theorem validOrder_loop (l : List ByteArray) (hl : l.length ≤ 4611686018427387903) (hz : SizesOk l) : ∀ (d i : Nat), i + d = l.length → (l.take i).all idS = true → (l.take i).Nodup →
    Ev (fun k => spec_validOrder.l0 k l (i : Int)) (idsS l) := by
  intro d
  induction d with
  | zero =>
    intro i hd h1 h2
    have e : l.take i = l := List.take_of_length_le (by omega)
    rw [e] at h1 h2
    exact Ev.step (fun k => rfl) (Ev.iteF (by omega) (Ev.some_ (by unfold idsS; rw [h1]; simp [h2]; omega)))
  | succ d ih =>
    intro i hd h1 h2
    have hi : i < l.length := by omega
    have hmem : l[i] ∈ l := List.getElem_mem hi
    refine Ev.step (fun k => rfl) (Ev.iteT (by omega) (Ev.iteT (by omega) ?_))
    rw [rdOf_nat _ _ _ hi]
    refine Ev.bind (validId_ev l[i] (hz _ hmem)) ?_
    cases e1 : idS l[i] with
    | false =>
      refine Ev.iteF (by simp) (Ev.bool ?_)
      have : l.all idS = false := by
        rw [List.all_eq_false]
        exact ⟨_, hmem, by simp [e1]⟩
      unfold idsS
      rw [this]
      simp
    | true =>
      refine Ev.iteT rfl (Ev.iteT (by omega) ?_)
      rw [Int.toNat_natCast]
      refine Ev.bind (hasText_ev (l.take i) l[i] (by rw [List.length_take]; omega)) ?_
      have hn := nodup_take_succ l i hi
      by_cases e2 : memB (l.take i) l[i] = true
      · refine Ev.iteT e2 (Ev.bool ?_)
        have : ¬ l.Nodup := nodup_of_take l (i + 1) (fun h => (hn.1 h).2 (memB_iff.1 e2))
        unfold idsS
        simp [this]
      · refine Ev.iteF e2 ?_
        rw [wrapN (by omega)]
        refine ih (i + 1) (by omega) ?_ (hn.2 ⟨h2, fun h => e2 (memB_iff.2 h)⟩)
        rw [List.take_succ_eq_append_getElem hi, List.all_append, h1]
        simp [e1]
theorem validOrder_ev (l : List ByteArray) (hl : l.length ≤ 4611686018427387903) (hz : SizesOk l) : Ev (fun k => spec_validOrder.f k l) (idsS l) :=
  validOrder_loop l hl hz l.length 0 (by omega) (by simp) (by simp)
def goodS (l : List ByteArray) (p : List S54) : Bool := idsS l && pastS p
theorem goodOrder_ev (l : List ByteArray) (p : List S54) (hl : l.length ≤ 4611686018427387903) (hz : SizesOk l) (hp : p.length ≤ 8796093022207) (hzp : PastSizes p) : Ev (fun k => spec_goodOrder.f k l p) (goodS l p) := by
  unfold spec_goodOrder.f goodS
  refine Ev.bind (validOrder_ev l hl hz) ?_
  cases h : idsS l with
  | true => exact Ev.iteT rfl (Ev.bind (validPastS_ev p hp hzp) (Ev.bool (by simp)))
  | false => exact Ev.iteF (by simp) (Ev.bool (by simp))
theorem idsS_len {l : List ByteArray} (h : idsS l = true) : l.length ≤ 10 := by
  unfold idsS at h
  simp only [Bool.and_eq_true, decide_eq_true_eq] at h
  exact h.2.1
/-- Those of a list first, then the others. -/
def partS (q : ByteArray → Bool) (l : List ByteArray) : List ByteArray := l.filter q ++ l.filter (fun x => !q x)
theorem partS_len (q : ByteArray → Bool) (l : List ByteArray) : (partS q l).length = l.length := by
  unfold partS
  rw [List.length_append]
  induction l with
  | nil => rfl
  | cons x t ih => cases h : q x <;> simp [h] <;> omega
def firstS (q : ByteArray → Bool) (l : List ByteArray) (p : List S54) : List ByteArray := if goodS l p = true then partS q l else []
theorem firstS_yes {q : ByteArray → Bool} {l : List ByteArray} {p : List S54} (h : goodS l p = true) : firstS q l p = partS q l := if_pos h
theorem firstS_no {q : ByteArray → Bool} {l : List ByteArray} {p : List S54} (h : ¬ goodS l p = true) : firstS q l p = [] := if_neg h
theorem filter_take_succ (q : ByteArray → Bool) (l : List ByteArray) (i : Nat) (h : i < l.length) : (l.take (i + 1)).filter q = if q l[i] = true then (l.take i).filter q ++ [l[i]] else (l.take i).filter q := by
  rw [List.take_succ_eq_append_getElem h, List.filter_append]
  cases hq : q l[i] <;> simp [hq]
theorem filter_len (q : ByteArray → Bool) (l : List ByteArray) (i : Nat) : ((l.take i).filter q).length ≤ l.length := by
  have := List.length_filter_le q (l.take i)
  rw [List.length_take] at this
  omega
theorem firstBy_loop (f : Int → Bool) (l : List ByteArray) (p : List S54) (hl : l.length ≤ 1000) : ∀ (d i : Nat), i + d = l.length →
    Ev (fun k => impl_firstBy.l0 f k p ((l.take i).filter fun x => f (findP x p 0)) ((l.take i).filter fun x => !f (findP x p 0)) l (l.length : Int) (i : Int)) (partS (fun x => f (findP x p 0)) l) := by
  intro d
  induction d with
  | zero =>
    intro i hd
    have h1 := filter_len (fun x => f (findP x p 0)) l i
    have h2 := filter_len (fun x => !f (findP x p 0)) l i
    refine Ev.step (fun k => rfl) (Ev.iteF (by omega) (Ev.iteT (by omega) (Ev.some_ ?_)))
    rw [List.take_of_length_le (by omega)]
    rfl
  | succ d ih =>
    intro i hd
    have hi : i < l.length := by omega
    have h1 := filter_len (fun x => f (findP x p 0)) l i
    have h2 := filter_len (fun x => !f (findP x p 0)) l i
    have f1 := filter_take_succ (fun x => f (findP x p 0)) l i hi
    have f2 := filter_take_succ (fun x => !f (findP x p 0)) l i hi
    refine Ev.step (fun k => rfl) (Ev.iteT (by omega) (Ev.iteT (by omega) (Ev.iteT (by omega) ?_)))
    rw [rdOf_nat _ _ _ hi]
    refine Ev.bind0 (implPastAt_eq p l[i]) (Ev.bind0 rfl ?_)
    rw [wrapN (by omega)]
    have := ih (i + 1) (by omega)
    rw [f1, f2] at this
    cases hq : f (findP l[i] p 0) with
    | true =>
      simp only [hq, if_true, Bool.not_true, Bool.false_eq_true, if_false] at this
      exact Ev.iteT rfl (Ev.iteT (by omega) this)
    | false =>
      simp only [hq, if_true, Bool.not_false, Bool.false_eq_true, if_false] at this
      exact Ev.iteF (by simp) (Ev.iteT (by omega) this)
theorem firstBy_ev (f : Int → Bool) (l : List ByteArray) (p : List S54) (hl : l.length ≤ 4611686018427387903) (hz : SizesOk l) (hp : p.length ≤ 8796093022207) (hzp : PastSizes p) :
    Ev (fun k => impl_firstBy.f f k l p) (firstS (fun x => f (findP x p 0)) l p) := by
  unfold impl_firstBy.f
  refine Ev.bind (idsOk_ev l hl hz) ?_
  by_cases h1 : idsS l = true
  · refine Ev.iteT h1 (Ev.bind (validPastI_ev p hp hzp) (Ev.step (fun k => rfl) ?_))
    by_cases h2 : pastS p = true
    · rw [firstS_yes (show goodS l p = true by simp [goodS, h1, h2])]
      have := firstBy_loop f l p (by have := idsS_len h1; omega) l.length 0 (by omega)
      exact Ev.iteF (by simp [h2]) this
    · rw [firstS_no (show ¬ goodS l p = true by simp [goodS, h2])]
      exact Ev.iteT (by simpa using h2) (Ev.some_ rfl)
  · rw [firstS_no (show ¬ goodS l p = true by simp [goodS, h1])]
    exact Ev.iteF h1 ⟨1, fun k hk => by obtain ⟨m, rfl⟩ : ∃ m, k = m + 1 := ⟨k - 1, by omega⟩; rfl⟩
def newQ (p : List S54) (x : ByteArray) : Bool := decide (findP x p 0 < 0)
theorem implNewFirst_ev (l : List ByteArray) (p : List S54) (hl : l.length ≤ 4611686018427387903) (hz : SizesOk l) (hp : p.length ≤ 8796093022207) (hzp : PastSizes p) :
    Ev (fun k => impl_NewFirst.f k l p) (firstS (newQ p) l p) := firstBy_ev _ l p hl hz hp hzp
theorem specNewFirst_loop (l : List ByteArray) (p : List S54) (hl : l.length ≤ 1000) (hp : p.length ≤ 4611686018427387903) : ∀ (d i : Nat), i + d = l.length →
    Ev (fun k => spec_NewFirst.l0 k l p ((l.take i).filter (newQ p)) ((l.take i).filter fun x => !newQ p x) (i : Int)) (partS (newQ p) l) := by
  intro d
  induction d with
  | zero =>
    intro i hd
    have h1 := filter_len (newQ p) l i
    have h2 := filter_len (fun x => !newQ p x) l i
    refine Ev.step (fun k => rfl) (Ev.iteF (by omega) (Ev.iteT (by omega) (Ev.some_ ?_)))
    rw [List.take_of_length_le (by omega)]
    rfl
  | succ d ih =>
    intro i hd
    have hi : i < l.length := by omega
    have h1 := filter_len (newQ p) l i
    have h2 := filter_len (fun x => !newQ p x) l i
    have f1 := filter_take_succ (newQ p) l i hi
    have f2 := filter_take_succ (fun x => !newQ p x) l i hi
    refine Ev.step (fun k => rfl) (Ev.iteT (by omega) (Ev.iteT (by omega) ?_))
    rw [rdOf_nat _ _ _ hi]
    refine Ev.bind (pastAt_ev p l[i] hp) ?_
    rw [wrapN (by omega)]
    have := ih (i + 1) (by omega)
    rw [f1, f2] at this
    by_cases hq : findP l[i] p 0 < 0
    · have e : newQ p l[i] = true := decide_eq_true hq
      simp only [e, if_true, Bool.not_true, Bool.false_eq_true, if_false] at this
      exact Ev.iteT hq (Ev.iteT (by omega) this)
    · have e : newQ p l[i] = false := decide_eq_false hq
      simp only [e, if_true, Bool.not_false, Bool.false_eq_true, if_false] at this
      exact Ev.iteF hq (Ev.iteT (by omega) this)
theorem specNewFirst_ev (l : List ByteArray) (p : List S54) (hl : l.length ≤ 4611686018427387903) (hz : SizesOk l) (hp : p.length ≤ 8796093022207) (hzp : PastSizes p) :
    Ev (fun k => spec_NewFirst.f k l p) (firstS (newQ p) l p) := by
  unfold spec_NewFirst.f
  refine Ev.bind (goodOrder_ev l p hl hz hp hzp) ?_
  by_cases h : goodS l p = true
  · rw [firstS_yes h]
    have h2 := h
    unfold goodS at h2
    simp only [Bool.and_eq_true] at h2
    have := specNewFirst_loop l p (by have := idsS_len h2.1; omega) (by omega) l.length 0 (by omega)
    exact Ev.iteT h this
  · rw [firstS_no h]
    exact Ev.iteF h (Ev.some_ rfl)
/-- What a copy holds after i rounds. -/
def half {α β : Type} (f : α → β) (z : β) (l : List α) (i : Nat) : List β := (l.take i).map f ++ List.replicate (l.length - i) z
theorem half_zero {α β : Type} (f : α → β) (z : β) (l : List α) : half f z l 0 = List.replicate l.length z := by simp [half]
theorem half_full {α β : Type} (f : α → β) (z : β) (l : List α) : half f z l l.length = l.map f := by simp [half]
theorem half_length {α β : Type} (f : α → β) (z : β) (l : List α) (i : Nat) (h : i ≤ l.length) : (half f z l i).length = l.length := by
  simp [half]
  omega
theorem half_set {α β : Type} (f : α → β) (z : β) (l : List α) (i : Nat) (h : i < l.length) : (half f z l i).set i (f l[i]) = half f z l (i + 1) := by
  have e : l.length - i = (l.length - (i + 1)) + 1 := by omega
  have hl : ((l.take i).map f).length = i := by
    rw [List.length_map, List.length_take]
    omega
  unfold half
  rw [List.set_append_right _ _ (by omega), hl, Nat.sub_self, e, List.replicate_succ, List.set_cons_zero, List.take_succ_eq_append_getElem h, List.map_append, List.append_assoc]
  rfl
theorem markText_loop (n : Nat) : ∀ (x : ByteArray), n ≤ 1099511627776 → x.size + n ≤ 4611686018427387903 → ∃ s, Ev (fun k => laws_markText.l0 k (n : Int) x) s := by
  induction n using Nat.strongRecOn with
  | _ n ih =>
    intro x hn hx
    by_cases h : (n : Int) > 0
    · have ed : Int.tdiv (n : Int) 10 = ((n / 10 : Nat) : Int) := by
        rw [Int.tdiv_eq_ediv_of_nonneg (by omega)]
        omega
      have es : (strOfNums [(wrap64 (48 + (Int.tmod (n : Int) 10))) % 256]).size = 1 := rfl
      obtain ⟨s, hs⟩ := ih (n / 10) (by omega) (strOfNums [(wrap64 (48 + (Int.tmod (n : Int) 10))) % 256] ++ x) (by omega) (by rw [ByteArray.size_append, es]; omega)
      refine ⟨s, Ev.step (fun k => rfl) (Ev.iteT h (Ev.bind0 rfl (Ev.iteT (by rw [es]; omega) ?_)))⟩
      rw [ed, wrapI (by omega)]
      exact hs
    · exact ⟨_, Ev.step (fun k => rfl) (Ev.iteF h (Ev.iteT (by omega) (Ev.some_ rfl)))⟩
theorem markText_ev (n : Int) (h0 : 0 ≤ n) (h1 : n ≤ 1099511627776) : ∃ s, Ev (fun k => laws_markText.f k n) s := by
  unfold laws_markText.f
  by_cases h : n ≤ 0
  · exact ⟨_, Ev.iteT h (Ev.some_ rfl)⟩
  · obtain ⟨m, rfl⟩ := Int.eq_ofNat_of_zero_le h0
    obtain ⟨s, hs⟩ := markText_loop m ⟨#[]⟩ (by omega) (by show 0 + m ≤ _; omega)
    exact ⟨s, Ev.iteF h hs⟩
/-- A list holds its marks from number a on. -/
def HoldsMarks (l : List ByteArray) (a : Int) : Prop := ∀ (i : Nat) (h : i < l.length), Ev (fun k => laws_markText.f k (a + i)) l[i]
theorem heldStringS_loop (l : List ByteArray) (a : Int) (ha : 0 ≤ a) (hb : a + l.length ≤ 1099511627776) (hh : HoldsMarks l a) : ∀ (d i : Nat), i + d = l.length →
    Ev (fun k => laws_heldStringS.l0 k l (a + i) (i : Int)) (a + l.length) := by
  intro d
  induction d with
  | zero =>
    intro i hd
    exact Ev.step (fun k => rfl) (Ev.iteF (by omega) (Ev.some_ (by rw [show i = l.length by omega])))
  | succ d ih =>
    intro i hd
    have hi : i < l.length := by omega
    refine Ev.step (fun k => rfl) (Ev.iteT (by omega) (Ev.iteT (by omega) (Ev.bind (hh i hi) (Ev.iteT (by rw [rdOf_nat _ _ _ hi]) ?_))))
    rw [wrapN (by omega), wrapI (x := a + i + 1) (by omega)]
    have := ih (i + 1) (by omega)
    rw [show a + ((i + 1 : Nat) : Int) = a + i + 1 by omega] at this
    exact this
theorem heldStringS_ev (l : List ByteArray) (a : Int) (ha : 0 ≤ a) (hb : a + l.length ≤ 1099511627776) (hh : HoldsMarks l a) : Ev (fun k => laws_heldStringS.f k l a) (a + l.length) := by
  have := heldStringS_loop l a ha hb hh l.length 0 (by omega)
  simp only [Int.natCast_zero, Int.add_zero] at this
  exact this
theorem markStringS_loop (n : Nat) (a : Int) (ha : 0 ≤ a) (hb : a + n ≤ 1099511627776) : ∀ (d i : Nat) (l : List ByteArray), i + d = n → l.length = n → (∀ (j : Nat) (h : j < l.length), j < i → Ev (fun k => laws_markText.f k (a + j)) l[j]) →
    ∃ m, Ev (fun k => laws_markStringS.l0 k l (a + i) (i : Int)) (a + n, m) ∧ m.length = n ∧ HoldsMarks m a := by
  intro d
  induction d with
  | zero =>
    intro i l hd hl hh
    exact ⟨l, Ev.step (fun k => rfl) (Ev.iteF (by omega) (Ev.some_ (by rw [show i = n by omega]))), hl, fun j hj => hh j hj (by omega)⟩
  | succ d ih =>
    intro i l hd hl hh
    have hi : i < l.length := by omega
    obtain ⟨s, hs⟩ := markText_ev (a + i) (by omega) (by omega)
    obtain ⟨m, hm, h1, h2⟩ := ih (i + 1) (l.set i s) (by omega) (by rw [List.length_set]; exact hl) (fun j hj hlt => by
      rw [List.getElem_set]
      by_cases e : i = j
      · subst e
        rw [if_pos rfl]
        exact hs
      · rw [if_neg e]
        exact hh j (by rw [List.length_set] at hj; exact hj) (by omega))
    refine ⟨m, Ev.step (fun k => rfl) (Ev.iteT (by omega) (Ev.bind hs (Ev.iteT (by omega) ?_))), h1, h2⟩
    rw [wrapN (by omega), wrapI (x := a + i + 1) (by omega), Int.toNat_natCast]
    rw [show a + ((i + 1 : Nat) : Int) = a + i + 1 by omega] at hm
    exact hm
theorem markStringS_ev (l : List ByteArray) (a : Int) (ha : 0 ≤ a) (hb : a + l.length ≤ 1099511627776) : ∃ m, Ev (fun k => laws_markStringS.f k l a) (a + l.length, m) ∧ m.length = l.length ∧ HoldsMarks m a := by
  obtain ⟨m, h1, h2, h3⟩ := markStringS_loop l.length a ha hb l.length 0 l (by omega) rfl (fun j hj h => absurd h (by omega))
  refine ⟨m, ?_, h2, h3⟩
  simp only [Int.natCast_zero, Int.add_zero] at h1
  exact h1
theorem markPastS_loop (n : Nat) (a : Int) (ha : 0 ≤ a) (hb : a + 3 * n ≤ 1099511627776) : ∀ (d i : Nat) (l : List S54), i + d = n → l.length = n →
    ∃ m, Ev (fun k => laws_markPastS.l0 k l (a + 3 * i) (i : Int)) (a + 3 * n, m) := by
  intro d
  induction d with
  | zero =>
    intro i l hd hl
    exact ⟨l, Ev.step (fun k => rfl) (Ev.iteF (by omega) (Ev.some_ (by rw [show i = n by omega])))⟩
  | succ d ih =>
    intro i l hd hl
    have hi : i < l.length := by omega
    obtain ⟨s, hs⟩ := markText_ev (a + 3 * i) (by omega) (by omega)
    have e1 : wrap64 (a + 3 * (i : Int) + 1) = a + 3 * (i : Int) + 1 := wrapI (by omega)
    have e2 : wrap64 (a + 3 * (i : Int) + 1 + 1) = a + 3 * (i : Int) + 2 := by rw [wrapI (by omega)]; omega
    have e3 : wrap64 (a + 3 * (i : Int) + 2 + 1) = a + 3 * ((i + 1 : Nat) : Int) := by rw [wrapI (by omega)]; omega
    have ih' := fun (l2 : List S54) (h : l2.length = n) => (ih (i + 1) l2 (by omega) h).choose_spec
    apply Exists.intro
    refine Ev.step (fun k => rfl) (Ev.iteT (by omega) (Ev.bind hs (Ev.iteT (by omega) (Ev.bind0 rfl (Ev.bind0 rfl ?_)))))
    rw [wrapN (by omega), e1, e2, e3]
    exact ih' _ (by rw [List.length_set, List.length_set, List.length_set]; exact hl)
theorem markPastS_ev (l : List S54) (a : Int) (ha : 0 ≤ a) (hb : a + 3 * l.length ≤ 1099511627776) : ∃ m, Ev (fun k => laws_markPastS.f k l a) (a + 3 * l.length, m) := by
  obtain ⟨m, hm⟩ := markPastS_loop l.length a ha hb l.length 0 l (by omega) rfl
  refine ⟨m, ?_⟩
  simp only [Int.natCast_zero, Int.mul_zero, Int.add_zero] at hm
  exact hm
theorem rdPL_nat (l : List S66) (i : Nat) (h : i < l.length) : rd_T66 l (i : Int) = l[i] := by
  unfold rd_T66
  exact getD_nat _ _ _ h
/-- A list that a law lets by: short, and of short texts. -/
structure FewPast (l : List S66) : Prop where
  len : l.length ≤ 1048576
  ids : ∀ q ∈ l, q.f0.size ≤ 1048576
theorem szPastS_loop (l : List S66) (hl : l.length ≤ 1048576) (hz : ∀ q ∈ l, q.f0.size ≤ maxLen) : ∀ (t : List S66) (i : Nat) (left : Int), l.drop i = t → i ≤ l.length → 0 ≤ left → left ≤ 1048576 →
    ∃ r, Ev (fun k => laws_szPastS.l0 k l left (i : Int)) r ∧ r ≤ 1048576 ∧ (0 ≤ r → ∀ q ∈ t, q.f0.size ≤ 1048576) := by
  intro t
  induction t with
  | nil =>
    intro i left h hi h0 h1
    have hl2 := drop_nil h
    exact ⟨left, Ev.step (fun k => rfl) (Ev.iteF (by omega) (Ev.some_ rfl)), h1, fun _ q hq => by cases hq⟩
  | cons q t ih =>
    intro i left h hi h0 h1
    obtain ⟨hl2, hb, ht⟩ := drop_cons h
    have hq : q.f0.size ≤ maxLen := hz q (hb ▸ List.getElem_mem hl2)
    unfold maxLen at hq
    have ew : wrap64 (left - (q.f0.size : Int)) = left - q.f0.size := wrapI (by omega)
    by_cases c : left - q.f0.size < 0
    · refine ⟨-1, Ev.step (fun k => rfl) (Ev.iteT (by omega) (Ev.iteT (by omega) ?_)), by omega, fun h => by omega⟩
      rw [rdPL_nat _ _ hl2, hb]
      refine Ev.bind0 (show laws_szPast.f _ _ _ _ = some (-1) from by unfold laws_szPast.f; rw [ew, if_pos c]) (Ev.iteT (by omega) (Ev.some_ rfl))
    · obtain ⟨r, hr, h2, h3⟩ := ih (i + 1) (left - q.f0.size) ht (by omega) (by omega) (by omega)
      refine ⟨r, Ev.step (fun k => rfl) (Ev.iteT (by omega) (Ev.iteT (by omega) ?_)), h2, fun h0 p hp => ?_⟩
      · rw [rdPL_nat _ _ hl2, hb]
        refine Ev.bind0 (show laws_szPast.f _ _ _ _ = some (left - q.f0.size) from by unfold laws_szPast.f; rw [ew, if_neg c]) (Ev.iteF (by omega) ?_)
        rw [wrapN (by omega)]
        exact hr
      · rcases List.mem_cons.1 hp with rfl | hp
        · omega
        · exact h3 h0 p hp
theorem szPastS_ev (l : List S66) (hl : l.length ≤ maxLen) (hz : ∀ q ∈ l, q.f0.size ≤ maxLen) (left : Int) (h0 : 0 ≤ left) (h1 : left ≤ 1048576) :
    ∃ r, Ev (fun k => laws_szPastS.f k l left) r ∧ r ≤ 1048576 ∧ (0 ≤ r → FewPast l) := by
  unfold maxLen at hl
  have ew : wrap64 (left - (l.length : Int)) = left - l.length := wrapI (by omega)
  unfold laws_szPastS.f
  rw [ew]
  by_cases c : left - l.length < 0
  · exact ⟨-1, Ev.iteT c (Ev.some_ rfl), by omega, fun h => by omega⟩
  · obtain ⟨r, hr, h2, h3⟩ := szPastS_loop l (by omega) hz l 0 (left - l.length) rfl (Nat.zero_le _) (by omega) (by omega)
    exact ⟨r, Ev.iteF c hr, h2, fun h => ⟨by omega, h3 h⟩⟩
def toP (q : S66) : S54 := ⟨q.f0, q.f1, q.f2⟩
theorem toPastS_loop (l : List S66) (hl : l.length ≤ 1048576) : ∀ (d i : Nat), i + d = l.length →
    Ev (fun k => laws_toPastS.l0 k l (half toP z54 l i) (i : Int)) (l.map toP) := by
  intro d
  induction d with
  | zero =>
    intro i hd
    obtain rfl : i = l.length := by omega
    exact Ev.step (fun k => rfl) (Ev.iteF (by omega) (Ev.some_ (half_full _ _ _)))
  | succ d ih =>
    intro i hd
    have hi : i < l.length := by omega
    refine Ev.step (fun k => rfl) (Ev.iteT (by omega) (Ev.iteT (by omega) ?_))
    rw [rdPL_nat _ _ hi]
    refine Ev.bind0 rfl (Ev.iteT (by rw [half_length _ _ _ _ (by omega)]; omega) ?_)
    rw [wrapN (by omega), Int.toNat_natCast]
    have := ih (i + 1) (by omega)
    rw [← half_set toP _ l i hi] at this
    exact this
theorem toPastS_ev (l : List S66) (hl : l.length ≤ 1048576) : Ev (fun k => laws_toPastS.f k l) (l.map toP) := by
  unfold laws_toPastS.f
  rw [Int.toNat_natCast]
  have := toPastS_loop l hl l.length 0 (by omega)
  rw [half_zero] at this
  exact Ev.iteT (by omega) (Ev.iteT (by omega) this)
theorem FewPast.small {l : List S66} (h : FewPast l) : (l.map toP).length ≤ 1048576 ∧ ∀ q ∈ l.map toP, q.f0.size ≤ 1048576 :=
  ⟨by rw [List.length_map]; exact h.len, fun q hq => by obtain ⟨p, hp, rfl⟩ := List.mem_map.1 hq; exact h.ids p hp⟩
theorem eqPast_self (q : S54) : laws_eqPast.f q.f0 q.f1 q.f2 q.f0 q.f1 q.f2 = some true := by
  unfold laws_eqPast.f
  rw [if_pos rfl, if_neg (by simp), if_pos rfl]
theorem eqPastS_loop (l : List S54) (hl : l.length ≤ 1048576) : ∀ (d i : Nat), i + d = l.length → Ev (fun k => laws_eqPastS.l0 k l l (i : Int)) true := by
  intro d
  induction d with
  | zero =>
    intro i hd
    exact Ev.step (fun k => rfl) (Ev.iteF (by omega) (Ev.some_ rfl))
  | succ d ih =>
    intro i hd
    refine Ev.step (fun k => rfl) (Ev.iteT (by omega) (Ev.iteT (by omega) (Ev.iteT (by omega) (Ev.bind0 (eqPast_self _) (Ev.iteT rfl ?_)))))
    rw [wrapN (by omega)]
    exact ih (i + 1) (by omega)
theorem eqPastS_ev (l : List S54) (hl : l.length ≤ 1048576) : Ev (fun k => laws_eqPastS.f k l l) true := by
  unfold laws_eqPastS.f
  exact Ev.iteT rfl (eqPastS_loop l hl l.length 0 (by omega))
structure FewText (l : List ByteArray) : Prop where
  len : l.length ≤ 1048576
  ids : ∀ q ∈ l, q.size ≤ 1048576
theorem FewText.sizes {l : List ByteArray} (h : FewText l) : SizesOk l := fun x hx => by have := h.ids x hx; omega
theorem szStringS_loop (l : List ByteArray) (hl : l.length ≤ 1048576) (hz : ∀ q ∈ l, q.size ≤ maxLen) : ∀ (t : List ByteArray) (i : Nat) (left : Int), l.drop i = t → i ≤ l.length → 0 ≤ left → left ≤ 1048576 →
    ∃ r, Ev (fun k => laws_szStringS.l0 k l left (i : Int)) r ∧ r ≤ 1048576 ∧ (0 ≤ r → ∀ q ∈ t, q.size ≤ 1048576) := by
  intro t
  induction t with
  | nil =>
    intro i left h hi h0 h1
    have hl2 := drop_nil h
    exact ⟨left, Ev.step (fun k => rfl) (Ev.iteF (by omega) (Ev.some_ rfl)), h1, fun _ q hq => by cases hq⟩
  | cons q t ih =>
    intro i left h hi h0 h1
    obtain ⟨hl2, hb, ht⟩ := drop_cons h
    have hq : q.size ≤ maxLen := hz q (hb ▸ List.getElem_mem hl2)
    unfold maxLen at hq
    have ew : wrap64 (left - (q.size : Int)) = left - q.size := wrapI (by omega)
    by_cases c : left - q.size < 0
    · refine ⟨-1, Ev.step (fun k => rfl) (Ev.iteT (by omega) (Ev.iteT (by omega) ?_)), by omega, fun h => by omega⟩
      rw [rdOf_nat _ _ _ hl2, hb, ew]
      exact Ev.iteT c (Ev.some_ rfl)
    · obtain ⟨r, hr, h2, h3⟩ := ih (i + 1) (left - q.size) ht (by omega) (by omega) (by omega)
      refine ⟨r, Ev.step (fun k => rfl) (Ev.iteT (by omega) (Ev.iteT (by omega) ?_)), h2, fun h0 p hp => ?_⟩
      · rw [rdOf_nat _ _ _ hl2, hb, ew, wrapN (by omega)]
        exact Ev.iteF c hr
      · rcases List.mem_cons.1 hp with rfl | hp
        · omega
        · exact h3 h0 p hp
theorem szStringS_ev (l : List ByteArray) (hl : l.length ≤ maxLen) (hz : ∀ q ∈ l, q.size ≤ maxLen) (left : Int) (h0 : 0 ≤ left) (h1 : left ≤ 1048576) :
    ∃ r, Ev (fun k => laws_szStringS.f k l left) r ∧ r ≤ 1048576 ∧ (0 ≤ r → FewText l) := by
  unfold maxLen at hl
  have ew : wrap64 (left - (l.length : Int)) = left - l.length := wrapI (by omega)
  unfold laws_szStringS.f
  rw [ew]
  by_cases c : left - l.length < 0
  · exact ⟨-1, Ev.iteT c (Ev.some_ rfl), by omega, fun h => by omega⟩
  · obtain ⟨r, hr, h2, h3⟩ := szStringS_loop l (by omega) hz l 0 (left - l.length) rfl (Nat.zero_le _) (by omega) (by omega)
    exact ⟨r, Ev.iteF c hr, h2, fun h => ⟨by omega, h3 h⟩⟩
theorem toStringS_loop (l : List ByteArray) (hl : l.length ≤ 1048576) : ∀ (d i : Nat), i + d = l.length →
    Ev (fun k => laws_toStringS.l0 k l (half id (⟨#[]⟩ : ByteArray) l i) (i : Int)) l := by
  intro d
  induction d with
  | zero =>
    intro i hd
    obtain rfl : i = l.length := by omega
    exact Ev.step (fun k => rfl) (Ev.iteF (by omega) (Ev.some_ (by rw [half_full]; simp)))
  | succ d ih =>
    intro i hd
    have hi : i < l.length := by omega
    refine Ev.step (fun k => rfl) (Ev.iteT (by omega) (Ev.iteT (by omega) ?_))
    rw [rdOf_nat _ _ _ hi]
    refine Ev.iteT (by rw [half_length _ _ _ _ (by omega)]; omega) ?_
    rw [wrapN (by omega), Int.toNat_natCast]
    have := ih (i + 1) (by omega)
    rw [← half_set id _ l i hi] at this
    exact this
theorem toStringS_ev (l : List ByteArray) (hl : l.length ≤ 1048576) : Ev (fun k => laws_toStringS.f k l) l := by
  unfold laws_toStringS.f
  rw [Int.toNat_natCast]
  have := toStringS_loop l hl l.length 0 (by omega)
  rw [half_zero] at this
  exact Ev.iteT (by omega) (Ev.iteT (by omega) this)
theorem eqStringS_loop (l : List ByteArray) (hl : l.length ≤ 4611686018427387903) : ∀ (d i : Nat), i + d = l.length → Ev (fun k => laws_eqStringS.l0 k l l (i : Int)) true := by
  intro d
  induction d with
  | zero =>
    intro i hd
    exact Ev.step (fun k => rfl) (Ev.iteF (by omega) (Ev.some_ rfl))
  | succ d ih =>
    intro i hd
    refine Ev.step (fun k => rfl) (Ev.iteT (by omega) (Ev.iteT (by omega) (Ev.iteT (by omega) (Ev.iteT rfl ?_))))
    rw [wrapN (by omega)]
    exact ih (i + 1) (by omega)
theorem eqStringS_ev (l : List ByteArray) (hl : l.length ≤ 4611686018427387903) : Ev (fun k => laws_eqStringS.f k l l) true := by
  unfold laws_eqStringS.f
  exact Ev.iteT rfl (eqStringS_loop l hl l.length 0 (by omega))
end Go.Proofs.Ytphjcoondlhefaa.Q
