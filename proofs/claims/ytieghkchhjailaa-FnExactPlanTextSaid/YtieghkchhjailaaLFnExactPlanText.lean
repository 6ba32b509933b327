/- Plain laws, without Go, that the law FnExactPlanText leans on. No condition. -/
import Derived.Test.YtieghkchhjailaaPx0
import Derived.Test.YtieghkchhjailaaPx2
import Derived.Test.YtieghkchhjailaaPx4
import Derived.Test.YtieghkchhjailaaPx5
import Derived.Test.YtieghkchhjailaaPx6
import Derived.Test.YtieghkchhjailaaPx7
import Derived.Test.YtieghkchhjailaaPx8
import Derived.Test.YtieghkchhjailaaWMore
import Derived.IntWalk
import Derived.Lib.Bytealg
import Derived.Lib.Strings
set_option linter.unusedSimpArgs false
set_option linter.unusedVariables false
namespace Go.Proofs.Ytieghkchhjailaa.P
open Go.RowKit Go.Proofs.YtieghkchhjailaaW.PrintWords Go.Proofs.YtieghkchhjailaaW.PrintLast Go.Proofs.YtieghkchhjailaaW.PrintMore
theorem Ev.iteT {α : Type} {c : Prop} [Decidable c] {g f : Nat → Option α} {r : α} (h : c) (k : Ev g r) : Ev (fun n => if c then g n else f n) r := by
  simpa only [if_pos h] using k
theorem Ev.iteF {α : Type} {c : Prop} [Decidable c] {g f : Nat → Option α} {r : α} (h : ¬ c) (k : Ev f r) : Ev (fun n => if c then g n else f n) r := by
  simpa only [if_neg h] using k
/-- A callee without rounds. -/
theorem Ev.bind0 {α β : Type} {g : Option α} {f : Nat → α → Option β} {a : α} {r : β} (h : g = some a) (k : Ev (fun n => f n a) r) : Ev (fun n => g.bind (f n)) r := by
  subst h
  simpa only [Option.bind_some] using k
theorem Ev.some_ {α : Type} {x r : α} (h : x = r) : Ev (fun _ => some x) r := ⟨0, fun _ _ => by rw [h]⟩
theorem Ev.bool {b r : Bool} (h : b = r) : Ev (fun _ => some b) r := Ev.some_ h
theorem wrapN {i : Nat} (h : i < 4611686018427387904) : wrap64 ((i : Int) + 1) = ((i + 1 : Nat) : Int) := by
  unfold wrap64
  omega
theorem wrapI {x : Int} (h : -9223372036854775808 ≤ x ∧ x ≤ 9223372036854775807) : wrap64 x = x := by
  unfold wrap64
  omega
theorem getD_nat {α : Type} (d : α) (l : List α) (i : Nat) (h : i < l.length) : l.getD (i : Int).toNat d = l[i] := by
  simp [List.getD_eq_getElem?_getD, List.getElem?_eq_getElem h]
theorem size_list (s : ByteArray) : s.data.toList.length = s.size := by rw [Array.length_toList]; rfl
theorem bt_nat (s : ByteArray) (i : Nat) (h : i < s.data.toList.length) : bt s (i : Int) = ((s.data.toList[i]).toNat : Int) := by
  have h' : i < s.size := by rw [← size_list]; exact h
  unfold bt
  rw [dif_pos (by simpa using h')]
  rfl
/-- A list seen from place i on. -/
theorem drop_cons {α : Type} {l : List α} {i : Nat} {b : α} {t : List α} (h : l.drop i = b :: t) : ∃ hi : i < l.length, l[i] = b ∧ l.drop (i + 1) = t := by
  have hi : i < l.length := by
    rcases Nat.lt_or_ge i l.length with h1 | h1
    · exact h1
    · rw [List.drop_of_length_le h1] at h
      cases h
  refine ⟨hi, ?_, ?_⟩
  · rw [List.drop_eq_getElem_cons hi] at h
    exact (List.cons.inj h).1
  · rw [List.drop_eq_getElem_cons hi] at h
    exact (List.cons.inj h).2
theorem drop_nil {α : Type} {l : List α} {i : Nat} (h : l.drop i = []) : l.length ≤ i := by
  have := congrArg List.length h
  rw [List.length_drop] at this
  simpa using Nat.sub_eq_zero_iff_le.1 this
def lowB (b : UInt8) : Bool := decide (97 ≤ (b.toNat : Int)) && decide ((b.toNat : Int) ≤ 122)
/-- What is asked of a name behind its letters. -/
def nameEnd (s : ByteArray) : Bool := decide (1 ≤ s.size) && (decide (s.size ≤ 6) && (s.toList != ([97, 110, 100] : List UInt8) && (s.toList != ([111, 114] : List UInt8) && s.toList != ([110, 111, 116] : List UInt8))))
def nameS (s : ByteArray) : Bool := s.data.toList.all lowB && nameEnd s
theorem nameOk_loop (s : ByteArray) (hs : s.size ≤ 4611686018427387903) : ∀ (t : List UInt8) (i : Nat), s.data.toList.drop i = t → i ≤ s.size →
    Ev (fun k => impl_nameOk.l0 k s (s.size : Int) (i : Int)) (t.all lowB && nameEnd s) := by
  intro t
  induction t with
  | nil =>
    intro i h hi
    have hl := drop_nil h
    rw [size_list] at hl
    refine Ev.step (fun k => rfl) (Ev.iteF (by omega) ?_)
    simp only [List.all_nil, Bool.true_and]
    unfold nameEnd
    by_cases h1 : 1 ≤ s.size
    · refine Ev.iteT (by omega) ?_
      by_cases h2 : s.size ≤ 6
      · refine Ev.iteT (by omega) ?_
        by_cases h3 : s.toList = ([97, 110, 100] : List UInt8)
        · exact Ev.iteT h3 (Ev.bool (by simp [h3]))
        · refine Ev.iteF h3 ?_
          by_cases h4 : s.toList = ([111, 114] : List UInt8)
          · exact Ev.iteT h4 (Ev.bool (by simp [h4]))
          · exact Ev.iteF h4 (Ev.bool (by simp [h1, h2, bne_iff_ne.2 h3, bne_iff_ne.2 h4]))
      · exact Ev.iteF (by omega) (Ev.bool (by simp [h2]))
    · exact Ev.iteF (by omega) (Ev.bool (by simp [h1]))
  | cons b t ih =>
    intro i h hi
    obtain ⟨hl, hb, ht⟩ := drop_cons h
    have hl' := hl
    rw [size_list] at hl'
    refine Ev.step (fun k => rfl) (Ev.iteT (by omega) (Ev.iteT (by omega) (Ev.iteT (by omega) ?_)))
    rw [bt_nat s i hl, hb]
    by_cases h1 : (b.toNat : Int) < 97
    · exact Ev.iteT h1 (Ev.bool (by simp [lowB]; omega))
    · refine Ev.iteF h1 ?_
      by_cases h2 : (b.toNat : Int) > 122
      · exact Ev.iteT h2 (Ev.bool (by simp [lowB]; omega))
      · refine Ev.iteF h2 ?_
        rw [wrapN (by omega)]
        have := ih (i + 1) ht (by omega)
        have e : lowB b = true := by simp [lowB]; omega
        simpa [List.all_cons, e] using this
theorem nameOk_ev (s : ByteArray) (hs : s.size ≤ 4611686018427387903) : Ev (fun k => impl_nameOk.f k s) (nameS s) :=
  nameOk_loop s hs _ 0 rfl (Nat.zero_le _)
theorem inRange_ev (a b c : Int) : spec_inRange.f a b c = some (decide (b ≤ a ∧ a ≤ c)) := by
  unfold spec_inRange.f
  by_cases h : b ≤ a
  · rw [if_pos h]
    simp [h]
  · rw [if_neg h]
    simp [h]
theorem validName_loop (s : ByteArray) (hs : s.size ≤ 4611686018427387903) : ∀ (t : List UInt8) (i : Nat), s.data.toList.drop i = t → i ≤ s.size →
    Ev (fun k => spec_validName.l0 k s (i : Int)) (t.all lowB && nameEnd s) := by
  intro t
  induction t with
  | nil =>
    intro i h hi
    have hl := drop_nil h
    rw [size_list] at hl
    refine Ev.step (fun k => rfl) (Ev.iteF (by omega) (Ev.bind0 (inRange_ev _ _ _) ?_))
    simp only [List.all_nil, Bool.true_and]
    unfold nameEnd
    by_cases h1 : 1 ≤ s.size
    · by_cases h2 : s.size ≤ 6
      · refine Ev.iteT (by simp; omega) ?_
        by_cases h3 : s.toList = ([97, 110, 100] : List UInt8)
        · exact Ev.iteT h3 (Ev.bool (by simp [h3]))
        · refine Ev.iteF h3 ?_
          by_cases h4 : s.toList = ([111, 114] : List UInt8)
          · exact Ev.iteT h4 (Ev.bool (by simp [h4]))
          · exact Ev.iteF h4 (Ev.bool (by simp [h1, h2, bne_iff_ne.2 h3, bne_iff_ne.2 h4]))
      · exact Ev.iteF (by simp; omega) (Ev.bool (by simp [h2]))
    · exact Ev.iteF (by simp; omega) (Ev.bool (by simp [h1]))
  | cons b t ih =>
    intro i h hi
    obtain ⟨hl, hb, ht⟩ := drop_cons h
    have hl' := hl
    rw [size_list] at hl'
    refine Ev.step (fun k => rfl) (Ev.iteT (by omega) (Ev.iteT (by omega) ?_))
    rw [bt_nat s i hl, hb]
    by_cases h1 : (b.toNat : Int) < 97
    · exact Ev.iteT h1 (Ev.bool (by simp [lowB]; omega))
    · refine Ev.iteF h1 ?_
      by_cases h2 : (b.toNat : Int) > 122
      · exact Ev.iteT h2 (Ev.bool (by simp [lowB]; omega))
      · refine Ev.iteF h2 ?_
        rw [wrapN (by omega)]
        have := ih (i + 1) ht (by omega)
        have e : lowB b = true := by simp [lowB]; omega
        simpa [List.all_cons, e] using this
theorem validName_ev (s : ByteArray) (hs : s.size ≤ 4611686018427387903) : Ev (fun k => spec_validName.f k s) (nameS s) :=
  validName_loop s hs _ 0 rfl (Nat.zero_le _)
theorem extract_size_le (s : ByteArray) (a b : Nat) : (s.extract a b).size ≤ s.size := by
  rw [ByteArray.size_extract]
  omega
theorem indexByte_cons (b : UInt8) (l : List UInt8) (c : UInt8) : Lib.indexByte (b :: l) c = if b = c then 0 else if Lib.indexByte l c < 0 then -1 else Lib.indexByte l c + 1 := by
  have hg := Lib.indexByte_ge l c
  rw [Lib.indexByte]
  by_cases h : b = c
  · simp [h]
  · have h1 : (b == c) = false := by simpa using h
    rw [h1, if_neg h]
    simp only [Bool.false_eq_true, if_false]
    by_cases h2 : Lib.indexByte l c = -1
    · rw [h2]
      simp
    · have h3 : (Lib.indexByte l c == -1) = false := by simpa using h2
      have h4 : ¬ Lib.indexByte l c < 0 := by omega
      rw [h3, if_neg h4]
      simp
theorem indexByte_lt (l : List UInt8) (c : UInt8) : Lib.indexByte l c < l.length := by
  induction l with
  | nil => simp [Lib.indexByte]
  | cons b l ih =>
    rw [indexByte_cons]
    have hg := Lib.indexByte_ge l c
    simp only [List.length_cons]
    split
    · omega
    · split <;> omega
/-- Where the first point stands, and whether both sides of it are names. -/
def idS (s : ByteArray) : Bool := decide (0 ≤ Lib.indexByte s.data.toList 46) && (nameS (s.extract 0 (Lib.indexByte s.data.toList 46).toNat) && nameS (s.extract ((Lib.indexByte s.data.toList 46).toNat + 1) s.size))
theorem stringsCut_at (s : ByteArray) (c : UInt8) (hs : s.size ≤ 4611686018427387903) :
    strings_Cut.f s ⟨#[c]⟩ = some (if 0 ≤ Lib.indexByte s.data.toList c then (s.extract 0 (Lib.indexByte s.data.toList c).toNat, s.extract ((Lib.indexByte s.data.toList c).toNat + 1) s.size, true) else (s, ⟨#[]⟩, false)) := by
  have hg := Lib.indexByte_ge s.data.toList c
  have hl := indexByte_lt s.data.toList c
  rw [size_list] at hl
  have e1 : (⟨#[c]⟩ : ByteArray).size = 1 := rfl
  have e : stringslite_Index.f s ⟨#[c]⟩ = some (Lib.indexByte s.data.toList c) := rfl
  unfold strings_Cut.f stringslite_Cut.f
  rw [e]
  simp only [Option.bind_some, e1]
  generalize Lib.indexByte s.data.toList c = i at hg hl ⊢
  by_cases h : 0 ≤ i
  · have ew : wrap64 (i + ((1 : Nat) : Int)) = ((i.toNat + 1 : Nat) : Int) := by unfold wrap64; omega
    rw [if_pos h, if_pos h, if_pos (by omega), ew, if_pos (by omega), if_pos (by omega), if_pos h, Int.toNat_natCast]
    rfl
  · rw [if_neg h, if_neg h]
    rfl
theorem idOk_ev (s : ByteArray) (hs : s.size ≤ 4611686018427387903) : Ev (fun k => impl_idOk.f k s) (idS s) := by
  unfold impl_idOk.f idS
  refine Ev.bind0 (stringsCut_at s 46 hs) ?_
  by_cases h : 0 ≤ Lib.indexByte s.data.toList 46
  · simp only [if_pos h]
    have n1 := nameOk_ev (s.extract 0 (Lib.indexByte s.data.toList 46).toNat) (by have := extract_size_le s 0 (Lib.indexByte s.data.toList 46).toNat; omega)
    have n2 := nameOk_ev (s.extract ((Lib.indexByte s.data.toList 46).toNat + 1) s.size) (by have := extract_size_le s ((Lib.indexByte s.data.toList 46).toNat + 1) s.size; omega)
    refine Ev.iteT (by trivial) (Ev.bind n1 ?_)
    cases hn : nameS (s.extract 0 (Lib.indexByte s.data.toList 46).toNat) with
    | true => exact Ev.iteT rfl (Ev.bind n2 (Ev.bool (by simp [h])))
    | false => exact Ev.iteF (by simp) (Ev.bool (by simp))
  · simp only [if_neg h]
    exact Ev.iteF (by simp) (Ev.bool (by simp [h]))
theorem validId_loop (s : ByteArray) (hs : s.size ≤ 4611686018427387903) : ∀ (t : List UInt8) (i : Nat), s.data.toList.drop i = t → i ≤ s.size →
    Ev (fun k => spec_validId.l0 k s (i : Int)) (decide (0 ≤ Lib.indexByte t 46) && (nameS (s.extract 0 (i + (Lib.indexByte t 46).toNat)) && nameS (s.extract (i + (Lib.indexByte t 46).toNat + 1) s.size))) := by
  intro t
  induction t with
  | nil =>
    intro i h hi
    have hl := drop_nil h
    rw [size_list] at hl
    exact Ev.step (fun k => rfl) (Ev.iteF (by omega) (Ev.bool (by simp [Lib.indexByte])))
  | cons b t ih =>
    intro i h hi
    obtain ⟨hl, hb, ht⟩ := drop_cons h
    have hl' := hl
    rw [size_list] at hl'
    refine Ev.step (fun k => rfl) (Ev.iteT (by omega) (Ev.iteT (by omega) ?_))
    rw [bt_nat s i hl, hb]
    by_cases h1 : b = 46
    · subst h1
      refine Ev.iteT (by decide) (Ev.iteT (by omega) ?_)
      have n1 := validName_ev (s.extract 0 i) (by have := extract_size_le s 0 i; omega)
      have n2 := validName_ev (s.extract (i + 1) s.size) (by have := extract_size_le s (i + 1) s.size; omega)
      rw [indexByte_cons, if_pos rfl]
      simp only [Int.toNat_natCast, Int.toNat_zero, Nat.add_zero, Int.le_refl, decide_true, Bool.true_and]
      refine Ev.bind n1 ?_
      rw [wrapN (by omega)]
      cases hn : nameS (s.extract 0 i) with
      | true =>
        refine Ev.iteT rfl (Ev.iteT (by omega) (Ev.iteT (by omega) ?_))
        rw [Int.toNat_natCast]
        exact Ev.bind n2 (Ev.bool (by simp))
      | false => exact Ev.iteF (by simp) (Ev.bool (by simp))
    · have hne : ¬ (b.toNat : Int) = 46 := fun h2 => h1 (by apply UInt8.toNat.inj; simp; omega)
      refine Ev.iteF hne ?_
      rw [wrapN (by omega)]
      have := ih (i + 1) ht (by omega)
      rw [indexByte_cons, if_neg h1]
      have hg := Lib.indexByte_ge t 46
      by_cases h2 : Lib.indexByte t 46 < 0
      · rw [if_pos h2]
        rw [show decide (0 ≤ Lib.indexByte t 46) = false from decide_eq_false (by omega)] at this
        simpa using this
      · rw [if_neg h2]
        have e1 : (Lib.indexByte t 46 + 1).toNat = (Lib.indexByte t 46).toNat + 1 := by omega
        rw [e1, show i + ((Lib.indexByte t 46).toNat + 1) = i + 1 + (Lib.indexByte t 46).toNat from by omega, show decide (0 ≤ Lib.indexByte t 46 + 1) = true from decide_eq_true (by omega)]
        rw [show decide (0 ≤ Lib.indexByte t 46) = true from decide_eq_true (by omega)] at this
        exact this
theorem validId_ev (s : ByteArray) (hs : s.size ≤ 4611686018427387903) : Ev (fun k => spec_validId.f k s) (idS s) := by
  have := validId_loop s hs _ 0 rfl (Nat.zero_le _)
  simp only [Nat.zero_add] at this
  exact this
/-- What a copy holds after i rounds. -/
def half {α β : Type} (f : α → β) (z : β) (l : List α) (i : Nat) : List β := (l.take i).map f ++ List.replicate (l.length - i) z
theorem half_zero {α β : Type} (f : α → β) (z : β) (l : List α) : half f z l 0 = List.replicate l.length z := by simp [half]
theorem half_full {α β : Type} (f : α → β) (z : β) (l : List α) : half f z l l.length = l.map f := by simp [half]
theorem half_length {α β : Type} (f : α → β) (z : β) (l : List α) (i : Nat) (h : i ≤ l.length) : (half f z l i).length = l.length := by
  simp [half]
  omega
theorem half_set {α β : Type} (f : α → β) (z : β) (l : List α) (i : Nat) (h : i < l.length) : (half f z l i).set i (f l[i]) = half f z l (i + 1) := by
  have e : l.length - i = (l.length - (i + 1)) + 1 := by omega
  have hl : ((l.take i).map f).length = i := by
    rw [List.length_map, List.length_take]
    omega
  unfold half
  rw [List.set_append_right _ _ (by omega), hl, Nat.sub_self, e, List.replicate_succ, List.set_cons_zero, List.take_succ_eq_append_getElem h, List.map_append, List.append_assoc]
  rfl
theorem rdLEvent_nat (l : List S73) (i : Nat) (h : i < l.length) : rd_T73 l (i : Int) = l[i] := by
  unfold rd_T73
  exact getD_nat _ _ _ h
theorem rdIEvent_nat (l : List S70) (i : Nat) (h : i < l.length) : rd_T70 l (i : Int) = l[i] := by
  unfold rd_T70
  exact getD_nat _ _ _ h
structure RawEvent (q : S73) : Prop where
  r1 : q.f1.size ≤ maxLen
structure FewEvent (q : S73) : Prop where
  r1 : q.f1.size ≤ 1048576
theorem szEvent_ev (q : S73) (h : RawEvent q) (left : Int) (h0 : 0 ≤ left) (h1 : left ≤ 1048576) :
    ∃ r, Ev (fun k => laws_szEvent.f q.f0 q.f1 left) r ∧ r ≤ 1048576 ∧ (0 ≤ r → FewEvent q) := by
  unfold laws_szEvent.f
  have hm1 := h.r1
  unfold maxLen at hm1
  have ew1 : wrap64 (left - (q.f1.size : Int)) = (left - (q.f1.size : Int)) := wrapI (by omega)
  rw [ew1]
  by_cases c1 : (left - (q.f1.size : Int)) < 0
  · exact ⟨-1, Ev.iteT c1 (Ev.some_ rfl), by omega, fun h => by omega⟩
  exact ⟨(left - (q.f1.size : Int)), Ev.iteF c1 (Ev.some_ rfl), by omega, fun _ => ⟨by omega⟩⟩
structure FewEventS (l : List S73) : Prop where
  len : l.length ≤ 1048576
  one : ∀ q ∈ l, FewEvent q
theorem szEventS_loop (l : List S73) (hl : l.length ≤ 1048576) (hz : ∀ q ∈ l, RawEvent q) : ∀ (t : List S73) (i : Nat) (left : Int), l.drop i = t → i ≤ l.length → 0 ≤ left → left ≤ 1048576 →
    ∃ r, Ev (fun k => laws_szEventS.l0 k l left (i : Int)) r ∧ r ≤ 1048576 ∧ (0 ≤ r → ∀ q ∈ t, FewEvent q) := by
  intro t
  induction t with
  | nil =>
    intro i left h hi h0 h1
    have hl2 := drop_nil h
    exact ⟨left, Ev.step (fun k => rfl) (Ev.iteF (by omega) (Ev.some_ rfl)), h1, fun _ q hq => by cases hq⟩
  | cons q t ih =>
    intro i left h hi h0 h1
    obtain ⟨hl2, hb, ht⟩ := drop_cons h
    have hq : RawEvent q := hz q (hb ▸ List.getElem_mem hl2)
    obtain ⟨s, hs, hs2, hsf⟩ := szEvent_ev q hq left h0 h1
    by_cases c : s < 0
    · refine ⟨-1, Ev.step (fun k => rfl) (Ev.iteT (by omega) (Ev.iteT (by omega) ?_)), by omega, fun h => by omega⟩
      rw [rdLEvent_nat _ _ hl2, hb]
      exact Ev.bind hs (Ev.iteT c (Ev.some_ rfl))
    · obtain ⟨r, hr, h2, h3⟩ := ih (i + 1) s ht (by omega) (by omega) (by omega)
      refine ⟨r, Ev.step (fun k => rfl) (Ev.iteT (by omega) (Ev.iteT (by omega) ?_)), h2, fun h0 p hp => ?_⟩
      · rw [rdLEvent_nat _ _ hl2, hb]
        refine Ev.bind hs (Ev.iteF c ?_)
        rw [wrapN (by omega)]
        exact hr
      · rcases List.mem_cons.1 hp with rfl | hp
        · exact hsf (by omega)
        · exact h3 h0 p hp
theorem szEventS_ev (l : List S73) (hl : l.length ≤ maxLen) (hz : ∀ q ∈ l, RawEvent q) (left : Int) (h0 : 0 ≤ left) (h1 : left ≤ 1048576) :
    ∃ r, Ev (fun k => laws_szEventS.f k l left) r ∧ r ≤ 1048576 ∧ (0 ≤ r → FewEventS l) := by
  unfold maxLen at hl
  have ew : wrap64 (left - (l.length : Int)) = left - l.length := wrapI (by omega)
  unfold laws_szEventS.f
  rw [ew]
  by_cases c : left - l.length < 0
  · exact ⟨-1, Ev.iteT c (Ev.some_ rfl), by omega, fun h => by omega⟩
  · obtain ⟨r, hr, h2, h3⟩ := szEventS_loop l (by omega) hz l 0 (left - l.length) rfl (Nat.zero_le _) (by omega) (by omega)
    exact ⟨r, Ev.iteF c hr, h2, fun h => ⟨by omega, h3 h⟩⟩
def to_Event (q : S73) : S70 := ⟨q.f0, q.f1⟩
theorem toEvent_ev (q : S73) (h : FewEvent q) : Ev (fun k => laws_toEvent.f q.f0 q.f1) (q.f0, q.f1) := by
  unfold laws_toEvent.f
  exact Ev.some_ rfl
theorem toEventS_loop (l : List S73) (hl : FewEventS l) : ∀ (d i : Nat), i + d = l.length →
    Ev (fun k => laws_toEventS.l0 k l (half to_Event z70 l i) (i : Int)) (l.map to_Event) := by
  have hlen := hl.len
  intro d
  induction d with
  | zero =>
    intro i hd
    obtain rfl : i = l.length := by omega
    exact Ev.step (fun k => rfl) (Ev.iteF (by omega) (Ev.some_ (half_full _ _ _)))
  | succ d ih =>
    intro i hd
    have hi : i < l.length := by omega
    refine Ev.step (fun k => rfl) (Ev.iteT (by omega) (Ev.iteT (by omega) ?_))
    rw [rdLEvent_nat _ _ hi]
    refine Ev.bind (toEvent_ev l[i] (hl.one _ (List.getElem_mem hi))) (Ev.iteT (by rw [half_length _ _ _ _ (by omega)]; omega) ?_)
    rw [wrapN (by omega), Int.toNat_natCast]
    have := ih (i + 1) (by omega)
    rw [← half_set to_Event _ l i hi] at this
    exact this
theorem toEventS_ev (l : List S73) (hl : FewEventS l) : Ev (fun k => laws_toEventS.f k l) (l.map to_Event) := by
  have hlen := hl.len
  unfold laws_toEventS.f
  rw [Int.toNat_natCast]
  have := toEventS_loop l hl l.length 0 (by omega)
  rw [half_zero] at this
  exact Ev.iteT (by omega) (Ev.iteT (by omega) this)
structure SzEvent (q : S70) : Prop where
  yes : True
theorem eqEvent_ev (q : S70) (h : SzEvent q) : Ev (fun k => laws_eqEvent.f q.f0 q.f1 q.f0 q.f1) true := by
  unfold laws_eqEvent.f
  exact Ev.iteT rfl (Ev.iteT rfl (Ev.some_ rfl))
theorem eqEventS_loop (l : List S70) (hl : l.length ≤ 1048576) (hz : ∀ q ∈ l, SzEvent q) : ∀ (d i : Nat), i + d = l.length → Ev (fun k => laws_eqEventS.l0 k l l (i : Int)) true := by
  intro d
  induction d with
  | zero =>
    intro i hd
    exact Ev.step (fun k => rfl) (Ev.iteF (by omega) (Ev.some_ rfl))
  | succ d ih =>
    intro i hd
    have hi : i < l.length := by omega
    refine Ev.step (fun k => rfl) (Ev.iteT (by omega) (Ev.iteT (by omega) (Ev.iteT (by omega) ?_)))
    rw [rdIEvent_nat _ _ hi]
    refine Ev.bind (eqEvent_ev _ (hz _ (List.getElem_mem hi))) (Ev.iteT rfl ?_)
    rw [wrapN (by omega)]
    exact ih (i + 1) (by omega)
theorem eqEventS_ev (l : List S70) (hl : l.length ≤ 1048576) (hz : ∀ q ∈ l, SzEvent q) : Ev (fun k => laws_eqEventS.f k l l) true := by
  unfold laws_eqEventS.f
  exact Ev.iteT rfl (eqEventS_loop l hl hz l.length 0 (by omega))
theorem FewEventS.small {l : List S73} (h : FewEventS l) : (l.map to_Event).length ≤ 1048576 ∧ ∀ q ∈ l.map to_Event, SzEvent q := by
  refine ⟨by rw [List.length_map]; exact h.len, fun q hq => ?_⟩
  obtain ⟨p, hp, rfl⟩ := List.mem_map.1 hq
  have := h.one p hp
  exact ⟨trivial⟩
/-- What a builder's write gives. -/
theorem ws_eq {x s : ByteArray} (h : x.size + s.size ≤ 140737488355328) : impl_WS.f x s = some (x ++ s) := if_pos h
theorem cat_assoc (a b c : ByteArray) : (a ++ b) ++ c = a ++ (b ++ c) := ByteArray.append_assoc
/-- Is this an event of a plan? -/
def evOk (e : S70) : Bool := if e.f0 = 0 ∨ e.f0 = 1 then nameS e.f1 else if e.f0 = 2 then idS e.f1 else false
def evWord (n : Int) : ByteArray := if n = 0 then ⟨#[117, 112]⟩ else if n = 1 then ⟨#[100, 111, 119, 110]⟩ else ⟨#[116, 101, 115, 116]⟩
/-- The line of an event. -/
def evText (e : S70) : ByteArray := evWord e.f0 ++ (⟨#[32]⟩ ++ (e.f1 ++ ⟨#[10]⟩))
def planGo : ByteArray → List S70 → ByteArray
  | acc, [] => acc
  | acc, e :: t => if evOk e = true then planGo (acc ++ evText e) t else ⟨#[]⟩
def planT (l : List S70) : ByteArray := planGo ⟨#[]⟩ l
theorem evWord_size (n : Int) : (evWord n).size ≤ 4 := by
  unfold evWord
  split
  · decide
  · split <;> decide
theorem evText_size (e : S70) : (evText e).size ≤ e.f1.size + 6 := by
  have := evWord_size e.f0
  unfold evText
  rw [ByteArray.size_append, ByteArray.size_append, ByteArray.size_append]
  have e1 : (⟨#[32]⟩ : ByteArray).size = 1 := rfl
  have e2 : (⟨#[10]⟩ : ByteArray).size = 1 := rfl
  omega
structure EvSizes (l : List S70) : Prop where
  len : l.length ≤ 1048576
  one : ∀ e ∈ l, e.f1.size ≤ 4194304
theorem implPlan_loop (l : List S70) (h : EvSizes l) : ∀ (t : List S70) (i : Nat) (acc : ByteArray), l.drop i = t → i ≤ l.length → acc.size ≤ i * 4194400 →
    Ev (fun k => impl_PlanText.l0 k acc l (l.length : Int) (i : Int)) (planGo acc t) := by
  intro t
  have hlen := h.len
  induction t with
  | nil =>
    intro i acc hd hi ha
    have hl2 := drop_nil hd
    exact Ev.step (fun k => rfl) (Ev.iteF (by omega) (Ev.bind0 rfl (Ev.some_ rfl)))
  | cons e t ih =>
    intro i acc hd hi ha
    obtain ⟨hl2, hb, ht⟩ := drop_cons hd
    have hs : e.f1.size ≤ 4194304 := h.one e (hb ▸ List.getElem_mem hl2)
    have hts := evText_size e
    have hmul : i * 4194400 ≤ 1048576 * 4194400 := Nat.mul_le_mul_right _ (by omega)
    have e3 : ∀ (a : ByteArray), a.size ≤ 5 → (acc ++ a).size + (e.f1 ++ (⟨#[10]⟩ : ByteArray)).size ≤ 140737488355328 := by
      intro a ha2
      rw [ByteArray.size_append, ByteArray.size_append]
      have e2 : (⟨#[10]⟩ : ByteArray).size = 1 := rfl
      omega
    have next : evOk e = true → Ev (fun k => impl_PlanText.l0 k (acc ++ evText e) l (l.length : Int) (wrap64 ((i : Int) + 1))) (planGo (acc ++ evText e) t) := fun _ => by
      rw [wrapN (by omega)]
      refine ih (i + 1) _ ht (by omega) ?_
      rw [ByteArray.size_append]
      omega
    have line : ∀ (a b : ByteArray), a = b ++ ⟨#[32]⟩ → b = evWord e.f0 → (acc ++ a) ++ (e.f1 ++ (⟨#[10]⟩ : ByteArray)) = acc ++ evText e := by
      intro a b h1 h2
      rw [h1, cat_assoc, cat_assoc, h2]
      rfl
    refine Ev.step (fun k => rfl) (Ev.iteT (by omega) (Ev.iteT (by omega) (Ev.iteT (by omega) ?_)))
    rw [rdIEvent_nat _ _ hl2, hb]
    have hn := nameOk_ev e.f1 (by omega)
    have hid := idOk_ev e.f1 (by omega)
    unfold planGo
    generalize hres : (if evOk e = true then planGo (acc ++ evText e) t else ⟨#[]⟩) = res
    have ok2 : e.f0 = 2 → evOk e = idS e.f1 := fun n2 => by
      unfold evOk
      rw [if_neg (by omega), if_pos n2]
    have ok01 : e.f0 = 0 ∨ e.f0 = 1 → evOk e = nameS e.f1 := fun n => by
      unfold evOk
      rw [if_pos n]
    have j3 : ∀ b, evOk e = b → (b = true → e.f0 = 2) → Ev (fun k => impl_PlanText.j3 k acc l (l.length : Int) (i : Int) b e.f0 e.f1) res := by
      intro b hb n2
      rw [hb] at hres
      by_cases c : b = true
      · rw [if_pos c] at hres
        subst hres
        refine Ev.step (fun k => rfl) (Ev.iteT c (Ev.bind0 (ws_eq (by have : (⟨#[116, 101, 115, 116, 32]⟩ : ByteArray).size = 5 := rfl; omega)) (Ev.iteT (by omega) (Ev.bind0 (ws_eq (e3 _ (by decide))) ?_))))
        rw [line _ ⟨#[116, 101, 115, 116]⟩ (by decide) (by rw [n2 c]; rfl)]
        exact next (hb.trans c)
      · rw [if_neg c] at hres
        exact Ev.step (fun k => rfl) (Ev.iteF c (Ev.some_ hres))
    have j2 : ∀ b, (b = true → evOk e = true ∧ e.f0 = 1) → (¬ b = true → evOk e = true → e.f0 = 2) → Ev (fun k => impl_PlanText.j2 k acc l (l.length : Int) (i : Int) b e.f0 e.f1) res := by
      intro b h1 h2
      by_cases c : b = true
      · obtain ⟨hk, n1⟩ := h1 c
        rw [if_pos hk] at hres
        subst hres
        refine Ev.step (fun k => rfl) (Ev.iteT c (Ev.bind0 (ws_eq (by have : (⟨#[100, 111, 119, 110, 32]⟩ : ByteArray).size = 5 := rfl; omega)) (Ev.iteT (by omega) (Ev.bind0 (ws_eq (e3 _ (by decide))) ?_))))
        rw [line _ ⟨#[100, 111, 119, 110]⟩ (by decide) (by rw [n1]; rfl)]
        exact next hk
      · refine Ev.step (fun k => rfl) (Ev.iteF c ?_)
        by_cases n2 : e.f0 = 2
        · exact Ev.iteT n2 (Ev.bind hid (j3 _ (ok2 n2) (fun _ => n2)))
        · exact Ev.iteF n2 (j3 false (Bool.eq_false_iff.2 (fun h => n2 (h2 c h))) (fun h => by cases h))
    have j1 : ∀ b, (b = true → evOk e = true ∧ e.f0 = 0) → (¬ b = true → evOk e = true → e.f0 ≠ 0) → Ev (fun k => impl_PlanText.j1 k acc l (l.length : Int) (i : Int) b e.f0 e.f1) res := by
      intro b h1 h2
      by_cases c : b = true
      · obtain ⟨hk, n0⟩ := h1 c
        rw [if_pos hk] at hres
        subst hres
        refine Ev.step (fun k => rfl) (Ev.iteT c (Ev.bind0 (ws_eq (by have : (⟨#[117, 112, 32]⟩ : ByteArray).size = 3 := rfl; omega)) (Ev.iteT (by omega) (Ev.bind0 (ws_eq (e3 _ (by decide))) ?_))))
        rw [line _ ⟨#[117, 112]⟩ (by decide) (by rw [n0]; rfl)]
        exact next hk
      · refine Ev.step (fun k => rfl) (Ev.iteF c ?_)
        by_cases n1 : e.f0 = 1
        · refine Ev.iteT n1 (Ev.bind hn (j2 _ (fun h => ⟨(ok01 (.inr n1)).trans h, n1⟩) (fun h h3 => absurd ((ok01 (.inr n1)).symm.trans h3) h)))
        · refine Ev.iteF n1 (j2 false (fun h => by cases h) (fun _ h3 => ?_))
          have h4 := h2 c h3
          by_cases n2 : e.f0 = 2
          · exact n2
          · unfold evOk at h3
            rw [if_neg (by omega), if_neg n2] at h3
            cases h3
    by_cases n0 : e.f0 = 0
    · exact Ev.iteT n0 (Ev.bind hn (j1 _ (fun h => ⟨(ok01 (.inl n0)).trans h, n0⟩) (fun h h3 => absurd ((ok01 (.inl n0)).symm.trans h3) h)))
    · exact Ev.iteF n0 (j1 false (fun h => by cases h) (fun _ _ => n0))
theorem implPlan_ev (l : List S70) (h : EvSizes l) : Ev (fun k => impl_PlanText.f k l) (planT l) := by
  have hlen := h.len
  exact implPlan_loop l h l 0 ⟨#[]⟩ rfl (Nat.zero_le _) (Nat.le_refl _)
theorem validEvent_ev (e : S70) (hs : e.f1.size ≤ 4194304) : Ev (fun k => spec_validEvent.f k e.f0 e.f1) (evOk e) := by
  have hn := validName_ev e.f1 (by omega)
  have hid := validId_ev e.f1 (by omega)
  unfold spec_validEvent.f evOk
  by_cases n0 : e.f0 = 0
  · rw [if_pos (show e.f0 = 0 ∨ e.f0 = 1 by omega)]
    refine Ev.iteT n0 ?_
    exact Ev.step (fun k => rfl) (Ev.iteT (beq_iff_eq.2 n0) (Ev.bind hn (Ev.some_ rfl)))
  · refine Ev.iteF n0 ?_
    by_cases n1 : e.f0 = 1
    · rw [if_pos (show e.f0 = 0 ∨ e.f0 = 1 by omega)]
      exact Ev.step (fun k => rfl) (Ev.iteT (beq_iff_eq.2 n1) (Ev.bind hn (Ev.some_ rfl)))
    · rw [if_neg (show ¬ (e.f0 = 0 ∨ e.f0 = 1) by omega)]
      refine Ev.step (fun k => rfl) (Ev.iteF (fun h => n1 (beq_iff_eq.1 h)) ?_)
      by_cases n2 : e.f0 = 2
      · rw [if_pos n2]
        exact Ev.iteT n2 (Ev.bind hid (Ev.some_ rfl))
      · rw [if_neg n2]
        exact Ev.iteF n2 (Ev.some_ rfl)
theorem evOk_kind {e : S70} (h : evOk e = true) : 0 ≤ e.f0 ∧ e.f0 ≤ 2 := by
  unfold evOk at h
  by_cases n0 : e.f0 = 0 ∨ e.f0 = 1
  · omega
  · rw [if_neg n0] at h
    by_cases n2 : e.f0 = 2
    · omega
    · rw [if_neg n2] at h
      cases h
theorem words_at (n : Int) (h : 0 ≤ n ∧ n ≤ 2) : rdOf ByteArray.empty [(⟨#[117, 112]⟩ : ByteArray), ⟨#[100, 111, 119, 110]⟩, ⟨#[116, 101, 115, 116]⟩] n = evWord n := by
  rcases (show n = 0 ∨ n = 1 ∨ n = 2 by omega) with rfl | rfl | rfl <;> rfl
theorem specPlan_loop (l : List S70) (h : EvSizes l) : ∀ (t : List S70) (i : Nat) (acc : ByteArray), l.drop i = t → i ≤ l.length → acc.size ≤ i * 4194400 →
    Ev (fun k => spec_PlanText.l0 k l acc (i : Int)) (planGo acc t) := by
  intro t
  have hlen := h.len
  induction t with
  | nil =>
    intro i acc hd hi ha
    have hl2 := drop_nil hd
    exact Ev.step (fun k => rfl) (Ev.iteF (by omega) (Ev.some_ rfl))
  | cons e t ih =>
    intro i acc hd hi ha
    obtain ⟨hl2, hb, ht⟩ := drop_cons hd
    have hs : e.f1.size ≤ 4194304 := h.one e (hb ▸ List.getElem_mem hl2)
    have hts := evText_size e
    have hw := evWord_size e.f0
    have hmul : i * 4194400 ≤ 1048576 * 4194400 := Nat.mul_le_mul_right _ (by omega)
    refine Ev.step (fun k => rfl) (Ev.iteT (by omega) (Ev.iteT (by omega) ?_))
    rw [rdIEvent_nat _ _ hl2, hb]
    refine Ev.bind (validEvent_ev e hs) ?_
    unfold planGo
    by_cases c : evOk e = true
    · rw [if_pos c]
      have hk := evOk_kind c
      refine Ev.iteT c (Ev.bind0 rfl (Ev.iteT (by omega) (Ev.iteT (by simp; omega) ?_)))
      rw [words_at _ hk]
      refine Ev.iteT (by omega) (Ev.iteT (by omega) (Ev.iteT (by omega) (Ev.iteT (by omega) ?_)))
      rw [cat_assoc, cat_assoc, cat_assoc]
      rw [wrapN (by omega)]
      refine ih (i + 1) (acc ++ evText e) ht (by omega) ?_
      rw [ByteArray.size_append]
      omega
    · rw [if_neg c]
      exact Ev.iteF c (Ev.some_ rfl)
theorem specPlan_ev (l : List S70) (h : EvSizes l) : Ev (fun k => spec_PlanText.f k l) (planT l) := by
  have hlen := h.len
  exact specPlan_loop l h l 0 ⟨#[]⟩ rfl (Nat.zero_le _) (Nat.le_refl _)
end Go.Proofs.Ytieghkchhjailaa.P
