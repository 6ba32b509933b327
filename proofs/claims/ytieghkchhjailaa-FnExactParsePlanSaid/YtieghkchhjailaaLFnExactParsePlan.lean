/- Plain laws, without Go, that the law FnExactParsePlan leans on. No condition. -/
import Derived.Test.YtieghkchhjailaaPx0
import Derived.Test.YtieghkchhjailaaPx4
import Derived.Test.YtieghkchhjailaaPx5
import Derived.Test.YtieghkchhjailaaPx6
import Derived.Test.YtieghkchhjailaaPx7
import Derived.Test.YtieghkchhjailaaPx8
import Derived.Test.YtieghkchhjailaaPx16
import Derived.Test.YtieghkchhjailaaPx17
import Derived.Test.YtieghkchhjailaaPx18
import Derived.Test.YtieghkchhjailaaPx20
import Derived.Test.YtieghkchhjailaaPx21
import Derived.Test.YtieghkchhjailaaWMore
import Derived.IntWalk
import Derived.Lib.Bytealg
import Derived.Lib.Strings
set_option linter.unusedSimpArgs false
set_option linter.unusedVariables false
namespace Go.Proofs.Ytieghkchhjailaa.P
open Go.RowKit Go.Proofs.YtieghkchhjailaaW.PrintWords Go.Proofs.YtieghkchhjailaaW.PrintLast Go.Proofs.YtieghkchhjailaaW.PrintMore
theorem Ev.iteT {α : Type} {c : Prop} [Decidable c] {g f : Nat → Option α} {r : α} (h : c) (k : Ev g r) : Ev (fun n => if c then g n else f n) r := by
  simpa only [if_pos h] using k
theorem Ev.iteF {α : Type} {c : Prop} [Decidable c] {g f : Nat → Option α} {r : α} (h : ¬ c) (k : Ev f r) : Ev (fun n => if c then g n else f n) r := by
  simpa only [if_neg h] using k
/-- A callee without rounds. -/
theorem Ev.bind0 {α β : Type} {g : Option α} {f : Nat → α → Option β} {a : α} {r : β} (h : g = some a) (k : Ev (fun n => f n a) r) : Ev (fun n => g.bind (f n)) r := by
  subst h
  simpa only [Option.bind_some] using k
theorem Ev.some_ {α : Type} {x r : α} (h : x = r) : Ev (fun _ => some x) r := ⟨0, fun _ _ => by rw [h]⟩
theorem Ev.bool {b r : Bool} (h : b = r) : Ev (fun _ => some b) r := Ev.some_ h
theorem wrapN {i : Nat} (h : i < 4611686018427387904) : wrap64 ((i : Int) + 1) = ((i + 1 : Nat) : Int) := by
  unfold wrap64
  omega
theorem wrapI {x : Int} (h : -9223372036854775808 ≤ x ∧ x ≤ 9223372036854775807) : wrap64 x = x := by
  unfold wrap64
  omega
theorem rdOf_nat {α : Type} (d : α) (l : List α) (i : Nat) (h : i < l.length) : rdOf d l (i : Int) = l[i] := by
  simp [rdOf, List.getD_eq_getElem?_getD, List.getElem?_eq_getElem h]
theorem getD_nat {α : Type} (d : α) (l : List α) (i : Nat) (h : i < l.length) : l.getD (i : Int).toNat d = l[i] := by
  simp [List.getD_eq_getElem?_getD, List.getElem?_eq_getElem h]
theorem size_list (s : ByteArray) : s.data.toList.length = s.size := by rw [Array.length_toList]; rfl
theorem bt_nat (s : ByteArray) (i : Nat) (h : i < s.data.toList.length) : bt s (i : Int) = ((s.data.toList[i]).toNat : Int) := by
  have h' : i < s.size := by rw [← size_list]; exact h
  unfold bt
  rw [dif_pos (by simpa using h')]
  rfl
/-- A list seen from place i on. -/
theorem drop_cons {α : Type} {l : List α} {i : Nat} {b : α} {t : List α} (h : l.drop i = b :: t) : ∃ hi : i < l.length, l[i] = b ∧ l.drop (i + 1) = t := by
  have hi : i < l.length := by
    rcases Nat.lt_or_ge i l.length with h1 | h1
    · exact h1
    · rw [List.drop_of_length_le h1] at h
      cases h
  refine ⟨hi, ?_, ?_⟩
  · rw [List.drop_eq_getElem_cons hi] at h
    exact (List.cons.inj h).1
  · rw [List.drop_eq_getElem_cons hi] at h
    exact (List.cons.inj h).2
theorem drop_nil {α : Type} {l : List α} {i : Nat} (h : l.drop i = []) : l.length ≤ i := by
  have := congrArg List.length h
  rw [List.length_drop] at this
  simpa using Nat.sub_eq_zero_iff_le.1 this
theorem toList_inj {a b : ByteArray} (h : a.toList = b.toList) : a = b := by
  rw [Lib.toList_data, Lib.toList_data] at h
  cases a with
  | mk x => cases b with
    | mk y =>
      have : x = y := Array.ext' h
      rw [this]
theorem toList_iff {a b : ByteArray} : a.toList = b.toList ↔ a = b := ⟨toList_inj, fun h => by rw [h]⟩
def lowB (b : UInt8) : Bool := decide (97 ≤ (b.toNat : Int)) && decide ((b.toNat : Int) ≤ 122)
/-- What is asked of a name behind its letters. -/
def nameEnd (s : ByteArray) : Bool := decide (1 ≤ s.size) && (decide (s.size ≤ 6) && (s.toList != ([97, 110, 100] : List UInt8) && (s.toList != ([111, 114] : List UInt8) && s.toList != ([110, 111, 116] : List UInt8))))
def nameS (s : ByteArray) : Bool := s.data.toList.all lowB && nameEnd s
theorem nameOk_loop (s : ByteArray) (hs : s.size ≤ 4611686018427387903) : ∀ (t : List UInt8) (i : Nat), s.data.toList.drop i = t → i ≤ s.size →
    Ev (fun k => impl_nameOk.l0 k s (s.size : Int) (i : Int)) (t.all lowB && nameEnd s) := by
  intro t
  induction t with
  | nil =>
    intro i h hi
    have hl := drop_nil h
    rw [size_list] at hl
    refine Ev.step (fun k => rfl) (Ev.iteF (by omega) ?_)
    simp only [List.all_nil, Bool.true_and]
    unfold nameEnd
    by_cases h1 : 1 ≤ s.size
    · refine Ev.iteT (by omega) ?_
      by_cases h2 : s.size ≤ 6
      · refine Ev.iteT (by omega) ?_
        by_cases h3 : s.toList = ([97, 110, 100] : List UInt8)
        · exact Ev.iteT h3 (Ev.bool (by simp [h3]))
        · refine Ev.iteF h3 ?_
          by_cases h4 : s.toList = ([111, 114] : List UInt8)
          · exact Ev.iteT h4 (Ev.bool (by simp [h4]))
          · exact Ev.iteF h4 (Ev.bool (by simp [h1, h2, bne_iff_ne.2 h3, bne_iff_ne.2 h4]))
      · exact Ev.iteF (by omega) (Ev.bool (by simp [h2]))
    · exact Ev.iteF (by omega) (Ev.bool (by simp [h1]))
  | cons b t ih =>
    intro i h hi
    obtain ⟨hl, hb, ht⟩ := drop_cons h
    have hl' := hl
    rw [size_list] at hl'
    refine Ev.step (fun k => rfl) (Ev.iteT (by omega) (Ev.iteT (by omega) (Ev.iteT (by omega) ?_)))
    rw [bt_nat s i hl, hb]
    by_cases h1 : (b.toNat : Int) < 97
    · exact Ev.iteT h1 (Ev.bool (by simp [lowB]; omega))
    · refine Ev.iteF h1 ?_
      by_cases h2 : (b.toNat : Int) > 122
      · exact Ev.iteT h2 (Ev.bool (by simp [lowB]; omega))
      · refine Ev.iteF h2 ?_
        rw [wrapN (by omega)]
        have := ih (i + 1) ht (by omega)
        have e : lowB b = true := by simp [lowB]; omega
        simpa [List.all_cons, e] using this
theorem nameOk_ev (s : ByteArray) (hs : s.size ≤ 4611686018427387903) : Ev (fun k => impl_nameOk.f k s) (nameS s) :=
  nameOk_loop s hs _ 0 rfl (Nat.zero_le _)
theorem inRange_ev (a b c : Int) : spec_inRange.f a b c = some (decide (b ≤ a ∧ a ≤ c)) := by
  unfold spec_inRange.f
  by_cases h : b ≤ a
  · rw [if_pos h]
    simp [h]
  · rw [if_neg h]
    simp [h]
theorem validName_loop (s : ByteArray) (hs : s.size ≤ 4611686018427387903) : ∀ (t : List UInt8) (i : Nat), s.data.toList.drop i = t → i ≤ s.size →
    Ev (fun k => spec_validName.l0 k s (i : Int)) (t.all lowB && nameEnd s) := by
  intro t
  induction t with
  | nil =>
    intro i h hi
    have hl := drop_nil h
    rw [size_list] at hl
    refine Ev.step (fun k => rfl) (Ev.iteF (by omega) (Ev.bind0 (inRange_ev _ _ _) ?_))
    simp only [List.all_nil, Bool.true_and]
    unfold nameEnd
    by_cases h1 : 1 ≤ s.size
    · by_cases h2 : s.size ≤ 6
      · refine Ev.iteT (by simp; omega) ?_
        by_cases h3 : s.toList = ([97, 110, 100] : List UInt8)
        · exact Ev.iteT h3 (Ev.bool (by simp [h3]))
        · refine Ev.iteF h3 ?_
          by_cases h4 : s.toList = ([111, 114] : List UInt8)
          · exact Ev.iteT h4 (Ev.bool (by simp [h4]))
          · exact Ev.iteF h4 (Ev.bool (by simp [h1, h2, bne_iff_ne.2 h3, bne_iff_ne.2 h4]))
      · exact Ev.iteF (by simp; omega) (Ev.bool (by simp [h2]))
    · exact Ev.iteF (by simp; omega) (Ev.bool (by simp [h1]))
  | cons b t ih =>
    intro i h hi
    obtain ⟨hl, hb, ht⟩ := drop_cons h
    have hl' := hl
    rw [size_list] at hl'
    refine Ev.step (fun k => rfl) (Ev.iteT (by omega) (Ev.iteT (by omega) ?_))
    rw [bt_nat s i hl, hb]
    by_cases h1 : (b.toNat : Int) < 97
    · exact Ev.iteT h1 (Ev.bool (by simp [lowB]; omega))
    · refine Ev.iteF h1 ?_
      by_cases h2 : (b.toNat : Int) > 122
      · exact Ev.iteT h2 (Ev.bool (by simp [lowB]; omega))
      · refine Ev.iteF h2 ?_
        rw [wrapN (by omega)]
        have := ih (i + 1) ht (by omega)
        have e : lowB b = true := by simp [lowB]; omega
        simpa [List.all_cons, e] using this
theorem validName_ev (s : ByteArray) (hs : s.size ≤ 4611686018427387903) : Ev (fun k => spec_validName.f k s) (nameS s) :=
  validName_loop s hs _ 0 rfl (Nat.zero_le _)
theorem data_extract (s : ByteArray) (a b : Nat) : (s.extract a b).data.toList = (s.data.toList.take b).drop a := by
  rw [ByteArray.data_extract, Array.toList_extract, List.extract_eq_take_drop, List.drop_take]
theorem extract_size_le (s : ByteArray) (a b : Nat) : (s.extract a b).size ≤ s.size := by
  rw [ByteArray.size_extract]
  omega
theorem indexByte_cons (b : UInt8) (l : List UInt8) (c : UInt8) : Lib.indexByte (b :: l) c = if b = c then 0 else if Lib.indexByte l c < 0 then -1 else Lib.indexByte l c + 1 := by
  have hg := Lib.indexByte_ge l c
  rw [Lib.indexByte]
  by_cases h : b = c
  · simp [h]
  · have h1 : (b == c) = false := by simpa using h
    rw [h1, if_neg h]
    simp only [Bool.false_eq_true, if_false]
    by_cases h2 : Lib.indexByte l c = -1
    · rw [h2]
      simp
    · have h3 : (Lib.indexByte l c == -1) = false := by simpa using h2
      have h4 : ¬ Lib.indexByte l c < 0 := by omega
      rw [h3, if_neg h4]
      simp
theorem indexByte_lt (l : List UInt8) (c : UInt8) : Lib.indexByte l c < l.length := by
  induction l with
  | nil => simp [Lib.indexByte]
  | cons b l ih =>
    rw [indexByte_cons]
    have hg := Lib.indexByte_ge l c
    simp only [List.length_cons]
    split
    · omega
    · split <;> omega
/-- Where the first point stands, and whether both sides of it are names. -/
def idS (s : ByteArray) : Bool := decide (0 ≤ Lib.indexByte s.data.toList 46) && (nameS (s.extract 0 (Lib.indexByte s.data.toList 46).toNat) && nameS (s.extract ((Lib.indexByte s.data.toList 46).toNat + 1) s.size))
theorem stringsCut_at (s : ByteArray) (c : UInt8) (hs : s.size ≤ 4611686018427387903) :
    strings_Cut.f s ⟨#[c]⟩ = some (if 0 ≤ Lib.indexByte s.data.toList c then (s.extract 0 (Lib.indexByte s.data.toList c).toNat, s.extract ((Lib.indexByte s.data.toList c).toNat + 1) s.size, true) else (s, ⟨#[]⟩, false)) := by
  have hg := Lib.indexByte_ge s.data.toList c
  have hl := indexByte_lt s.data.toList c
  rw [size_list] at hl
  have e1 : (⟨#[c]⟩ : ByteArray).size = 1 := rfl
  have e : stringslite_Index.f s ⟨#[c]⟩ = some (Lib.indexByte s.data.toList c) := rfl
  unfold strings_Cut.f stringslite_Cut.f
  rw [e]
  simp only [Option.bind_some, e1]
  generalize Lib.indexByte s.data.toList c = i at hg hl ⊢
  by_cases h : 0 ≤ i
  · have ew : wrap64 (i + ((1 : Nat) : Int)) = ((i.toNat + 1 : Nat) : Int) := by unfold wrap64; omega
    rw [if_pos h, if_pos h, if_pos (by omega), ew, if_pos (by omega), if_pos (by omega), if_pos h, Int.toNat_natCast]
    rfl
  · rw [if_neg h, if_neg h]
    rfl
theorem idOk_ev (s : ByteArray) (hs : s.size ≤ 4611686018427387903) : Ev (fun k => impl_idOk.f k s) (idS s) := by
  unfold impl_idOk.f idS
  refine Ev.bind0 (stringsCut_at s 46 hs) ?_
  by_cases h : 0 ≤ Lib.indexByte s.data.toList 46
  · simp only [if_pos h]
    have n1 := nameOk_ev (s.extract 0 (Lib.indexByte s.data.toList 46).toNat) (by have := extract_size_le s 0 (Lib.indexByte s.data.toList 46).toNat; omega)
    have n2 := nameOk_ev (s.extract ((Lib.indexByte s.data.toList 46).toNat + 1) s.size) (by have := extract_size_le s ((Lib.indexByte s.data.toList 46).toNat + 1) s.size; omega)
    refine Ev.iteT (by trivial) (Ev.bind n1 ?_)
    cases hn : nameS (s.extract 0 (Lib.indexByte s.data.toList 46).toNat) with
    | true => exact Ev.iteT rfl (Ev.bind n2 (Ev.bool (by simp [h])))
    | false => exact Ev.iteF (by simp) (Ev.bool (by simp))
  · simp only [if_neg h]
    exact Ev.iteF (by simp) (Ev.bool (by simp [h]))
theorem validId_loop (s : ByteArray) (hs : s.size ≤ 4611686018427387903) : ∀ (t : List UInt8) (i : Nat), s.data.toList.drop i = t → i ≤ s.size →
    Ev (fun k => spec_validId.l0 k s (i : Int)) (decide (0 ≤ Lib.indexByte t 46) && (nameS (s.extract 0 (i + (Lib.indexByte t 46).toNat)) && nameS (s.extract (i + (Lib.indexByte t 46).toNat + 1) s.size))) := by
  intro t
  induction t with
  | nil =>
    intro i h hi
    have hl := drop_nil h
    rw [size_list] at hl
    exact Ev.step (fun k => rfl) (Ev.iteF (by omega) (Ev.bool (by simp [Lib.indexByte])))
  | cons b t ih =>
    intro i h hi
    obtain ⟨hl, hb, ht⟩ := drop_cons h
    have hl' := hl
    rw [size_list] at hl'
    refine Ev.step (fun k => rfl) (Ev.iteT (by omega) (Ev.iteT (by omega) ?_))
    rw [bt_nat s i hl, hb]
    by_cases h1 : b = 46
    · subst h1
      refine Ev.iteT (by decide) (Ev.iteT (by omega) ?_)
      have n1 := validName_ev (s.extract 0 i) (by have := extract_size_le s 0 i; omega)
      have n2 := validName_ev (s.extract (i + 1) s.size) (by have := extract_size_le s (i + 1) s.size; omega)
      rw [indexByte_cons, if_pos rfl]
      simp only [Int.toNat_natCast, Int.toNat_zero, Nat.add_zero, Int.le_refl, decide_true, Bool.true_and]
      refine Ev.bind n1 ?_
      rw [wrapN (by omega)]
      cases hn : nameS (s.extract 0 i) with
      | true =>
        refine Ev.iteT rfl (Ev.iteT (by omega) (Ev.iteT (by omega) ?_))
        rw [Int.toNat_natCast]
        exact Ev.bind n2 (Ev.bool (by simp))
      | false => exact Ev.iteF (by simp) (Ev.bool (by simp))
    · have hne : ¬ (b.toNat : Int) = 46 := fun h2 => h1 (by apply UInt8.toNat.inj; simp; omega)
      refine Ev.iteF hne ?_
      rw [wrapN (by omega)]
      have := ih (i + 1) ht (by omega)
      rw [indexByte_cons, if_neg h1]
      have hg := Lib.indexByte_ge t 46
      by_cases h2 : Lib.indexByte t 46 < 0
      · rw [if_pos h2]
        rw [show decide (0 ≤ Lib.indexByte t 46) = false from decide_eq_false (by omega)] at this
        simpa using this
      · rw [if_neg h2]
        have e1 : (Lib.indexByte t 46 + 1).toNat = (Lib.indexByte t 46).toNat + 1 := by omega
        rw [e1, show i + ((Lib.indexByte t 46).toNat + 1) = i + 1 + (Lib.indexByte t 46).toNat from by omega, show decide (0 ≤ Lib.indexByte t 46 + 1) = true from decide_eq_true (by omega)]
        rw [show decide (0 ≤ Lib.indexByte t 46) = true from decide_eq_true (by omega)] at this
        exact this
theorem validId_ev (s : ByteArray) (hs : s.size ≤ 4611686018427387903) : Ev (fun k => spec_validId.f k s) (idS s) := by
  have := validId_loop s hs _ 0 rfl (Nat.zero_le _)
  simp only [Nat.zero_add] at this
  exact this
theorem markText_loop (n : Nat) : ∀ (x : ByteArray), n ≤ 1099511627776 → x.size + n ≤ 4611686018427387903 → ∃ s, Ev (fun k => laws_markText.l0 k (n : Int) x) s := by
  induction n using Nat.strongRecOn with
  | _ n ih =>
    intro x hn hx
    by_cases h : (n : Int) > 0
    · have ed : Int.tdiv (n : Int) 10 = ((n / 10 : Nat) : Int) := by
        rw [Int.tdiv_eq_ediv_of_nonneg (by omega)]
        omega
      have es : (strOfNums [(wrap64 (48 + (Int.tmod (n : Int) 10))) % 256]).size = 1 := rfl
      obtain ⟨s, hs⟩ := ih (n / 10) (by omega) (strOfNums [(wrap64 (48 + (Int.tmod (n : Int) 10))) % 256] ++ x) (by omega) (by rw [ByteArray.size_append, es]; omega)
      refine ⟨s, Ev.step (fun k => rfl) (Ev.iteT h (Ev.bind0 rfl (Ev.iteT (by rw [es]; omega) ?_)))⟩
      rw [ed, wrapI (by omega)]
      exact hs
    · exact ⟨_, Ev.step (fun k => rfl) (Ev.iteF h (Ev.iteT (by omega) (Ev.some_ rfl)))⟩
theorem markText_ev (n : Int) (h0 : 0 ≤ n) (h1 : n ≤ 1099511627776) : ∃ s, Ev (fun k => laws_markText.f k n) s := by
  unfold laws_markText.f
  by_cases h : n ≤ 0
  · exact ⟨_, Ev.iteT h (Ev.some_ rfl)⟩
  · obtain ⟨m, rfl⟩ := Int.eq_ofNat_of_zero_le h0
    obtain ⟨s, hs⟩ := markText_loop m ⟨#[]⟩ (by omega) (by show 0 + m ≤ _; omega)
    exact ⟨s, Ev.iteF h hs⟩
theorem rdIEvent_nat (l : List S70) (i : Nat) (h : i < l.length) : rd_T70 l (i : Int) = l[i] := by
  unfold rd_T70
  exact getD_nat _ _ _ h
structure SzEvent (q : S70) : Prop where
  yes : True
theorem eqEvent_ev (q : S70) (h : SzEvent q) : Ev (fun k => laws_eqEvent.f q.f0 q.f1 q.f0 q.f1) true := by
  unfold laws_eqEvent.f
  exact Ev.iteT rfl (Ev.iteT rfl (Ev.some_ rfl))
theorem eqEventS_loop (l : List S70) (hl : l.length ≤ 4194304) (hz : ∀ q ∈ l, SzEvent q) : ∀ (d i : Nat), i + d = l.length → Ev (fun k => laws_eqEventS.l0 k l l (i : Int)) true := by
  intro d
  induction d with
  | zero =>
    intro i hd
    exact Ev.step (fun k => rfl) (Ev.iteF (by omega) (Ev.some_ rfl))
  | succ d ih =>
    intro i hd
    have hi : i < l.length := by omega
    refine Ev.step (fun k => rfl) (Ev.iteT (by omega) (Ev.iteT (by omega) (Ev.iteT (by omega) ?_)))
    rw [rdIEvent_nat _ _ hi]
    refine Ev.bind (eqEvent_ev _ (hz _ (List.getElem_mem hi))) (Ev.iteT rfl ?_)
    rw [wrapN (by omega)]
    exact ih (i + 1) (by omega)
theorem eqEventS_ev (l : List S70) (hl : l.length ≤ 4194304) (hz : ∀ q ∈ l, SzEvent q) : Ev (fun k => laws_eqEventS.f k l l) true := by
  unfold laws_eqEventS.f
  exact Ev.iteT rfl (eqEventS_loop l hl hz l.length 0 (by omega))
theorem markEventS_loop : ∀ (d i : Nat) (l : List S70) (a : Int), i + d = l.length → 0 ≤ a → a + 2 * d ≤ 1099511627776 → l.length ≤ 4194304 →
    ∃ m, Ev (fun k => laws_markEventS.l0 k l a (i : Int)) (a + 2 * d, m) ∧ m.length = l.length ∧ m.take i = l.take i ∧ Ev (fun k => laws_heldEventS.l0 k m a (i : Int)) (a + 2 * d) := by
  intro d
  induction d with
  | zero =>
    intro i l a hd ha hb hl
    exact ⟨l, Ev.step (fun k => rfl) (Ev.iteF (by omega) (Ev.some_ (by simp))), rfl, rfl, Ev.step (fun k => rfl) (Ev.iteF (by omega) (Ev.some_ (by simp)))⟩
  | succ d ih =>
    intro i l a hd ha hb hl
    have hi : i < l.length := by omega
    obtain ⟨s, hs⟩ := markText_ev (a + 1) (by omega) (by omega)
    have e1 : wrap64 (a + 1) = a + 1 := wrapI (by omega)
    have e2 : wrap64 (a + 1 + 1) = a + 2 := by rw [wrapI (by omega)]; omega
    have hl2 : (l.set i ⟨a, s⟩).length = l.length := List.length_set
    obtain ⟨m, hm, hlen, htake, hheld⟩ := ih (i + 1) (l.set i ⟨a, s⟩) (a + 2) (by rw [hl2]; omega) (by omega) (by omega) (by omega)
    have hmi : i < m.length := by omega
    have hget : m[i] = ⟨a, s⟩ := by
      have h1 : (m.take (i + 1))[i]? = ((l.set i ⟨a, s⟩).take (i + 1))[i]? := by rw [htake]
      rw [List.getElem?_take_of_lt (by omega), List.getElem?_take_of_lt (by omega), List.getElem?_set_self hi, List.getElem?_eq_getElem hmi] at h1
      exact Option.some.inj h1
    have hsum : a + 2 + 2 * (d : Int) = a + 2 * ((d + 1 : Nat) : Int) := by omega
    rw [hsum] at hm hheld
    refine ⟨m, ?_, by omega, ?_, ?_⟩
    · refine Ev.step (fun k => rfl) (Ev.iteT (by omega) (Ev.iteT (by omega) (Ev.bind0 rfl ?_)))
      rw [Int.toNat_natCast, e1, e2, wrapN (by omega)]
      refine Ev.bind hs ?_
      rw [rdIEvent_nat _ _ hi, rdIEvent_nat _ _ (by rw [List.length_set]; exact hi), List.getElem_set_self, List.set_set]
      exact hm
    · have := congrArg (List.take i) htake
      rw [List.take_take, List.take_take, Nat.min_eq_left (by omega), List.take_set_of_le (by omega)] at this
      exact this
    · refine Ev.step (fun k => rfl) (Ev.iteT (by omega) (Ev.iteT (by omega) ?_))
      rw [rdIEvent_nat _ _ hmi, hget, e1, e2, wrapN (by omega)]
      exact Ev.iteT rfl (Ev.bind hs (Ev.iteT rfl hheld))
theorem markEventS_ev (l : List S70) (a : Int) (h0 : 0 ≤ a) (ha : a ≤ 1000000000) (hl : l.length ≤ 4194304) :
    ∃ m b, Ev (fun k => laws_markEventS.f k l a) (b, m) ∧ Ev (fun k => laws_heldEventS.f k m a) b ∧ a ≤ b := by
  obtain ⟨m, h1, _, _, h2⟩ := markEventS_loop l.length 0 l a (by omega) h0 (by omega) hl
  exact ⟨m, _, h1, h2, by omega⟩
/-- The text of some bytes. -/
def ofL (l : List UInt8) : ByteArray := ⟨l.toArray⟩
theorem ofL_data (s : ByteArray) : ofL s.data.toList = s := by
  cases s
  unfold ofL
  rw [Array.toArray_toList]
theorem ofL_list (l : List UInt8) : (ofL l).data.toList = l := rfl
theorem ofL_toList (l : List UInt8) : (ofL l).toList = l := by
  rw [Lib.toList_data]
  rfl
theorem ofL_size (l : List UInt8) : (ofL l).size = l.length := by rw [← size_list, ofL_list]
theorem ofL_inj {a b : List UInt8} (h : ofL a = ofL b) : a = b := by
  rw [← ofL_list a, ← ofL_list b, h]
theorem ofL_append (a b : List UInt8) : ofL a ++ ofL b = ofL (a ++ b) := by
  apply ByteArray.ext
  unfold ofL
  rw [ByteArray.data_append]
  simp
theorem eq_ofL {s : ByteArray} {l : List UInt8} (h : s.data.toList = l) : s = ofL l := by rw [← h, ofL_data]
theorem extract_ofL (l : List UInt8) (a b : Nat) : (ofL l).extract a b = ofL ((l.take b).drop a) := eq_ofL (by rw [data_extract, ofL_list])
/-- The bytes ahead of the first c, and those behind it. -/
def ahead (c : UInt8) (l : List UInt8) : List UInt8 := l.takeWhile (fun b => b != c)
def behind (c : UInt8) (l : List UInt8) : List UInt8 := (l.dropWhile (fun b => b != c)).drop 1
theorem ahead_cons (c b : UInt8) (l : List UInt8) : ahead c (b :: l) = if b = c then [] else b :: ahead c l := by
  unfold ahead
  rw [List.takeWhile_cons]
  by_cases h : b = c
  · rw [if_pos h, if_neg (by simp [h])]
  · rw [if_neg h, if_pos (by simp [h])]
theorem behind_cons (c b : UInt8) (l : List UInt8) : behind c (b :: l) = if b = c then l else behind c l := by
  unfold behind
  rw [List.dropWhile_cons]
  by_cases h : b = c
  · rw [if_pos h, if_neg (by simp [h])]
    rfl
  · rw [if_neg h, if_pos (by simp [h])]
theorem ahead_not (c : UInt8) (l : List UInt8) : c ∉ ahead c l := by
  induction l with
  | nil => simp [ahead]
  | cons b t ih =>
    rw [ahead_cons]
    by_cases h : b = c
    · simp [h]
    · rw [if_neg h, List.mem_cons]
      rintro (e | e)
      · exact h e.symm
      · exact ih e
theorem ahead_behind {c : UInt8} {l : List UInt8} (h : c ∈ l) : l = ahead c l ++ c :: behind c l := by
  induction l with
  | nil => cases h
  | cons b t ih =>
    rw [ahead_cons, behind_cons]
    by_cases hb : b = c
    · simp [hb]
    · rw [if_neg hb, if_neg hb]
      have : c ∈ t := by
        rcases List.mem_cons.1 h with e | e
        · exact absurd e.symm hb
        · exact e
      rw [List.cons_append, ← ih this]
theorem ahead_all {c : UInt8} {l : List UInt8} (h : c ∉ l) : ahead c l = l ∧ behind c l = [] := by
  induction l with
  | nil => exact ⟨rfl, rfl⟩
  | cons b t ih =>
    rw [List.mem_cons] at h
    obtain ⟨h1, h2⟩ := ih (fun e => h (.inr e))
    rw [ahead_cons, behind_cons, if_neg (fun e => h (.inl e.symm)), if_neg (fun e => h (.inl e.symm)), h1, h2]
    exact ⟨rfl, rfl⟩
theorem ahead_at {c : UInt8} {a b : List UInt8} (h : c ∉ a) : ahead c (a ++ c :: b) = a ∧ behind c (a ++ c :: b) = b := by
  induction a with
  | nil =>
    rw [List.nil_append, ahead_cons, behind_cons, if_pos rfl, if_pos rfl]
    exact ⟨rfl, rfl⟩
  | cons x t ih =>
    rw [List.mem_cons] at h
    obtain ⟨h1, h2⟩ := ih (fun e => h (.inr e))
    rw [List.cons_append, ahead_cons, behind_cons, if_neg (fun e => h (.inl e.symm)), if_neg (fun e => h (.inl e.symm)), h1, h2]
    exact ⟨rfl, rfl⟩
theorem behind_length (c : UInt8) (l : List UInt8) : (behind c l).length ≤ l.length := by
  induction l with
  | nil => exact Nat.le_refl _
  | cons b t ih =>
    rw [behind_cons, List.length_cons]
    split <;> omega
theorem behind_lt (c : UInt8) (l : List UInt8) (h : l ≠ []) : (behind c l).length < l.length := by
  cases l with
  | nil => exact absurd rfl h
  | cons b t =>
    rw [behind_cons, List.length_cons]
    have := behind_length c t
    split <;> omega
theorem ahead_length (c : UInt8) (l : List UInt8) : (ahead c l).length ≤ l.length := by
  induction l with
  | nil => exact Nat.le_refl _
  | cons b t ih =>
    rw [ahead_cons, List.length_cons]
    split
    · simp
    · rw [List.length_cons]; omega
theorem index_ahead (c : UInt8) (l : List UInt8) : Lib.indexByte l c = if c ∈ l then ((ahead c l).length : Int) else -1 := by
  induction l with
  | nil => simp [Lib.indexByte]
  | cons b t ih =>
    rw [indexByte_cons, ahead_cons]
    by_cases h : b = c
    · rw [if_pos h, if_pos h, if_pos (by rw [h]; exact List.mem_cons_self)]
      rfl
    · rw [if_neg h, if_neg h, ih]
      by_cases hm : c ∈ t
      · rw [if_pos hm, if_pos (List.mem_cons_of_mem _ hm), if_neg (by omega), List.length_cons]
        omega
      · rw [if_neg hm, if_neg (fun e => (List.mem_cons.1 e).elim (fun e => h e.symm) hm), if_pos (by omega)]
theorem cut_eq (l : List UInt8) (c : UInt8) (hl : l.length ≤ 4611686018427387903) : strings_Cut.f (ofL l) ⟨#[c]⟩ = some (ofL (ahead c l), ofL (behind c l), decide (c ∈ l)) := by
  rw [stringsCut_at _ _ (by rw [ofL_size]; exact hl), ofL_list, index_ahead]
  by_cases h : c ∈ l
  · have e := ahead_behind h
    rw [if_pos h, if_pos (by omega), decide_eq_true h, Int.toNat_natCast, extract_ofL, extract_ofL, ofL_size, List.take_length, List.drop_zero]
    have e1 : l.take (ahead c l).length = ahead c l := by
      conv => lhs; rw [e]
      rw [(ahead_at (ahead_not c l)).1]
      simp
    have e2 : l.drop ((ahead c l).length + 1) = behind c l := by
      conv => lhs; rw [e]
      rw [(ahead_at (ahead_not c l)).1]
      simp
    rw [e1, e2]
  · obtain ⟨h1, h2⟩ := ahead_all h
    rw [if_neg h, if_neg (by omega), decide_eq_false h, h1, h2]
    rfl
/-- The pieces between the c's; pre stands ahead of the first. -/
def pieces (c : UInt8) : List UInt8 → List UInt8 → List (List UInt8)
  | pre, [] => [pre]
  | pre, b :: t => if b = c then pre :: pieces c [] t else pieces c (pre ++ [b]) t
theorem pieces_pre {c : UInt8} {a : List UInt8} (h : c ∉ a) (t : List UInt8) : ∀ pre, pieces c pre (a ++ t) = pieces c (pre ++ a) t := by
  induction a with
  | nil => intro pre; simp
  | cons x a ih =>
    intro pre
    rw [List.mem_cons] at h
    rw [List.cons_append, pieces, if_neg (fun e => h (.inl e.symm)), ih (fun e => h (.inr e)), List.append_assoc]
    rfl
theorem pieces_at {c : UInt8} {a : List UInt8} (h : c ∉ a) (b : List UInt8) : pieces c [] (a ++ c :: b) = a :: pieces c [] b := by
  rw [pieces_pre h, pieces, if_pos rfl]
  rfl
theorem pieces_one {c : UInt8} {a : List UInt8} (h : c ∉ a) : pieces c [] a = [a] := by
  have := pieces_pre h [] []
  rw [List.append_nil] at this
  rw [this, pieces]
  rfl
theorem pieces_length (c : UInt8) (l : List UInt8) : ∀ pre, (pieces c pre l).length ≤ l.length + 1 := by
  induction l with
  | nil => intro pre; simp [pieces]
  | cons b t ih =>
    intro pre
    rw [pieces]
    split
    · have := ih []
      rw [List.length_cons, List.length_cons]
      omega
    · have := ih (pre ++ [b])
      rw [List.length_cons]
      omega
theorem pieces_ne (c : UInt8) (l : List UInt8) : ∀ pre, pieces c pre l ≠ [] := by
  induction l with
  | nil => intro pre; simp [pieces]
  | cons b t ih =>
    intro pre
    rw [pieces]
    split
    · simp
    · exact ih _
theorem pieces_sub (c : UInt8) (l : List UInt8) : ∀ pre, ∀ p ∈ pieces c pre l, p.length ≤ pre.length + l.length := by
  induction l with
  | nil => intro pre p hp; simp [pieces] at hp; subst hp; simp
  | cons b t ih =>
    intro pre p hp
    rw [pieces] at hp
    rw [List.length_cons]
    split at hp
    · rcases List.mem_cons.1 hp with rfl | hp
      · omega
      · have := ih [] p hp
        simp at this
        omega
    · have := ih _ p hp
      simp at this
      omega
theorem splitAt_loop (l : List UInt8) (c : UInt8) (hl : l.length ≤ 4194304) : ∀ (t : List UInt8) (i j : Nat) (acc : List ByteArray), l.drop i = t → i ≤ l.length → j ≤ i → acc.length ≤ i →
    Ev (fun k => spec_splitAt.l0 k (ofL l) (c.toNat : Int) acc (j : Int) (i : Int)) (acc ++ (pieces c ((l.take i).drop j) t).map ofL) := by
  have hsz := ofL_size l
  intro t
  induction t with
  | nil =>
    intro i j acc hd hi hj ha
    have hl2 := drop_nil hd
    refine Ev.step (fun k => rfl) (Ev.iteF (by omega) (Ev.iteT (by omega) (Ev.iteT (by omega) (Ev.iteT (by omega) (Ev.some_ ?_)))))
    rw [Int.toNat_natCast, extract_ofL, hsz, pieces, List.take_of_length_le (by omega), List.take_of_length_le (by omega)]
    rfl
  | cons b t ih =>
    intro i j acc hd hi hj ha
    obtain ⟨hl2, hb, ht⟩ := drop_cons hd
    refine Ev.step (fun k => rfl) (Ev.iteT (by omega) (Ev.iteT (by omega) ?_))
    rw [bt_nat _ _ (by rw [ofL_list]; exact hl2)]
    have hb2 : ((ofL l).data.toList[i]'(by rw [ofL_list]; exact hl2)) = b := hb
    rw [hb2, pieces, wrapN (by omega)]
    by_cases h : b = c
    · rw [if_pos h]
      refine Ev.iteT (by rw [h]) (Ev.iteT (by omega) (Ev.iteT (by omega) (Ev.iteT (by omega) (Ev.iteT (by omega) ?_))))
      rw [Int.toNat_natCast, Int.toNat_natCast, extract_ofL]
      have := ih (i + 1) (i + 1) (acc ++ [ofL ((l.take i).drop j)]) ht (by omega) (by omega) (by simp; omega)
      have hz : (l.take (i + 1)).drop (i + 1) = [] := List.drop_of_length_le (by rw [List.length_take]; omega)
      rw [List.append_assoc, hz] at this
      exact this
    · rw [if_neg h]
      refine Ev.iteF (fun e => h (UInt8.toNat_inj.1 (by omega))) ?_
      have := ih (i + 1) j acc ht (by omega) (by omega) (by omega)
      rw [List.take_succ_eq_append_getElem hl2, List.drop_append_of_le_length (by rw [List.length_take]; omega), hb] at this
      exact this
theorem splitAt_ev (l : List UInt8) (c : UInt8) (hl : l.length ≤ 4194304) : Ev (fun k => spec_splitAt.f k (ofL l) (c.toNat : Int)) ((pieces c [] l).map ofL) := by
  have := splitAt_loop l c hl l 0 0 [] rfl (Nat.zero_le _) (Nat.le_refl _) (Nat.le_refl _)
  rw [List.take_zero, List.drop_nil, List.nil_append] at this
  exact this
/-- Where a text first stands in a list of texts; -1 if nowhere. -/
def place (x : ByteArray) : List ByteArray → Nat → Int
  | [], _ => -1
  | y :: t, i => if y = x then (i : Int) else place x t (i + 1)
theorem indexText_loop (l : List ByteArray) (x : ByteArray) (hl : l.length ≤ 4611686018427387903) : ∀ (t : List ByteArray) (i : Nat), l.drop i = t → i ≤ l.length → Ev (fun k => spec_indexText.l0 k l x (i : Int)) (place x t i) := by
  intro t
  induction t with
  | nil =>
    intro i hd hi
    have hl2 := drop_nil hd
    exact Ev.step (fun k => rfl) (Ev.iteF (by omega) (Ev.some_ rfl))
  | cons y t ih =>
    intro i hd hi
    obtain ⟨hl2, hb, ht⟩ := drop_cons hd
    refine Ev.step (fun k => rfl) (Ev.iteT (by omega) (Ev.iteT (by omega) ?_))
    rw [rdOf_nat _ _ _ hl2, hb, place, wrapN (by omega)]
    by_cases h : y = x
    · rw [if_pos h]
      exact Ev.iteT (toList_iff.2 h) (Ev.some_ rfl)
    · rw [if_neg h]
      exact Ev.iteF (fun e => h (toList_iff.1 e)) (ih (i + 1) ht (by omega))
theorem indexText_ev (l : List ByteArray) (x : ByteArray) (hl : l.length ≤ 4611686018427387903) : Ev (fun k => spec_indexText.f k l x) (place x l 0) := indexText_loop l x hl l 0 rfl (Nat.zero_le _)
theorem slicesIndex_loop (l : List ByteArray) (x : ByteArray) (hl : l.length ≤ 4611686018427387903) : ∀ (t : List ByteArray) (i : Nat), l.drop i = t → i ≤ l.length → Ev (fun k => slices_Index_string_string.l0 k l x (l.length : Int) (i : Int)) (place x t i) := by
  intro t
  induction t with
  | nil =>
    intro i hd hi
    have hl2 := drop_nil hd
    exact Ev.step (fun k => rfl) (Ev.iteF (by omega) (Ev.some_ rfl))
  | cons y t ih =>
    intro i hd hi
    obtain ⟨hl2, hb, ht⟩ := drop_cons hd
    refine Ev.step (fun k => rfl) (Ev.iteT (by omega) (Ev.iteT (by omega) (Ev.iteT (by omega) ?_)))
    rw [rdOf_nat _ _ _ hl2, hb, place, wrapN (by omega)]
    by_cases h : y = x
    · rw [if_pos h]
      exact Ev.iteT (toList_iff.2 h.symm) (Ev.some_ rfl)
    · rw [if_neg h]
      exact Ev.iteF (fun e => h (toList_iff.1 e).symm) (ih (i + 1) ht (by omega))
theorem slicesIndex_ev (l : List ByteArray) (x : ByteArray) (hl : l.length ≤ 4611686018427387903) : Ev (fun k => slices_Index_string_string.f k l x) (place x l 0) := slicesIndex_loop l x hl l 0 rfl (Nat.zero_le _)
/-- What a builder's write gives. -/
theorem ws_eq {x s : ByteArray} (h : x.size + s.size ≤ 140737488355328) : impl_WS.f x s = some (x ++ s) := if_pos h
theorem cat_assoc (a b c : ByteArray) : (a ++ b) ++ c = a ++ (b ++ c) := ByteArray.append_assoc
/-- Is this an event of a plan? -/
def evOk (e : S70) : Bool := if e.f0 = 0 ∨ e.f0 = 1 then nameS e.f1 else if e.f0 = 2 then idS e.f1 else false
def evWord (n : Int) : ByteArray := if n = 0 then ⟨#[117, 112]⟩ else if n = 1 then ⟨#[100, 111, 119, 110]⟩ else ⟨#[116, 101, 115, 116]⟩
/-- The line of an event. -/
def evText (e : S70) : ByteArray := evWord e.f0 ++ (⟨#[32]⟩ ++ (e.f1 ++ ⟨#[10]⟩))
def planGo : ByteArray → List S70 → ByteArray
  | acc, [] => acc
  | acc, e :: t => if evOk e = true then planGo (acc ++ evText e) t else ⟨#[]⟩
def planT (l : List S70) : ByteArray := planGo ⟨#[]⟩ l
theorem evWord_size (n : Int) : (evWord n).size ≤ 4 := by
  unfold evWord
  split
  · decide
  · split <;> decide
theorem evText_size (e : S70) : (evText e).size ≤ e.f1.size + 6 := by
  have := evWord_size e.f0
  unfold evText
  rw [ByteArray.size_append, ByteArray.size_append, ByteArray.size_append]
  have e1 : (⟨#[32]⟩ : ByteArray).size = 1 := rfl
  have e2 : (⟨#[10]⟩ : ByteArray).size = 1 := rfl
  omega
structure EvSizes (l : List S70) : Prop where
  len : l.length ≤ 1048576
  one : ∀ e ∈ l, e.f1.size ≤ 4194304
theorem implPlan_loop (l : List S70) (h : EvSizes l) : ∀ (t : List S70) (i : Nat) (acc : ByteArray), l.drop i = t → i ≤ l.length → acc.size ≤ i * 4194400 →
    Ev (fun k => impl_PlanText.l0 k acc l (l.length : Int) (i : Int)) (planGo acc t) := by
  intro t
  have hlen := h.len
  induction t with
  | nil =>
    intro i acc hd hi ha
    have hl2 := drop_nil hd
    exact Ev.step (fun k => rfl) (Ev.iteF (by omega) (Ev.bind0 rfl (Ev.some_ rfl)))
  | cons e t ih =>
    intro i acc hd hi ha
    obtain ⟨hl2, hb, ht⟩ := drop_cons hd
    have hs : e.f1.size ≤ 4194304 := h.one e (hb ▸ List.getElem_mem hl2)
    have hts := evText_size e
    have hmul : i * 4194400 ≤ 1048576 * 4194400 := by omega
    have e3 : ∀ (a : ByteArray), a.size ≤ 5 → (acc ++ a).size + (e.f1 ++ (⟨#[10]⟩ : ByteArray)).size ≤ 140737488355328 := by
      intro a ha2
      rw [ByteArray.size_append, ByteArray.size_append]
      have e2 : (⟨#[10]⟩ : ByteArray).size = 1 := rfl
      omega
    have next : evOk e = true → Ev (fun k => impl_PlanText.l0 k (acc ++ evText e) l (l.length : Int) (wrap64 ((i : Int) + 1))) (planGo (acc ++ evText e) t) := fun _ => by
      rw [wrapN (by omega)]
      refine ih (i + 1) _ ht (by omega) ?_
      rw [ByteArray.size_append]
      omega
    have line : ∀ (a b : ByteArray), a = b ++ ⟨#[32]⟩ → b = evWord e.f0 → (acc ++ a) ++ (e.f1 ++ (⟨#[10]⟩ : ByteArray)) = acc ++ evText e := by
      intro a b h1 h2
      rw [h1, cat_assoc, cat_assoc, h2]
      rfl
    refine Ev.step (fun k => rfl) (Ev.iteT (by omega) (Ev.iteT (by omega) (Ev.iteT (by omega) ?_)))
    rw [rdIEvent_nat _ _ hl2, hb]
    have hn := nameOk_ev e.f1 (by omega)
    have hid := idOk_ev e.f1 (by omega)
    unfold planGo
    generalize hres : (if evOk e = true then planGo (acc ++ evText e) t else ⟨#[]⟩) = res
    have ok2 : e.f0 = 2 → evOk e = idS e.f1 := fun n2 => by
      unfold evOk
      rw [if_neg (by omega), if_pos n2]
    have ok01 : e.f0 = 0 ∨ e.f0 = 1 → evOk e = nameS e.f1 := fun n => by
      unfold evOk
      rw [if_pos n]
    have j3 : ∀ b, evOk e = b → (b = true → e.f0 = 2) → Ev (fun k => impl_PlanText.j3 k acc l (l.length : Int) (i : Int) b e.f0 e.f1) res := by
      intro b hb n2
      rw [hb] at hres
      by_cases c : b = true
      · rw [if_pos c] at hres
        subst hres
        refine Ev.step (fun k => rfl) (Ev.iteT c (Ev.bind0 (ws_eq (by have : (⟨#[116, 101, 115, 116, 32]⟩ : ByteArray).size = 5 := rfl; omega)) (Ev.iteT (by omega) (Ev.bind0 (ws_eq (e3 _ (by decide))) ?_))))
        rw [line _ ⟨#[116, 101, 115, 116]⟩ (by decide) (by rw [n2 c]; rfl)]
        exact next (hb.trans c)
      · rw [if_neg c] at hres
        exact Ev.step (fun k => rfl) (Ev.iteF c (Ev.some_ hres))
    have j2 : ∀ b, (b = true → evOk e = true ∧ e.f0 = 1) → (¬ b = true → evOk e = true → e.f0 = 2) → Ev (fun k => impl_PlanText.j2 k acc l (l.length : Int) (i : Int) b e.f0 e.f1) res := by
      intro b h1 h2
      by_cases c : b = true
      · obtain ⟨hk, n1⟩ := h1 c
        rw [if_pos hk] at hres
        subst hres
        refine Ev.step (fun k => rfl) (Ev.iteT c (Ev.bind0 (ws_eq (by have : (⟨#[100, 111, 119, 110, 32]⟩ : ByteArray).size = 5 := rfl; omega)) (Ev.iteT (by omega) (Ev.bind0 (ws_eq (e3 _ (by decide))) ?_))))
        rw [line _ ⟨#[100, 111, 119, 110]⟩ (by decide) (by rw [n1]; rfl)]
        exact next hk
      · refine Ev.step (fun k => rfl) (Ev.iteF c ?_)
        by_cases n2 : e.f0 = 2
        · exact Ev.iteT n2 (Ev.bind hid (j3 _ (ok2 n2) (fun _ => n2)))
        · exact Ev.iteF n2 (j3 false (Bool.eq_false_iff.2 (fun h => n2 (h2 c h))) (fun h => by cases h))
    have j1 : ∀ b, (b = true → evOk e = true ∧ e.f0 = 0) → (¬ b = true → evOk e = true → e.f0 ≠ 0) → Ev (fun k => impl_PlanText.j1 k acc l (l.length : Int) (i : Int) b e.f0 e.f1) res := by
      intro b h1 h2
      by_cases c : b = true
      · obtain ⟨hk, n0⟩ := h1 c
        rw [if_pos hk] at hres
        subst hres
        refine Ev.step (fun k => rfl) (Ev.iteT c (Ev.bind0 (ws_eq (by have : (⟨#[117, 112, 32]⟩ : ByteArray).size = 3 := rfl; omega)) (Ev.iteT (by omega) (Ev.bind0 (ws_eq (e3 _ (by decide))) ?_))))
        rw [line _ ⟨#[117, 112]⟩ (by decide) (by rw [n0]; rfl)]
        exact next hk
      · refine Ev.step (fun k => rfl) (Ev.iteF c ?_)
        by_cases n1 : e.f0 = 1
        · refine Ev.iteT n1 (Ev.bind hn (j2 _ (fun h => ⟨(ok01 (.inr n1)).trans h, n1⟩) (fun h h3 => absurd ((ok01 (.inr n1)).symm.trans h3) h)))
        · refine Ev.iteF n1 (j2 false (fun h => by cases h) (fun _ h3 => ?_))
          have h4 := h2 c h3
          by_cases n2 : e.f0 = 2
          · exact n2
          · unfold evOk at h3
            rw [if_neg (by omega), if_neg n2] at h3
            cases h3
    by_cases n0 : e.f0 = 0
    · exact Ev.iteT n0 (Ev.bind hn (j1 _ (fun h => ⟨(ok01 (.inl n0)).trans h, n0⟩) (fun h h3 => absurd ((ok01 (.inl n0)).symm.trans h3) h)))
    · exact Ev.iteF n0 (j1 false (fun h => by cases h) (fun _ _ => n0))
theorem implPlan_ev (l : List S70) (h : EvSizes l) : Ev (fun k => impl_PlanText.f k l) (planT l) := by
  have hlen := h.len
  exact implPlan_loop l h l 0 ⟨#[]⟩ rfl (Nat.zero_le _) (Nat.le_refl _)
theorem validEvent_ev (e : S70) (hs : e.f1.size ≤ 4194304) : Ev (fun k => spec_validEvent.f k e.f0 e.f1) (evOk e) := by
  have hn := validName_ev e.f1 (by omega)
  have hid := validId_ev e.f1 (by omega)
  unfold spec_validEvent.f evOk
  by_cases n0 : e.f0 = 0
  · rw [if_pos (show e.f0 = 0 ∨ e.f0 = 1 by omega)]
    refine Ev.iteT n0 ?_
    exact Ev.step (fun k => rfl) (Ev.iteT (beq_iff_eq.2 n0) (Ev.bind hn (Ev.some_ rfl)))
  · refine Ev.iteF n0 ?_
    by_cases n1 : e.f0 = 1
    · rw [if_pos (show e.f0 = 0 ∨ e.f0 = 1 by omega)]
      exact Ev.step (fun k => rfl) (Ev.iteT (beq_iff_eq.2 n1) (Ev.bind hn (Ev.some_ rfl)))
    · rw [if_neg (show ¬ (e.f0 = 0 ∨ e.f0 = 1) by omega)]
      refine Ev.step (fun k => rfl) (Ev.iteF (fun h => n1 (beq_iff_eq.1 h)) ?_)
      by_cases n2 : e.f0 = 2
      · rw [if_pos n2]
        exact Ev.iteT n2 (Ev.bind hid (Ev.some_ rfl))
      · rw [if_neg n2]
        exact Ev.iteF n2 (Ev.some_ rfl)
theorem evOk_kind {e : S70} (h : evOk e = true) : 0 ≤ e.f0 ∧ e.f0 ≤ 2 := by
  unfold evOk at h
  by_cases n0 : e.f0 = 0 ∨ e.f0 = 1
  · omega
  · rw [if_neg n0] at h
    by_cases n2 : e.f0 = 2
    · omega
    · rw [if_neg n2] at h
      cases h
theorem name_low {x : ByteArray} (h : nameS x = true) : ∀ b ∈ x.data.toList, lowB b = true := by
  unfold nameS at h
  rw [Bool.and_eq_true, List.all_eq_true] at h
  exact h.1
theorem low_ne {b : UInt8} (h : lowB b = true) : b ≠ 10 ∧ b ≠ 32 ∧ b ≠ 46 := by
  refine ⟨?_, ?_, ?_⟩ <;> (rintro rfl; exact absurd h (by decide))
theorem id_low {x : ByteArray} (h : idS x = true) : ∀ b ∈ x.data.toList, lowB b = true ∨ b = 46 := by
  obtain ⟨l, rfl⟩ : ∃ l, x = ofL l := ⟨_, (ofL_data x).symm⟩
  unfold idS at h
  rw [ofL_list, index_ahead, Bool.and_eq_true, Bool.and_eq_true] at h
  obtain ⟨h1, h2, h3⟩ := h
  by_cases hm : (46 : UInt8) ∈ l
  · rw [if_pos hm, Int.toNat_natCast, extract_ofL, List.drop_zero] at h2
    rw [if_pos hm, Int.toNat_natCast, extract_ofL, ofL_size, List.take_length] at h3
    have e := ahead_behind hm
    have e1 : l.take (ahead 46 l).length = ahead 46 l := by
      conv => lhs; rw [e]
      rw [(ahead_at (ahead_not 46 l)).1]
      simp
    have e2 : l.drop ((ahead 46 l).length + 1) = behind 46 l := by
      conv => lhs; rw [e]
      rw [(ahead_at (ahead_not 46 l)).1]
      simp
    rw [e1] at h2
    rw [e2] at h3
    intro b hb
    rw [ofL_list, e] at hb
    rcases List.mem_append.1 hb with hb | hb
    · exact .inl (name_low h2 b hb)
    · rcases List.mem_cons.1 hb with hb | hb
      · exact .inr hb
      · exact .inl (name_low h3 b hb)
  · rw [if_neg hm] at h1
    exact absurd h1 (by decide)
theorem ok_bytes {e : S70} (h : evOk e = true) : (10 : UInt8) ∉ e.f1.data.toList ∧ (32 : UInt8) ∉ e.f1.data.toList := by
  have key : ∀ b ∈ e.f1.data.toList, b ≠ 10 ∧ b ≠ 32 := by
    intro b hb
    unfold evOk at h
    by_cases n0 : e.f0 = 0 ∨ e.f0 = 1
    · rw [if_pos n0] at h
      have := low_ne (name_low h b hb)
      exact ⟨this.1, this.2.1⟩
    · rw [if_neg n0] at h
      by_cases n2 : e.f0 = 2
      · rw [if_pos n2] at h
        rcases id_low h b hb with h1 | h1
        · have := low_ne h1
          exact ⟨this.1, this.2.1⟩
        · subst h1
          exact ⟨by decide, by decide⟩
      · rw [if_neg n2] at h
        cases h
  exact ⟨fun hb => (key _ hb).1 rfl, fun hb => (key _ hb).2 rfl⟩
def evWords : List ByteArray := [⟨#[117, 112]⟩, ⟨#[100, 111, 119, 110]⟩, ⟨#[116, 101, 115, 116]⟩]
def wordB (n : Int) : List UInt8 := if n = 0 then [117, 112] else if n = 1 then [100, 111, 119, 110] else [116, 101, 115, 116]
theorem wordB_of (n : Int) : evWord n = ofL (wordB n) := by
  unfold evWord wordB
  split
  · rfl
  · split <;> rfl
theorem wordB_not (n : Int) : (10 : UInt8) ∉ wordB n ∧ (32 : UInt8) ∉ wordB n := by
  unfold wordB
  split
  · decide
  · split <;> decide
theorem place_word {n : Int} (h : 0 ≤ n ∧ n ≤ 2) : place (ofL (wordB n)) evWords 0 = n := by
  rcases (show n = 0 ∨ n = 1 ∨ n = 2 by omega) with rfl | rfl | rfl <;> decide
theorem place_back {x : List UInt8} (h : 0 ≤ place (ofL x) evWords 0) : x = wordB (place (ofL x) evWords 0) := by
  unfold evWords at h ⊢
  simp only [place] at h ⊢
  by_cases h0 : (⟨#[117, 112]⟩ : ByteArray) = ofL x
  · rw [if_pos h0]
    exact (ofL_inj (a := [117, 112]) h0).symm
  · rw [if_neg h0] at h ⊢
    by_cases h1 : (⟨#[100, 111, 119, 110]⟩ : ByteArray) = ofL x
    · rw [if_pos h1]
      exact (ofL_inj (a := [100, 111, 119, 110]) h1).symm
    · rw [if_neg h1] at h ⊢
      by_cases h2 : (⟨#[116, 101, 115, 116]⟩ : ByteArray) = ofL x
      · rw [if_pos h2]
        exact (ofL_inj (a := [116, 101, 115, 116]) h2).symm
      · rw [if_neg h2] at h
        omega
/-- The bytes of an event's line, without its end. -/
def lineB (e : S70) : List UInt8 := wordB e.f0 ++ 32 :: e.f1.data.toList
theorem evText_line (e : S70) : evText e = ofL (lineB e ++ [10]) := by
  unfold evText lineB
  rw [wordB_of, show (⟨#[32]⟩ : ByteArray) = ofL [32] from rfl, show (⟨#[10]⟩ : ByteArray) = ofL [10] from rfl]
  conv => lhs; rw [← ofL_data e.f1]
  rw [ofL_append, ofL_append, ofL_append]
  simp
def planB (l : List S70) : List UInt8 := (l.map (fun e => lineB e ++ [10])).flatten
theorem planGo_all : ∀ (l : List S70) (acc : List UInt8), planGo (ofL acc) l = if l.all evOk = true then ofL (acc ++ planB l) else ⟨#[]⟩
  | [], acc => by simp [planGo, planB]
  | e :: t, acc => by
    rw [planGo, List.all_cons]
    by_cases c : evOk e = true
    · rw [if_pos c, c, Bool.true_and, evText_line, ofL_append, planGo_all t]
      simp [planB]
    · rw [if_neg c, Bool.eq_false_iff.2 c, Bool.false_and, if_neg (by decide)]
theorem planT_all (l : List S70) : planT l = if l.all evOk = true then ofL (planB l) else ⟨#[]⟩ := by
  have := planGo_all l []
  rw [List.nil_append] at this
  exact this
theorem line_not {e : S70} (h : evOk e = true) : (10 : UInt8) ∉ lineB e := by
  obtain ⟨h1, _⟩ := ok_bytes h
  unfold lineB
  rw [List.mem_append, List.mem_cons]
  rintro (h2 | h2 | h2)
  · exact (wordB_not _).1 h2
  · exact absurd h2 (by decide)
  · exact h1 h2
theorem plan_pieces : ∀ (l : List S70), l.all evOk = true → pieces 10 [] (planB l) = l.map lineB ++ [[]]
  | [], _ => rfl
  | e :: t, h => by
    rw [List.all_cons, Bool.and_eq_true] at h
    have e1 : planB (e :: t) = lineB e ++ 10 :: planB t := by simp [planB]
    rw [e1, pieces_at (line_not h.1), plan_pieces t h.2]
    rfl
theorem line_pieces {e : S70} (h : evOk e = true) : pieces 32 [] (lineB e) = [wordB e.f0, e.f1.data.toList] := by
  unfold lineB
  rw [pieces_at (wordB_not _).2, pieces_one (ok_bytes h).2]
/-- What is put together of its pieces. -/
def glue : List (List UInt8) → List UInt8
  | [] => []
  | [x] => x
  | x :: y :: t => x ++ 10 :: glue (y :: t)
theorem glue_cons (x : List UInt8) {P : List (List UInt8)} (h : P ≠ []) : glue (x :: P) = x ++ 10 :: glue P := by
  cases P with
  | nil => exact absurd rfl h
  | cons y t => rfl
theorem glue_pieces (l : List UInt8) : ∀ pre, glue (pieces 10 pre l) = pre ++ l := by
  induction l with
  | nil => intro pre; simp [pieces, glue]
  | cons b t ih =>
    intro pre
    rw [pieces]
    by_cases h : b = 10
    · rw [if_pos h, glue_cons _ (pieces_ne _ _ _), ih [], h]
      rfl
    · rw [if_neg h, ih, List.append_assoc]
      rfl
theorem glue_lines : ∀ (l : List S70), glue (l.map lineB ++ [[]]) = planB l
  | [] => rfl
  | e :: t => by
    rw [List.map_cons, List.cons_append, glue_cons _ (by simp), glue_lines t]
    simp [planB]
/-- The reference's reading of the pieces. -/
def specGo : List S70 → List (List UInt8) → List S70 × Bool
  | _, [] => ([], false)
  | acc, [x] => if x = [] then (acc, true) else ([], false)
  | acc, x :: y :: t => match pieces 32 [] x with
    | [a, b] => if evOk ⟨place (ofL a) evWords 0, ofL b⟩ = true then specGo (acc ++ [⟨place (ofL a) evWords 0, ofL b⟩]) (y :: t) else ([], false)
    | _ => ([], false)
theorem specGo_no : ∀ (P : List (List UInt8)) (acc : List S70), (specGo acc P).2 = false → specGo acc P = ([], false)
  | [], acc, _ => rfl
  | [x], acc, h => by
    unfold specGo at h ⊢
    by_cases c : x = []
    · rw [if_pos c] at h; cases h
    · rw [if_neg c]
  | x :: y :: t, acc, h => by
    unfold specGo at h ⊢
    generalize pieces 32 [] x = q at h ⊢
    match q with
    | [] => rfl
    | [_] => rfl
    | _ :: _ :: _ :: _ => rfl
    | [a, b] =>
      simp only at h ⊢
      by_cases c : evOk ⟨place (ofL a) evWords 0, ofL b⟩ = true
      · rw [if_pos c] at h ⊢
        exact specGo_no (y :: t) _ h
      · rw [if_neg c]
theorem specGo_yes : ∀ (P : List (List UInt8)) (acc es : List S70), specGo acc P = (es, true) → ∃ l, es = acc ++ l ∧ P = l.map lineB ++ [[]] ∧ l.all evOk = true
  | [], acc, es, h => by simp [specGo] at h
  | [x], acc, es, h => by
    unfold specGo at h
    by_cases c : x = []
    · rw [if_pos c] at h
      exact ⟨[], by rw [← (Prod.mk.inj h).1]; simp, by rw [c]; rfl, rfl⟩
    · rw [if_neg c] at h; cases h
  | x :: y :: t, acc, es, h => by
    unfold specGo at h
    have hx := glue_pieces
    generalize hq : pieces 32 [] x = q at h
    match q with
    | [] => cases h
    | [_] => cases h
    | _ :: _ :: _ :: _ => cases h
    | [a, b] =>
      simp only at h
      by_cases c : evOk ⟨place (ofL a) evWords 0, ofL b⟩ = true
      · rw [if_pos c] at h
        obtain ⟨l, h1, h2, h3⟩ := specGo_yes (y :: t) _ es h
        refine ⟨⟨place (ofL a) evWords 0, ofL b⟩ :: l, by rw [h1]; simp, ?_, by rw [List.all_cons, c, h3]; rfl⟩
        have hk := evOk_kind c
        have hab : x = a ++ 32 :: b := by
          have hm : (32 : UInt8) ∈ x := by
            by_cases hm : (32 : UInt8) ∈ x
            · exact hm
            · rw [pieces_one hm] at hq; cases hq
          have e := ahead_behind hm
          rw [e, pieces_at (ahead_not 32 x)] at hq
          obtain ⟨h4, h5⟩ := List.cons.inj hq
          have hm2 : (32 : UInt8) ∉ behind 32 x := by
            intro hm2
            rw [ahead_behind hm2, pieces_at (ahead_not _ _)] at h5
            have := congrArg List.length h5
            have h6 := pieces_ne 32 (behind 32 (behind 32 x)) []
            rw [List.length_cons, List.length_cons] at this
            cases hp : pieces 32 [] (behind 32 (behind 32 x)) with
            | nil => exact h6 hp
            | cons _ _ => rw [hp] at this; simp at this
          rw [pieces_one hm2] at h5
          rw [e, ← h4, (List.cons.inj h5).1]
        rw [List.map_cons, List.cons_append, ← h2]
        congr 1
        unfold lineB
        rw [ofL_list, hab]
        congr 1
        exact place_back hk.1
      · rw [if_neg c] at h; cases h
theorem specGo_ok : ∀ (l acc : List S70), l.all evOk = true → specGo acc (l.map lineB ++ [[]]) = (acc ++ l, true)
  | [], acc, _ => by simp [specGo]
  | e :: t, acc, h => by
    rw [List.all_cons, Bool.and_eq_true] at h
    have hk := evOk_kind h.1
    have ee : (⟨place (ofL (wordB e.f0)) evWords 0, ofL e.f1.data.toList⟩ : S70) = e := by rw [place_word hk, ofL_data]
    have hn : ∃ y q, t.map lineB ++ [[]] = y :: q := by cases t <;> exact ⟨_, _, rfl⟩
    obtain ⟨y, q, hy⟩ := hn
    have ih := specGo_ok t (acc ++ [e]) h.2
    rw [List.map_cons, List.cons_append, hy]
    rw [hy] at ih
    unfold specGo
    rw [line_pieces h.1]
    simp only
    rw [ee, if_pos h.1, ih, List.append_assoc]
    rfl
/-- The program's lines: the pieces without an empty last one. -/
def trimE : List (List UInt8) → List (List UInt8)
  | [] => []
  | [x] => if x = [] then [] else [x]
  | x :: y :: t => x :: trimE (y :: t)
theorem trimE_cons (x : List UInt8) {P : List (List UInt8)} (h : P ≠ []) : trimE (x :: P) = x :: trimE P := by
  cases P with
  | nil => exact absurd rfl h
  | cons y t => rfl
theorem trimE_lines : ∀ (L : List (List UInt8)), trimE (L ++ [[]]) = L
  | [] => rfl
  | x :: t => by rw [List.cons_append, trimE_cons _ (by simp), trimE_lines t]
def lineEv (x : List UInt8) : S70 := ⟨place (ofL (ahead 32 x)) evWords 0, ofL (behind 32 x)⟩
theorem lineEv_line {e : S70} (h : evOk e = true) : lineEv (lineB e) = e := by
  unfold lineEv lineB
  obtain ⟨h1, h2⟩ := ahead_at (b := e.f1.data.toList) (wordB_not e.f0).2
  rw [h1, h2, place_word (evOk_kind h), ofL_data]
def readP (s : List UInt8) : List S70 := (trimE (pieces 10 [] s)).map lineEv
def resP (s : List UInt8) : List S70 × Bool := if planT (readP s) = ofL s then (readP s, true) else ([], false)
theorem readP_plan {l : List S70} (h : l.all evOk = true) : readP (planB l) = l := by
  unfold readP
  rw [plan_pieces l h, trimE_lines, List.map_map]
  rw [List.all_eq_true] at h
  conv => rhs; rw [← List.map_id l]
  exact List.map_congr_left (fun e he => lineEv_line (h e he))
theorem specGo_res (s : List UInt8) : specGo [] (pieces 10 [] s) = resP s := by
  unfold resP
  cases hb : (specGo [] (pieces 10 [] s)).2 with
  | true =>
    obtain ⟨es, hes⟩ : ∃ es, specGo [] (pieces 10 [] s) = (es, true) := ⟨_, Prod.ext rfl hb⟩
    obtain ⟨l, h1, h2, h3⟩ := specGo_yes _ _ _ hes
    rw [List.nil_append] at h1
    subst h1
    have hs : s = planB es := by
      have := glue_pieces s []
      rw [h2, glue_lines, List.nil_append] at this
      exact this.symm
    rw [hes, hs, readP_plan h3, planT_all, if_pos h3, if_pos rfl]
  | false =>
    rw [specGo_no _ _ hb, if_neg]
    intro hp
    rw [planT_all] at hp
    by_cases c : (readP s).all evOk = true
    · rw [if_pos c] at hp
      have hs := ofL_inj hp
      have h4 := specGo_ok (readP s) [] c
      rw [← plan_pieces _ c, hs] at h4
      rw [h4] at hb
      cases hb
    · rw [if_neg c] at hp
      have hs : s = [] := (ofL_inj (a := []) hp).symm
      subst hs
      exact c rfl
theorem pieces_len (s : List UInt8) : (readP s).length ≤ s.length + 1 := by
  have key : ∀ (P : List (List UInt8)), (trimE P).length ≤ P.length := by
    intro P
    induction P with
    | nil => exact Nat.le_refl _
    | cons x P ih =>
      cases P with
      | nil => unfold trimE; split <;> simp
      | cons y t => rw [trimE_cons _ (by simp), List.length_cons, List.length_cons]; omega
  unfold readP
  rw [List.length_map]
  have := key (pieces 10 [] s)
  have := pieces_length 10 s []
  omega
theorem implParse_loop (s : List UInt8) (hs : s.length ≤ 1048576) : ∀ (n : Nat) (rest : List UInt8) (acc : List S70), rest.length ≤ n → acc.length + rest.length ≤ 1048576 → (∀ e ∈ acc, e.f1.size ≤ 1048576) →
    Ev (fun k => impl_ParsePlan.l0 k (ofL s) acc (ofL rest)) (if planT (acc ++ readP rest) = ofL s then (acc ++ readP rest, true) else ([], false)) := by
  have fin : ∀ (acc : List S70), acc.length ≤ 1048576 → (∀ e ∈ acc, e.f1.size ≤ 1048576) → Ev (fun k => impl_ParsePlan.l0 k (ofL s) acc (ofL [])) (if planT acc = ofL s then (acc, true) else ([], false)) := by
    intro acc h1 h2
    refine Ev.step (fun k => rfl) (Ev.iteT (ofL_toList []) (Ev.bind (implPlan_ev acc ⟨h1, fun e he => by have := h2 e he; omega⟩) ?_))
    by_cases c : planT acc = ofL s
    · rw [if_pos c]
      exact Ev.iteT (by rw [c]) (Ev.some_ rfl)
    · rw [if_neg c]
      exact Ev.iteF (fun e => c (toList_inj e)) (Ev.some_ rfl)
  intro n
  induction n with
  | zero =>
    intro rest acc h1 h2 h3
    obtain rfl : rest = [] := List.length_eq_zero_iff.1 (by omega)
    rw [show readP [] = [] from rfl, List.append_nil]
    exact fin acc (by omega) h3
  | succ n ih =>
    intro rest acc h1 h2 h3
    by_cases hr : rest = []
    · subst hr
      rw [show readP [] = [] from rfl, List.append_nil]
      exact fin acc (by omega) h3
    · have hb := behind_lt 10 rest hr
      have hal := ahead_length 10 rest
      refine Ev.step (fun k => rfl) (Ev.iteF (by rw [ofL_toList]; exact hr) (Ev.bind0 (cut_eq rest 10 (by omega)) (Ev.bind0 (cut_eq (ahead 10 rest) 32 (by omega)) ?_)))
      refine Ev.bind (slicesIndex_ev evWords _ (by decide)) (Ev.iteT (by omega) ?_)
      have hone : (ofL (behind 32 (ahead 10 rest))).size ≤ 1048576 := by
        rw [ofL_size]
        have := behind_length 32 (ahead 10 rest)
        omega
      have h4 : ∀ e ∈ acc ++ [lineEv (ahead 10 rest)], e.f1.size ≤ 1048576 := by
        intro e he
        rcases List.mem_append.1 he with he | he
        · exact h3 e he
        · rw [List.mem_singleton] at he
          subst he
          exact hone
      have hread : readP rest = lineEv (ahead 10 rest) :: readP (behind 10 rest) := by
        unfold readP
        by_cases hm : (10 : UInt8) ∈ rest
        · conv => lhs; rw [ahead_behind hm]
          rw [pieces_at (ahead_not 10 rest), trimE_cons _ (pieces_ne _ _ _)]
          rfl
        · obtain ⟨e1, e2⟩ := ahead_all hm
          rw [e1, e2, pieces_one hm]
          unfold trimE
          rw [if_neg hr]
          rfl
      have := ih (behind 10 rest) (acc ++ [lineEv (ahead 10 rest)]) (by omega) (by simp; omega) h4
      rw [hread, show acc ++ lineEv (ahead 10 rest) :: readP (behind 10 rest) = (acc ++ [lineEv (ahead 10 rest)]) ++ readP (behind 10 rest) by simp]
      exact this
theorem implParse_ev (s : List UInt8) (hs : s.length ≤ 1048576) : Ev (fun k => impl_ParsePlan.f k (ofL s)) (resP s) := by
  have := implParse_loop s hs s.length s [] (Nat.le_refl _) (by simpa using hs) (by simp)
  rw [List.nil_append] at this
  exact this
theorem specParse_loop (L : List (List UInt8)) (hL : L.length ≤ 2097152) (hp : ∀ p ∈ L, p.length ≤ 1048576) : ∀ (t : List (List UInt8)) (i : Nat) (acc : List S70), L.drop i = t → t ≠ [] → acc.length ≤ i →
    Ev (fun k => spec_ParsePlan.l0 k acc (L.map ofL) (i : Int)) (specGo acc t) := by
  have hlen : (L.map ofL).length = L.length := List.length_map _
  intro t
  induction t with
  | nil => intro i acc _ h; exact absurd rfl h
  | cons x t ih =>
    intro i acc hd _ ha
    obtain ⟨hi, hb, ht⟩ := drop_cons hd
    have hx : x.length ≤ 1048576 := hp x (hb ▸ List.getElem_mem hi)
    have hdl : (L.drop i).length = t.length + 1 := by rw [hd]; rfl
    rw [List.length_drop] at hdl
    have hread : rdOf ByteArray.empty (L.map ofL) (i : Int) = ofL x := by
      rw [rdOf_nat _ _ _ (by rw [hlen]; exact hi), List.getElem_map, hb]
    cases t with
    | nil =>
      refine Ev.step (fun k => rfl) (Ev.iteF (by rw [wrapN (by omega), hlen]; simp at hdl; omega) ?_)
      have ew : wrap64 (((L.map ofL).length : Int) - 1) = (i : Int) := by rw [wrapI (by omega), hlen]; simp at hdl; omega
      rw [ew, hread]
      refine Ev.iteT (by omega) (Ev.iteT (by rw [hlen]; omega) ?_)
      unfold specGo
      by_cases c : x = []
      · rw [if_pos c]
        exact Ev.iteT (by rw [ofL_toList, c]) (Ev.some_ rfl)
      · rw [if_neg c]
        exact Ev.iteF (by rw [ofL_toList]; exact c) (Ev.some_ rfl)
    | cons y t =>
      rw [List.length_cons] at hdl
      refine Ev.step (fun k => rfl) (Ev.iteT (by rw [wrapN (by omega), hlen]; omega) (Ev.iteT (by omega) (Ev.iteT (by rw [hlen]; omega) ?_)))
      rw [hread]
      refine Ev.bind (splitAt_ev x 32 (by omega)) ?_
      unfold specGo
      have hsub : ∀ p ∈ pieces 32 [] x, p.length ≤ 1048576 := fun p hp1 => by have := pieces_sub 32 x [] p hp1; simp at this; omega
      generalize pieces 32 [] x = q at hsub ⊢
      have key : ∀ (a b : List UInt8), q = [a, b] → Ev (fun k => spec_ParsePlan.l0 k (acc ++ [⟨place (ofL a) evWords 0, ofL b⟩]) (L.map ofL) (wrap64 ((i : Int) + 1))) (specGo (acc ++ [⟨place (ofL a) evWords 0, ofL b⟩]) (y :: t)) := by
        intro a b _
        rw [wrapN (by omega)]
        exact ih (i + 1) _ ht (by simp) (by simp; omega)
      match q, key, hsub with
      | [], _, _ => exact Ev.iteF (by simp) (Ev.some_ rfl)
      | [_], _, _ => exact Ev.iteF (by simp) (Ev.some_ rfl)
      | _ :: _ :: _ :: r, _, _ => exact Ev.iteF (by simp; omega) (Ev.some_ rfl)
      | [a, b], key, hsub =>
        have hbl := hsub b (by simp)
        show Ev _ (if evOk ⟨place (ofL a) evWords 0, ofL b⟩ = true then specGo (acc ++ [⟨place (ofL a) evWords 0, ofL b⟩]) (y :: t) else ([], false))
        refine Ev.iteT (by simp) (Ev.bind0 (show spec_eventWords.f = some evWords from rfl) (Ev.iteT (by simp) (Ev.bind (indexText_ev evWords (ofL a) (by decide)) (Ev.iteT (by simp) ?_))))
        refine Ev.bind (validEvent_ev ⟨place (ofL a) evWords 0, ofL b⟩ (by show (ofL b).size ≤ _; rw [ofL_size]; omega)) ?_
        by_cases c : evOk ⟨place (ofL a) evWords 0, ofL b⟩ = true
        · rw [if_pos c]
          exact Ev.iteT c (Ev.iteT (by omega) (key a b rfl))
        · rw [if_neg c]
          exact Ev.iteF c (Ev.some_ rfl)
theorem specParse_ev (s : List UInt8) (hs : s.length ≤ 1048576) : Ev (fun k => spec_ParsePlan.f k (ofL s)) (resP s) := by
  unfold spec_ParsePlan.f
  refine Ev.bind (splitAt_ev s 10 (by omega)) ?_
  rw [← specGo_res]
  exact specParse_loop (pieces 10 [] s) (by have := pieces_length 10 s []; omega) (fun p hp => by have := pieces_sub 10 s [] p hp; simp at this; omega) (pieces 10 [] s) 0 [] rfl (pieces_ne _ _ _) (Nat.le_refl _)
end Go.Proofs.Ytieghkchhjailaa.P
