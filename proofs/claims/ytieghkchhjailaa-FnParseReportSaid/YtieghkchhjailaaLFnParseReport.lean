/- Plain laws, without Go, that the law FnParseReport leans on. No condition. -/
import Derived.Test.YtieghkchhjailaaPx0
import Derived.Test.YtieghkchhjailaaPx4
import Derived.Test.YtieghkchhjailaaPx5
import Derived.Test.YtieghkchhjailaaPx9
import Derived.Test.YtieghkchhjailaaPx10
import Derived.Test.YtieghkchhjailaaPx11
import Derived.Test.YtieghkchhjailaaPx12
import Derived.Test.YtieghkchhjailaaPx16
import Derived.Test.YtieghkchhjailaaPx20
import Derived.Test.YtieghkchhjailaaPx22
import Derived.Test.YtieghkchhjailaaPx23
import Derived.Test.YtieghkchhjailaaPx27
import Derived.Test.YtieghkchhjailaaPx28
import Derived.Test.YtieghkchhjailaaPx29
import Derived.Test.YtieghkchhjailaaPx32
import Derived.Test.YtieghkchhjailaaWMore
import Derived.IntWalk
import Derived.Laws.BitsLemmas
import Derived.Lib.Bytealg
import Derived.Lib.Strings
set_option linter.unusedSimpArgs false
set_option linter.unusedVariables false
namespace Go.Proofs.Ytieghkchhjailaa.P
open Go.RowKit Go.Proofs.YtieghkchhjailaaW.PrintWords Go.Proofs.YtieghkchhjailaaW.PrintLast Go.Proofs.YtieghkchhjailaaW.PrintMore
theorem Ev.iteT {α : Type} {c : Prop} [Decidable c] {g f : Nat → Option α} {r : α} (h : c) (k : Ev g r) : Ev (fun n => if c then g n else f n) r := by
  simpa only [if_pos h] using k
theorem Ev.iteF {α : Type} {c : Prop} [Decidable c] {g f : Nat → Option α} {r : α} (h : ¬ c) (k : Ev f r) : Ev (fun n => if c then g n else f n) r := by
  simpa only [if_neg h] using k
/-- A callee without rounds. -/
theorem Ev.bind0 {α β : Type} {g : Option α} {f : Nat → α → Option β} {a : α} {r : β} (h : g = some a) (k : Ev (fun n => f n a) r) : Ev (fun n => g.bind (f n)) r := by
  subst h
  simpa only [Option.bind_some] using k
theorem Ev.some_ {α : Type} {x r : α} (h : x = r) : Ev (fun _ => some x) r := ⟨0, fun _ _ => by rw [h]⟩
theorem Ev.bool {b r : Bool} (h : b = r) : Ev (fun _ => some b) r := Ev.some_ h
theorem wrapN {i : Nat} (h : i < 4611686018427387904) : wrap64 ((i : Int) + 1) = ((i + 1 : Nat) : Int) := by
  unfold wrap64
  omega
theorem wrapI {x : Int} (h : -9223372036854775808 ≤ x ∧ x ≤ 9223372036854775807) : wrap64 x = x := by
  unfold wrap64
  omega
theorem rdOf_nat {α : Type} (d : α) (l : List α) (i : Nat) (h : i < l.length) : rdOf d l (i : Int) = l[i] := by
  simp [rdOf, List.getD_eq_getElem?_getD, List.getElem?_eq_getElem h]
theorem rd_nat (l : List Int) (i : Nat) (h : i < l.length) : rd l (i : Int) = l[i] := by
  simp [rd, List.getD_eq_getElem?_getD, List.getElem?_eq_getElem h]
theorem getD_nat {α : Type} (d : α) (l : List α) (i : Nat) (h : i < l.length) : l.getD (i : Int).toNat d = l[i] := by
  simp [List.getD_eq_getElem?_getD, List.getElem?_eq_getElem h]
theorem size_list (s : ByteArray) : s.data.toList.length = s.size := by rw [Array.length_toList]; rfl
theorem bt_nat (s : ByteArray) (i : Nat) (h : i < s.data.toList.length) : bt s (i : Int) = ((s.data.toList[i]).toNat : Int) := by
  have h' : i < s.size := by rw [← size_list]; exact h
  unfold bt
  rw [dif_pos (by simpa using h')]
  rfl
/-- A list seen from place i on. -/
theorem drop_cons {α : Type} {l : List α} {i : Nat} {b : α} {t : List α} (h : l.drop i = b :: t) : ∃ hi : i < l.length, l[i] = b ∧ l.drop (i + 1) = t := by
  have hi : i < l.length := by
    rcases Nat.lt_or_ge i l.length with h1 | h1
    · exact h1
    · rw [List.drop_of_length_le h1] at h
      cases h
  refine ⟨hi, ?_, ?_⟩
  · rw [List.drop_eq_getElem_cons hi] at h
    exact (List.cons.inj h).1
  · rw [List.drop_eq_getElem_cons hi] at h
    exact (List.cons.inj h).2
theorem drop_nil {α : Type} {l : List α} {i : Nat} (h : l.drop i = []) : l.length ≤ i := by
  have := congrArg List.length h
  rw [List.length_drop] at this
  simpa using Nat.sub_eq_zero_iff_le.1 this
theorem toList_inj {a b : ByteArray} (h : a.toList = b.toList) : a = b := by
  rw [Lib.toList_data, Lib.toList_data] at h
  cases a with
  | mk x => cases b with
    | mk y =>
      have : x = y := Array.ext' h
      rw [this]
theorem toList_iff {a b : ByteArray} : a.toList = b.toList ↔ a = b := ⟨toList_inj, fun h => by rw [h]⟩
def lowB (b : UInt8) : Bool := decide (97 ≤ (b.toNat : Int)) && decide ((b.toNat : Int) ≤ 122)
/-- What is asked of a name behind its letters. -/
def nameEnd (s : ByteArray) : Bool := decide (1 ≤ s.size) && (decide (s.size ≤ 6) && (s.toList != ([97, 110, 100] : List UInt8) && (s.toList != ([111, 114] : List UInt8) && s.toList != ([110, 111, 116] : List UInt8))))
def nameS (s : ByteArray) : Bool := s.data.toList.all lowB && nameEnd s
theorem nameOk_loop (s : ByteArray) (hs : s.size ≤ 4611686018427387903) : ∀ (t : List UInt8) (i : Nat), s.data.toList.drop i = t → i ≤ s.size →
    Ev (fun k => impl_nameOk.l0 k s (s.size : Int) (i : Int)) (t.all lowB && nameEnd s) := by
  intro t
  induction t with
  | nil =>
    intro i h hi
    have hl := drop_nil h
    rw [size_list] at hl
    refine Ev.step (fun k => rfl) (Ev.iteF (by omega) ?_)
    simp only [List.all_nil, Bool.true_and]
    unfold nameEnd
    by_cases h1 : 1 ≤ s.size
    · refine Ev.iteT (by omega) ?_
      by_cases h2 : s.size ≤ 6
      · refine Ev.iteT (by omega) ?_
        by_cases h3 : s.toList = ([97, 110, 100] : List UInt8)
        · exact Ev.iteT h3 (Ev.bool (by simp [h3]))
        · refine Ev.iteF h3 ?_
          by_cases h4 : s.toList = ([111, 114] : List UInt8)
          · exact Ev.iteT h4 (Ev.bool (by simp [h4]))
          · exact Ev.iteF h4 (Ev.bool (by simp [h1, h2, bne_iff_ne.2 h3, bne_iff_ne.2 h4]))
      · exact Ev.iteF (by omega) (Ev.bool (by simp [h2]))
    · exact Ev.iteF (by omega) (Ev.bool (by simp [h1]))
  | cons b t ih =>
    intro i h hi
    obtain ⟨hl, hb, ht⟩ := drop_cons h
    have hl' := hl
    rw [size_list] at hl'
    refine Ev.step (fun k => rfl) (Ev.iteT (by omega) (Ev.iteT (by omega) (Ev.iteT (by omega) ?_)))
    rw [bt_nat s i hl, hb]
    by_cases h1 : (b.toNat : Int) < 97
    · exact Ev.iteT h1 (Ev.bool (by simp [lowB]; omega))
    · refine Ev.iteF h1 ?_
      by_cases h2 : (b.toNat : Int) > 122
      · exact Ev.iteT h2 (Ev.bool (by simp [lowB]; omega))
      · refine Ev.iteF h2 ?_
        rw [wrapN (by omega)]
        have := ih (i + 1) ht (by omega)
        have e : lowB b = true := by simp [lowB]; omega
        simpa [List.all_cons, e] using this
theorem nameOk_ev (s : ByteArray) (hs : s.size ≤ 4611686018427387903) : Ev (fun k => impl_nameOk.f k s) (nameS s) :=
  nameOk_loop s hs _ 0 rfl (Nat.zero_le _)
theorem inRange_ev (a b c : Int) : spec_inRange.f a b c = some (decide (b ≤ a ∧ a ≤ c)) := by
  unfold spec_inRange.f
  by_cases h : b ≤ a
  · rw [if_pos h]
    simp [h]
  · rw [if_neg h]
    simp [h]
theorem validName_loop (s : ByteArray) (hs : s.size ≤ 4611686018427387903) : ∀ (t : List UInt8) (i : Nat), s.data.toList.drop i = t → i ≤ s.size →
    Ev (fun k => spec_validName.l0 k s (i : Int)) (t.all lowB && nameEnd s) := by
  intro t
  induction t with
  | nil =>
    intro i h hi
    have hl := drop_nil h
    rw [size_list] at hl
    refine Ev.step (fun k => rfl) (Ev.iteF (by omega) (Ev.bind0 (inRange_ev _ _ _) ?_))
    simp only [List.all_nil, Bool.true_and]
    unfold nameEnd
    by_cases h1 : 1 ≤ s.size
    · by_cases h2 : s.size ≤ 6
      · refine Ev.iteT (by simp; omega) ?_
        by_cases h3 : s.toList = ([97, 110, 100] : List UInt8)
        · exact Ev.iteT h3 (Ev.bool (by simp [h3]))
        · refine Ev.iteF h3 ?_
          by_cases h4 : s.toList = ([111, 114] : List UInt8)
          · exact Ev.iteT h4 (Ev.bool (by simp [h4]))
          · exact Ev.iteF h4 (Ev.bool (by simp [h1, h2, bne_iff_ne.2 h3, bne_iff_ne.2 h4]))
      · exact Ev.iteF (by simp; omega) (Ev.bool (by simp [h2]))
    · exact Ev.iteF (by simp; omega) (Ev.bool (by simp [h1]))
  | cons b t ih =>
    intro i h hi
    obtain ⟨hl, hb, ht⟩ := drop_cons h
    have hl' := hl
    rw [size_list] at hl'
    refine Ev.step (fun k => rfl) (Ev.iteT (by omega) (Ev.iteT (by omega) ?_))
    rw [bt_nat s i hl, hb]
    by_cases h1 : (b.toNat : Int) < 97
    · exact Ev.iteT h1 (Ev.bool (by simp [lowB]; omega))
    · refine Ev.iteF h1 ?_
      by_cases h2 : (b.toNat : Int) > 122
      · exact Ev.iteT h2 (Ev.bool (by simp [lowB]; omega))
      · refine Ev.iteF h2 ?_
        rw [wrapN (by omega)]
        have := ih (i + 1) ht (by omega)
        have e : lowB b = true := by simp [lowB]; omega
        simpa [List.all_cons, e] using this
theorem validName_ev (s : ByteArray) (hs : s.size ≤ 4611686018427387903) : Ev (fun k => spec_validName.f k s) (nameS s) :=
  validName_loop s hs _ 0 rfl (Nat.zero_le _)
theorem data_extract (s : ByteArray) (a b : Nat) : (s.extract a b).data.toList = (s.data.toList.take b).drop a := by
  rw [ByteArray.data_extract, Array.toList_extract, List.extract_eq_take_drop, List.drop_take]
theorem extract_size_le (s : ByteArray) (a b : Nat) : (s.extract a b).size ≤ s.size := by
  rw [ByteArray.size_extract]
  omega
theorem indexByte_cons (b : UInt8) (l : List UInt8) (c : UInt8) : Lib.indexByte (b :: l) c = if b = c then 0 else if Lib.indexByte l c < 0 then -1 else Lib.indexByte l c + 1 := by
  have hg := Lib.indexByte_ge l c
  rw [Lib.indexByte]
  by_cases h : b = c
  · simp [h]
  · have h1 : (b == c) = false := by simpa using h
    rw [h1, if_neg h]
    simp only [Bool.false_eq_true, if_false]
    by_cases h2 : Lib.indexByte l c = -1
    · rw [h2]
      simp
    · have h3 : (Lib.indexByte l c == -1) = false := by simpa using h2
      have h4 : ¬ Lib.indexByte l c < 0 := by omega
      rw [h3, if_neg h4]
      simp
theorem indexByte_lt (l : List UInt8) (c : UInt8) : Lib.indexByte l c < l.length := by
  induction l with
  | nil => simp [Lib.indexByte]
  | cons b l ih =>
    rw [indexByte_cons]
    have hg := Lib.indexByte_ge l c
    simp only [List.length_cons]
    split
    · omega
    · split <;> omega
/-- Where the first point stands, and whether both sides of it are names. -/
def idS (s : ByteArray) : Bool := decide (0 ≤ Lib.indexByte s.data.toList 46) && (nameS (s.extract 0 (Lib.indexByte s.data.toList 46).toNat) && nameS (s.extract ((Lib.indexByte s.data.toList 46).toNat + 1) s.size))
theorem stringsCut_at (s : ByteArray) (c : UInt8) (hs : s.size ≤ 4611686018427387903) :
    strings_Cut.f s ⟨#[c]⟩ = some (if 0 ≤ Lib.indexByte s.data.toList c then (s.extract 0 (Lib.indexByte s.data.toList c).toNat, s.extract ((Lib.indexByte s.data.toList c).toNat + 1) s.size, true) else (s, ⟨#[]⟩, false)) := by
  have hg := Lib.indexByte_ge s.data.toList c
  have hl := indexByte_lt s.data.toList c
  rw [size_list] at hl
  have e1 : (⟨#[c]⟩ : ByteArray).size = 1 := rfl
  have e : stringslite_Index.f s ⟨#[c]⟩ = some (Lib.indexByte s.data.toList c) := rfl
  unfold strings_Cut.f stringslite_Cut.f
  rw [e]
  simp only [Option.bind_some, e1]
  generalize Lib.indexByte s.data.toList c = i at hg hl ⊢
  by_cases h : 0 ≤ i
  · have ew : wrap64 (i + ((1 : Nat) : Int)) = ((i.toNat + 1 : Nat) : Int) := by unfold wrap64; omega
    rw [if_pos h, if_pos h, if_pos (by omega), ew, if_pos (by omega), if_pos (by omega), if_pos h, Int.toNat_natCast]
    rfl
  · rw [if_neg h, if_neg h]
    rfl
theorem idOk_ev (s : ByteArray) (hs : s.size ≤ 4611686018427387903) : Ev (fun k => impl_idOk.f k s) (idS s) := by
  unfold impl_idOk.f idS
  refine Ev.bind0 (stringsCut_at s 46 hs) ?_
  by_cases h : 0 ≤ Lib.indexByte s.data.toList 46
  · simp only [if_pos h]
    have n1 := nameOk_ev (s.extract 0 (Lib.indexByte s.data.toList 46).toNat) (by have := extract_size_le s 0 (Lib.indexByte s.data.toList 46).toNat; omega)
    have n2 := nameOk_ev (s.extract ((Lib.indexByte s.data.toList 46).toNat + 1) s.size) (by have := extract_size_le s ((Lib.indexByte s.data.toList 46).toNat + 1) s.size; omega)
    refine Ev.iteT (by trivial) (Ev.bind n1 ?_)
    cases hn : nameS (s.extract 0 (Lib.indexByte s.data.toList 46).toNat) with
    | true => exact Ev.iteT rfl (Ev.bind n2 (Ev.bool (by simp [h])))
    | false => exact Ev.iteF (by simp) (Ev.bool (by simp))
  · simp only [if_neg h]
    exact Ev.iteF (by simp) (Ev.bool (by simp [h]))
theorem validId_loop (s : ByteArray) (hs : s.size ≤ 4611686018427387903) : ∀ (t : List UInt8) (i : Nat), s.data.toList.drop i = t → i ≤ s.size →
    Ev (fun k => spec_validId.l0 k s (i : Int)) (decide (0 ≤ Lib.indexByte t 46) && (nameS (s.extract 0 (i + (Lib.indexByte t 46).toNat)) && nameS (s.extract (i + (Lib.indexByte t 46).toNat + 1) s.size))) := by
  intro t
  induction t with
  | nil =>
    intro i h hi
    have hl := drop_nil h
    rw [size_list] at hl
    exact Ev.step (fun k => rfl) (Ev.iteF (by omega) (Ev.bool (by simp [Lib.indexByte])))
  | cons b t ih =>
    intro i h hi
    obtain ⟨hl, hb, ht⟩ := drop_cons h
    have hl' := hl
    rw [size_list] at hl'
    refine Ev.step (fun k => rfl) (Ev.iteT (by omega) (Ev.iteT (by omega) ?_))
    rw [bt_nat s i hl, hb]
    by_cases h1 : b = 46
    · subst h1
      refine Ev.iteT (by decide) (Ev.iteT (by omega) ?_)
      have n1 := validName_ev (s.extract 0 i) (by have := extract_size_le s 0 i; omega)
      have n2 := validName_ev (s.extract (i + 1) s.size) (by have := extract_size_le s (i + 1) s.size; omega)
      rw [indexByte_cons, if_pos rfl]
      simp only [Int.toNat_natCast, Int.toNat_zero, Nat.add_zero, Int.le_refl, decide_true, Bool.true_and]
      refine Ev.bind n1 ?_
      rw [wrapN (by omega)]
      cases hn : nameS (s.extract 0 i) with
      | true =>
        refine Ev.iteT rfl (Ev.iteT (by omega) (Ev.iteT (by omega) ?_))
        rw [Int.toNat_natCast]
        exact Ev.bind n2 (Ev.bool (by simp))
      | false => exact Ev.iteF (by simp) (Ev.bool (by simp))
    · have hne : ¬ (b.toNat : Int) = 46 := fun h2 => h1 (by apply UInt8.toNat.inj; simp; omega)
      refine Ev.iteF hne ?_
      rw [wrapN (by omega)]
      have := ih (i + 1) ht (by omega)
      rw [indexByte_cons, if_neg h1]
      have hg := Lib.indexByte_ge t 46
      by_cases h2 : Lib.indexByte t 46 < 0
      · rw [if_pos h2]
        rw [show decide (0 ≤ Lib.indexByte t 46) = false from decide_eq_false (by omega)] at this
        simpa using this
      · rw [if_neg h2]
        have e1 : (Lib.indexByte t 46 + 1).toNat = (Lib.indexByte t 46).toNat + 1 := by omega
        rw [e1, show i + ((Lib.indexByte t 46).toNat + 1) = i + 1 + (Lib.indexByte t 46).toNat from by omega, show decide (0 ≤ Lib.indexByte t 46 + 1) = true from decide_eq_true (by omega)]
        rw [show decide (0 ≤ Lib.indexByte t 46) = true from decide_eq_true (by omega)] at this
        exact this
theorem validId_ev (s : ByteArray) (hs : s.size ≤ 4611686018427387903) : Ev (fun k => spec_validId.f k s) (idS s) := by
  have := validId_loop s hs _ 0 rfl (Nat.zero_le _)
  simp only [Nat.zero_add] at this
  exact this
theorem xor_nat (a b : Nat) (ha : a < 2 ^ 62) (hb : b < 2 ^ 62) : bits .xor .i64 a b = ((a ^^^ b : Nat) : Int) := by
  have hk : IntKind.i64.bits = 64 := rfl
  have ha' : a % 2 ^ 64 = a := Nat.mod_eq_of_lt (by omega)
  have hb' : b % 2 ^ 64 = b := Nat.mod_eq_of_lt (by omega)
  have hx := Nat.xor_lt_two_pow ha hb
  simp only [bits, hk, BitVec.ofInt_natCast, BitVec.toNat_xor, BitVec.toNat_ofNat, ha', hb']
  rw [IntKind.wrap_i64]
  omega
theorem xor_nonneg (a b : Int) (ha : 0 ≤ a) (ha' : a < 4611686018427387904) (hb : 0 ≤ b) (hb' : b < 4611686018427387904) : 0 ≤ bits .xor .i64 a b := by
  obtain ⟨x, rfl⟩ := Int.eq_ofNat_of_zero_le ha
  obtain ⟨y, rfl⟩ := Int.eq_ofNat_of_zero_le hb
  rw [xor_nat x y (by omega) (by omega)]
  omega
/-- A code: what a reader reads. -/
structure Code_ (b : List Int) : Prop where
  len : b.length ≤ 2000
  byte : ∀ x ∈ b, 0 ≤ x ∧ x ≤ 255
theorem Code_.at_ {b : List Int} (h : Code_ b) (i : Int) (h0 : 0 ≤ i) (h1 : i < b.length) : 0 ≤ rd b i ∧ rd b i ≤ 255 := by
  obtain ⟨j, rfl⟩ := Int.eq_ofNat_of_zero_le h0
  rw [rd_nat b j (by omega)]
  exact h.byte _ (List.getElem_mem _)
theorem Code_.nil : Code_ [] := ⟨by simp, by simp⟩
theorem newReader_ev (l : List Int) (h : ∀ x ∈ l, 0 ≤ x ∧ x ≤ 255) : ∃ b, spec_newReader.f l = some (b, 0) ∧ Code_ b := by
  unfold spec_newReader.f
  by_cases h1 : (l.length : Int) > 2000
  · rw [if_pos h1, if_pos (by omega)]
    exact ⟨_, rfl, ⟨by rw [List.length_take]; omega, fun x hx => h x (List.mem_of_mem_take hx)⟩⟩
  · rw [if_neg h1]
    exact ⟨_, rfl, ⟨by omega, h⟩⟩
theorem pick_ev {b : List Int} (hb : Code_ b) (p n : Int) (h0 : 0 ≤ p) (h1 : p ≤ 1099511627776) (hn : n ≤ 1099511627776) :
    ∃ v, Ev (fun k => spec_reader_pick.f k b p n) (v, p + 1) ∧ 0 ≤ v ∧ (1 ≤ n → v < n) := by
  have w1 : wrap64 (p + 1) = p + 1 := wrapI (by omega)
  have w0 : wrap64 (p + 1 - 1) = p := by rw [wrapI (by omega)]; omega
  have hl := hb.len
  unfold spec_reader_pick.f
  rw [w1]
  by_cases c1 : n < 1
  · exact ⟨0, ⟨1, fun k hk => by obtain ⟨m, rfl⟩ : ∃ m, k = m + 1 := ⟨k - 1, by omega⟩; exact (if_pos c1).trans rfl⟩, by omega, by omega⟩
  · simp only [if_neg c1]
    by_cases c2 : b.length = 0
    · exact ⟨0, Ev.step (fun k => rfl) (Ev.iteT (by simp [c2]) (Ev.some_ rfl)), by omega, by omega⟩
    · by_cases c3 : p < (b.length : Int)
      · have ha := hb.at_ p h0 c3
        have w2 : wrap64 (rd b p) = rd b p := wrapI (by omega)
        refine ⟨Int.tmod (rd b p) n, Ev.step (fun k => rfl) (Ev.iteF (by simp only [beq_iff_eq]; omega) (Ev.iteT (by rw [w0]; exact c3) (Ev.iteT (by rw [w0]; exact h0) (Ev.iteF (by omega) (Ev.some_ ?_))))), Int.tmod_nonneg _ ha.1, fun _ => Int.tmod_lt_of_pos _ (by omega)⟩
        rw [w0, w2]
      · have hL : (0 : Int) < b.length := by omega
        have t1 : 0 ≤ Int.tmod p b.length := Int.tmod_nonneg _ h0
        have t2 : Int.tmod p b.length < b.length := Int.tmod_lt_of_pos _ hL
        have w3 : wrap64 (p * 7) = p * 7 := wrapI (by omega)
        have w4 : wrap64 (p * 7 + 3) = p * 7 + 3 := wrapI (by omega)
        have t3 : 0 ≤ Int.tmod (p * 7 + 3) b.length := Int.tmod_nonneg _ (by omega)
        have t4 : Int.tmod (p * 7 + 3) b.length < b.length := Int.tmod_lt_of_pos _ hL
        have a1 := hb.at_ _ t1 t2
        have a2 := hb.at_ _ t3 t4
        have d0 : 0 ≤ Int.tdiv p b.length := Int.tdiv_nonneg h0 (by omega)
        have d1 : Int.tdiv p b.length ≤ p := by
          rw [Int.tdiv_eq_ediv_of_nonneg h0]
          exact Int.ediv_le_self _ h0
        generalize hA : rd b (Int.tmod p b.length) = A at a1
        generalize hB : rd b (Int.tmod (p * 7 + 3) b.length) = B at a2
        generalize hQ : Int.tdiv p b.length = Q at d0 d1
        have v1 : wrap64 A = A := wrapI (by omega)
        have v2 : wrap64 (A * 131) = A * 131 := wrapI (by omega)
        have v3 : wrap64 B = B := wrapI (by omega)
        have v4 : wrap64 (B * 1117) = B * 1117 := wrapI (by omega)
        have v5 : wrap64 (A * 131 + B * 1117) = A * 131 + B * 1117 := wrapI (by omega)
        have v6 : wrap64 (p * 29) = p * 29 := wrapI (by omega)
        have v7 : wrap64 (A * 131 + B * 1117 + p * 29) = A * 131 + B * 1117 + p * 29 := wrapI (by omega)
        have v8 : wrap64 Q = Q := wrapI (by omega)
        have v9 : wrap64 (Q * 53) = Q * 53 := wrapI (by omega)
        have v10 : wrap64 (A * 131 + B * 1117 + p * 29 + Q * 53) = A * 131 + B * 1117 + p * 29 + Q * 53 := wrapI (by omega)
        have x0 : 0 ≤ A * 131 + B * 1117 + p * 29 + Q * 53 := by omega
        have x1 : A * 131 + B * 1117 + p * 29 + Q * 53 < 4611686018427387904 := by omega
        generalize hX : A * 131 + B * 1117 + p * 29 + Q * 53 = X at v10 x0 x1
        have e0 : 0 ≤ Int.tdiv X 64 := Int.tdiv_nonneg x0 (by omega)
        have e1 : Int.tdiv X 64 ≤ X := by
          rw [Int.tdiv_eq_ediv_of_nonneg x0]
          exact Int.ediv_le_self _ x0
        have v11 : wrap64 (Int.tdiv X 64) = Int.tdiv X 64 := wrapI (by omega)
        have hx := xor_nonneg X (Int.tdiv X 64) x0 x1 e0 (by omega)
        refine ⟨Int.tmod (bits .xor .i64 X (Int.tdiv X 64)) n, ?_, Int.tmod_nonneg _ hx, fun _ => Int.tmod_lt_of_pos _ (by omega)⟩
        refine Ev.step (fun k => rfl) (Ev.iteF (by simp only [beq_iff_eq]; omega) (Ev.iteF (by rw [w0]; exact c3) (Ev.iteF (by omega) ?_)))
        simp only [w0, w3, w4]
        refine Ev.iteT t1 (Ev.iteT t2 (Ev.iteT t3 (Ev.iteT t4 (Ev.iteF (by omega) (Ev.some_ ?_)))))
        simp only [hA, hB, hQ, v1, v2, v3, v4, v5, v6, v7, v8, v9, hX, v10, v11]
theorem of_ev {b : List Int} (hb : Code_ b) (p : Int) (h0 : 0 ≤ p) (h1 : p ≤ 1099511627776) (l : List ByteArray) (hl : 1 ≤ l.length) (hl' : l.length ≤ 1000) :
    ∃ x, x ∈ l ∧ Ev (fun k => spec_reader_of.f k b p l) (x, p + 1) := by
  obtain ⟨v, hv, v0, v1⟩ := pick_ev hb p (l.length : Int) h0 h1 (by omega)
  have v1 := v1 (by omega)
  obtain ⟨j, rfl⟩ := Int.eq_ofNat_of_zero_le v0
  refine ⟨l[j]'(by omega), List.getElem_mem _, ?_⟩
  unfold spec_reader_of.f
  exact Ev.bind hv (Ev.iteT v0 (Ev.iteT v1 (Ev.some_ (by rw [rdOf_nat _ _ _ (by omega)]))))
theorem one_ev {b : List Int} (hb : Code_ b) (p : Int) (h0 : 0 ≤ p) (h1 : p ≤ 1099511627776) (l : List Int) (hl : 1 ≤ l.length) (hl' : l.length ≤ 1000) :
    ∃ x, x ∈ l ∧ Ev (fun k => spec_reader_one.f k b p l) (x, p + 1) := by
  obtain ⟨v, hv, v0, v1⟩ := pick_ev hb p (l.length : Int) h0 h1 (by omega)
  have v1 := v1 (by omega)
  obtain ⟨j, rfl⟩ := Int.eq_ofNat_of_zero_le v0
  refine ⟨l[j]'(by omega), List.getElem_mem _, ?_⟩
  unfold spec_reader_one.f
  exact Ev.bind hv (Ev.iteT v0 (Ev.iteT v1 (Ev.some_ (by rw [rd_nat _ _ (by omega)]))))
theorem aModule_ev {b : List Int} (hb : Code_ b) (p : Int) (h0 : 0 ≤ p) (h1 : p ≤ 1099511627776) :
    ∃ x, x.size = 1 ∧ Ev (fun k => spec_aModule.f k b p) (x, p + 1) := by
  obtain ⟨x, hx, he⟩ := of_ev hb p h0 h1 [(⟨#[109]⟩ : ByteArray), (⟨#[110]⟩ : ByteArray), (⟨#[109]⟩ : ByteArray), (⟨#[107]⟩ : ByteArray)] (by decide) (by decide)
  refine ⟨x, ?_, Ev.bind he (Ev.some_ rfl)⟩
  simp only [List.mem_cons, List.not_mem_nil, or_false] at hx
  rcases hx with rfl | rfl | rfl | rfl <;> rfl
theorem anId_ev {b : List Int} (hb : Code_ b) (p : Int) (h0 : 0 ≤ p) (h1 : p ≤ 1099511627775) :
    ∃ x, x.size = 3 ∧ Ev (fun k => spec_anId.f k b p) (x, p + 2) := by
  obtain ⟨m, hm, he⟩ := aModule_ev hb p h0 (by omega)
  obtain ⟨y, hy, he2⟩ := of_ev hb (p + 1) (by omega) (by omega) [(⟨#[97]⟩ : ByteArray), (⟨#[98]⟩ : ByteArray), (⟨#[99]⟩ : ByteArray), (⟨#[100]⟩ : ByteArray), (⟨#[101]⟩ : ByteArray)] (by decide) (by decide)
  have hy1 : y.size = 1 := by
    simp only [List.mem_cons, List.not_mem_nil, or_false] at hy
    rcases hy with rfl | rfl | rfl | rfl | rfl <;> rfl
  refine ⟨(m ++ ⟨#[46]⟩) ++ y, by rw [ByteArray.size_append, ByteArray.size_append, hm, hy1]; rfl, ?_⟩
  unfold spec_anId.f
  exact Ev.bind he (Ev.iteT (by show m.size + 1 ≤ _; omega) (Ev.bind he2 (Ev.iteT (by show m.size + 1 + y.size ≤ _; omega) (Ev.some_ (by simp; omega)))))
theorem wfByte {x : Int} (h : (Lit.int .u8 x).wf = true) : 0 ≤ x ∧ x ≤ 255 := by
  simp [Lit.wf, IntKind.min, IntKind.max, IntKind.signed, IntKind.bits] at h
  omega
theorem equalTexts_loop (a : List ByteArray) (ha : a.length ≤ 4611686018427387903) : ∀ (d i : Nat), i + d = a.length → Ev (fun k => laws_equalTexts.l0 k a a (i : Int)) true := by
  intro d
  induction d with
  | zero =>
    intro i hd
    exact Ev.step (fun k => rfl) (Ev.iteF (by omega) (Ev.some_ rfl))
  | succ d ih =>
    intro i hd
    refine Ev.step (fun k => rfl) (Ev.iteT (by omega) (Ev.iteT (by omega) (Ev.iteT (by omega) (Ev.iteT rfl ?_))))
    rw [wrapN (by omega)]
    exact ih (i + 1) (by omega)
theorem equalTexts_ev (a : List ByteArray) (ha : a.length ≤ 4611686018427387903) : Ev (fun k => laws_equalTexts.f k a a) true := by
  unfold laws_equalTexts.f
  exact Ev.iteT rfl (equalTexts_loop a ha a.length 0 (by omega))
theorem rdIResult_nat (l : List S87) (i : Nat) (h : i < l.length) : rd_T87 l (i : Int) = l[i] := by
  unfold rd_T87
  exact getD_nat _ _ _ h
/-- The text of some bytes. -/
def ofL (l : List UInt8) : ByteArray := ⟨l.toArray⟩
theorem ofL_data (s : ByteArray) : ofL s.data.toList = s := by
  cases s
  unfold ofL
  rw [Array.toArray_toList]
theorem ofL_list (l : List UInt8) : (ofL l).data.toList = l := rfl
theorem ofL_toList (l : List UInt8) : (ofL l).toList = l := by
  rw [Lib.toList_data]
  rfl
theorem ofL_size (l : List UInt8) : (ofL l).size = l.length := by rw [← size_list, ofL_list]
theorem ofL_inj {a b : List UInt8} (h : ofL a = ofL b) : a = b := by
  rw [← ofL_list a, ← ofL_list b, h]
theorem ofL_append (a b : List UInt8) : ofL a ++ ofL b = ofL (a ++ b) := by
  apply ByteArray.ext
  unfold ofL
  rw [ByteArray.data_append]
  simp
theorem eq_ofL {s : ByteArray} {l : List UInt8} (h : s.data.toList = l) : s = ofL l := by rw [← h, ofL_data]
theorem extract_ofL (l : List UInt8) (a b : Nat) : (ofL l).extract a b = ofL ((l.take b).drop a) := eq_ofL (by rw [data_extract, ofL_list])
/-- The bytes ahead of the first c, and those behind it. -/
def ahead (c : UInt8) (l : List UInt8) : List UInt8 := l.takeWhile (fun b => b != c)
def behind (c : UInt8) (l : List UInt8) : List UInt8 := (l.dropWhile (fun b => b != c)).drop 1
theorem ahead_cons (c b : UInt8) (l : List UInt8) : ahead c (b :: l) = if b = c then [] else b :: ahead c l := by
  unfold ahead
  rw [List.takeWhile_cons]
  by_cases h : b = c
  · rw [if_pos h, if_neg (by simp [h])]
  · rw [if_neg h, if_pos (by simp [h])]
theorem behind_cons (c b : UInt8) (l : List UInt8) : behind c (b :: l) = if b = c then l else behind c l := by
  unfold behind
  rw [List.dropWhile_cons]
  by_cases h : b = c
  · rw [if_pos h, if_neg (by simp [h])]
    rfl
  · rw [if_neg h, if_pos (by simp [h])]
theorem ahead_not (c : UInt8) (l : List UInt8) : c ∉ ahead c l := by
  induction l with
  | nil => simp [ahead]
  | cons b t ih =>
    rw [ahead_cons]
    by_cases h : b = c
    · simp [h]
    · rw [if_neg h, List.mem_cons]
      rintro (e | e)
      · exact h e.symm
      · exact ih e
theorem ahead_behind {c : UInt8} {l : List UInt8} (h : c ∈ l) : l = ahead c l ++ c :: behind c l := by
  induction l with
  | nil => cases h
  | cons b t ih =>
    rw [ahead_cons, behind_cons]
    by_cases hb : b = c
    · simp [hb]
    · rw [if_neg hb, if_neg hb]
      have : c ∈ t := by
        rcases List.mem_cons.1 h with e | e
        · exact absurd e.symm hb
        · exact e
      rw [List.cons_append, ← ih this]
theorem ahead_all {c : UInt8} {l : List UInt8} (h : c ∉ l) : ahead c l = l ∧ behind c l = [] := by
  induction l with
  | nil => exact ⟨rfl, rfl⟩
  | cons b t ih =>
    rw [List.mem_cons] at h
    obtain ⟨h1, h2⟩ := ih (fun e => h (.inr e))
    rw [ahead_cons, behind_cons, if_neg (fun e => h (.inl e.symm)), if_neg (fun e => h (.inl e.symm)), h1, h2]
    exact ⟨rfl, rfl⟩
theorem ahead_at {c : UInt8} {a b : List UInt8} (h : c ∉ a) : ahead c (a ++ c :: b) = a ∧ behind c (a ++ c :: b) = b := by
  induction a with
  | nil =>
    rw [List.nil_append, ahead_cons, behind_cons, if_pos rfl, if_pos rfl]
    exact ⟨rfl, rfl⟩
  | cons x t ih =>
    rw [List.mem_cons] at h
    obtain ⟨h1, h2⟩ := ih (fun e => h (.inr e))
    rw [List.cons_append, ahead_cons, behind_cons, if_neg (fun e => h (.inl e.symm)), if_neg (fun e => h (.inl e.symm)), h1, h2]
    exact ⟨rfl, rfl⟩
theorem behind_length (c : UInt8) (l : List UInt8) : (behind c l).length ≤ l.length := by
  induction l with
  | nil => exact Nat.le_refl _
  | cons b t ih =>
    rw [behind_cons, List.length_cons]
    split <;> omega
theorem behind_lt (c : UInt8) (l : List UInt8) (h : l ≠ []) : (behind c l).length < l.length := by
  cases l with
  | nil => exact absurd rfl h
  | cons b t =>
    rw [behind_cons, List.length_cons]
    have := behind_length c t
    split <;> omega
theorem ahead_length (c : UInt8) (l : List UInt8) : (ahead c l).length ≤ l.length := by
  induction l with
  | nil => exact Nat.le_refl _
  | cons b t ih =>
    rw [ahead_cons, List.length_cons]
    split
    · simp
    · rw [List.length_cons]; omega
theorem index_ahead (c : UInt8) (l : List UInt8) : Lib.indexByte l c = if c ∈ l then ((ahead c l).length : Int) else -1 := by
  induction l with
  | nil => simp [Lib.indexByte]
  | cons b t ih =>
    rw [indexByte_cons, ahead_cons]
    by_cases h : b = c
    · rw [if_pos h, if_pos h, if_pos (by rw [h]; exact List.mem_cons_self)]
      rfl
    · rw [if_neg h, if_neg h, ih]
      by_cases hm : c ∈ t
      · rw [if_pos hm, if_pos (List.mem_cons_of_mem _ hm), if_neg (by omega), List.length_cons]
        omega
      · rw [if_neg hm, if_neg (fun e => (List.mem_cons.1 e).elim (fun e => h e.symm) hm), if_pos (by omega)]
theorem cut_eq (l : List UInt8) (c : UInt8) (hl : l.length ≤ 4611686018427387903) : strings_Cut.f (ofL l) ⟨#[c]⟩ = some (ofL (ahead c l), ofL (behind c l), decide (c ∈ l)) := by
  rw [stringsCut_at _ _ (by rw [ofL_size]; exact hl), ofL_list, index_ahead]
  by_cases h : c ∈ l
  · have e := ahead_behind h
    rw [if_pos h, if_pos (by omega), decide_eq_true h, Int.toNat_natCast, extract_ofL, extract_ofL, ofL_size, List.take_length, List.drop_zero]
    have e1 : l.take (ahead c l).length = ahead c l := by
      conv => lhs; rw [e]
      rw [(ahead_at (ahead_not c l)).1]
      simp
    have e2 : l.drop ((ahead c l).length + 1) = behind c l := by
      conv => lhs; rw [e]
      rw [(ahead_at (ahead_not c l)).1]
      simp
    rw [e1, e2]
  · obtain ⟨h1, h2⟩ := ahead_all h
    rw [if_neg h, if_neg (by omega), decide_eq_false h, h1, h2]
    rfl
/-- The pieces between the c's; pre stands ahead of the first. -/
def pieces (c : UInt8) : List UInt8 → List UInt8 → List (List UInt8)
  | pre, [] => [pre]
  | pre, b :: t => if b = c then pre :: pieces c [] t else pieces c (pre ++ [b]) t
theorem pieces_pre {c : UInt8} {a : List UInt8} (h : c ∉ a) (t : List UInt8) : ∀ pre, pieces c pre (a ++ t) = pieces c (pre ++ a) t := by
  induction a with
  | nil => intro pre; simp
  | cons x a ih =>
    intro pre
    rw [List.mem_cons] at h
    rw [List.cons_append, pieces, if_neg (fun e => h (.inl e.symm)), ih (fun e => h (.inr e)), List.append_assoc]
    rfl
theorem pieces_at {c : UInt8} {a : List UInt8} (h : c ∉ a) (b : List UInt8) : pieces c [] (a ++ c :: b) = a :: pieces c [] b := by
  rw [pieces_pre h, pieces, if_pos rfl]
  rfl
theorem pieces_one {c : UInt8} {a : List UInt8} (h : c ∉ a) : pieces c [] a = [a] := by
  have := pieces_pre h [] []
  rw [List.append_nil] at this
  rw [this, pieces]
  rfl
theorem pieces_length (c : UInt8) (l : List UInt8) : ∀ pre, (pieces c pre l).length ≤ l.length + 1 := by
  induction l with
  | nil => intro pre; simp [pieces]
  | cons b t ih =>
    intro pre
    rw [pieces]
    split
    · have := ih []
      rw [List.length_cons, List.length_cons]
      omega
    · have := ih (pre ++ [b])
      rw [List.length_cons]
      omega
theorem pieces_ne (c : UInt8) (l : List UInt8) : ∀ pre, pieces c pre l ≠ [] := by
  induction l with
  | nil => intro pre; simp [pieces]
  | cons b t ih =>
    intro pre
    rw [pieces]
    split
    · simp
    · exact ih _
theorem pieces_sub (c : UInt8) (l : List UInt8) : ∀ pre, ∀ p ∈ pieces c pre l, p.length ≤ pre.length + l.length := by
  induction l with
  | nil => intro pre p hp; simp [pieces] at hp; subst hp; simp
  | cons b t ih =>
    intro pre p hp
    rw [pieces] at hp
    rw [List.length_cons]
    split at hp
    · rcases List.mem_cons.1 hp with rfl | hp
      · omega
      · have := ih [] p hp
        simp at this
        omega
    · have := ih _ p hp
      simp at this
      omega
theorem splitAt_loop (l : List UInt8) (c : UInt8) (hl : l.length ≤ 4194304) : ∀ (t : List UInt8) (i j : Nat) (acc : List ByteArray), l.drop i = t → i ≤ l.length → j ≤ i → acc.length ≤ i →
    Ev (fun k => spec_splitAt.l0 k (ofL l) (c.toNat : Int) acc (j : Int) (i : Int)) (acc ++ (pieces c ((l.take i).drop j) t).map ofL) := by
  have hsz := ofL_size l
  intro t
  induction t with
  | nil =>
    intro i j acc hd hi hj ha
    have hl2 := drop_nil hd
    refine Ev.step (fun k => rfl) (Ev.iteF (by omega) (Ev.iteT (by omega) (Ev.iteT (by omega) (Ev.iteT (by omega) (Ev.some_ ?_)))))
    rw [Int.toNat_natCast, extract_ofL, hsz, pieces, List.take_of_length_le (by omega), List.take_of_length_le (by omega)]
    rfl
  | cons b t ih =>
    intro i j acc hd hi hj ha
    obtain ⟨hl2, hb, ht⟩ := drop_cons hd
    refine Ev.step (fun k => rfl) (Ev.iteT (by omega) (Ev.iteT (by omega) ?_))
    rw [bt_nat _ _ (by rw [ofL_list]; exact hl2)]
    have hb2 : ((ofL l).data.toList[i]'(by rw [ofL_list]; exact hl2)) = b := hb
    rw [hb2, pieces, wrapN (by omega)]
    by_cases h : b = c
    · rw [if_pos h]
      refine Ev.iteT (by rw [h]) (Ev.iteT (by omega) (Ev.iteT (by omega) (Ev.iteT (by omega) (Ev.iteT (by omega) ?_))))
      rw [Int.toNat_natCast, Int.toNat_natCast, extract_ofL]
      have := ih (i + 1) (i + 1) (acc ++ [ofL ((l.take i).drop j)]) ht (by omega) (by omega) (by simp; omega)
      have hz : (l.take (i + 1)).drop (i + 1) = [] := List.drop_of_length_le (by rw [List.length_take]; omega)
      rw [List.append_assoc, hz] at this
      exact this
    · rw [if_neg h]
      refine Ev.iteF (fun e => h (UInt8.toNat_inj.1 (by omega))) ?_
      have := ih (i + 1) j acc ht (by omega) (by omega) (by omega)
      rw [List.take_succ_eq_append_getElem hl2, List.drop_append_of_le_length (by rw [List.length_take]; omega), hb] at this
      exact this
theorem splitAt_ev (l : List UInt8) (c : UInt8) (hl : l.length ≤ 4194304) : Ev (fun k => spec_splitAt.f k (ofL l) (c.toNat : Int)) ((pieces c [] l).map ofL) := by
  have := splitAt_loop l c hl l 0 0 [] rfl (Nat.zero_le _) (Nat.le_refl _) (Nat.le_refl _)
  rw [List.take_zero, List.drop_nil, List.nil_append] at this
  exact this
/-- Where a text first stands in a list of texts; -1 if nowhere. -/
def place (x : ByteArray) : List ByteArray → Nat → Int
  | [], _ => -1
  | y :: t, i => if y = x then (i : Int) else place x t (i + 1)
theorem indexText_loop (l : List ByteArray) (x : ByteArray) (hl : l.length ≤ 4611686018427387903) : ∀ (t : List ByteArray) (i : Nat), l.drop i = t → i ≤ l.length → Ev (fun k => spec_indexText.l0 k l x (i : Int)) (place x t i) := by
  intro t
  induction t with
  | nil =>
    intro i hd hi
    have hl2 := drop_nil hd
    exact Ev.step (fun k => rfl) (Ev.iteF (by omega) (Ev.some_ rfl))
  | cons y t ih =>
    intro i hd hi
    obtain ⟨hl2, hb, ht⟩ := drop_cons hd
    refine Ev.step (fun k => rfl) (Ev.iteT (by omega) (Ev.iteT (by omega) ?_))
    rw [rdOf_nat _ _ _ hl2, hb, place, wrapN (by omega)]
    by_cases h : y = x
    · rw [if_pos h]
      exact Ev.iteT (toList_iff.2 h) (Ev.some_ rfl)
    · rw [if_neg h]
      exact Ev.iteF (fun e => h (toList_iff.1 e)) (ih (i + 1) ht (by omega))
theorem indexText_ev (l : List ByteArray) (x : ByteArray) (hl : l.length ≤ 4611686018427387903) : Ev (fun k => spec_indexText.f k l x) (place x l 0) := indexText_loop l x hl l 0 rfl (Nat.zero_le _)
theorem slicesIndex_loop (l : List ByteArray) (x : ByteArray) (hl : l.length ≤ 4611686018427387903) : ∀ (t : List ByteArray) (i : Nat), l.drop i = t → i ≤ l.length → Ev (fun k => slices_Index_string_string.l0 k l x (l.length : Int) (i : Int)) (place x t i) := by
  intro t
  induction t with
  | nil =>
    intro i hd hi
    have hl2 := drop_nil hd
    exact Ev.step (fun k => rfl) (Ev.iteF (by omega) (Ev.some_ rfl))
  | cons y t ih =>
    intro i hd hi
    obtain ⟨hl2, hb, ht⟩ := drop_cons hd
    refine Ev.step (fun k => rfl) (Ev.iteT (by omega) (Ev.iteT (by omega) (Ev.iteT (by omega) ?_)))
    rw [rdOf_nat _ _ _ hl2, hb, place, wrapN (by omega)]
    by_cases h : y = x
    · rw [if_pos h]
      exact Ev.iteT (toList_iff.2 h.symm) (Ev.some_ rfl)
    · rw [if_neg h]
      exact Ev.iteF (fun e => h (toList_iff.1 e).symm) (ih (i + 1) ht (by omega))
theorem slicesIndex_ev (l : List ByteArray) (x : ByteArray) (hl : l.length ≤ 4611686018427387903) : Ev (fun k => slices_Index_string_string.f k l x) (place x l 0) := slicesIndex_loop l x hl l 0 rfl (Nat.zero_le _)
/-- What a builder's write gives. -/
theorem ws_eq {x s : ByteArray} (h : x.size + s.size ≤ 140737488355328) : impl_WS.f x s = some (x ++ s) := if_pos h
theorem cat_assoc (a b c : ByteArray) : (a ++ b) ++ c = a ++ (b ++ c) := ByteArray.append_assoc
def ocWord (n : Int) : ByteArray := if n = 0 then ⟨#[112, 97, 115, 115]⟩ else if n = 1 then ⟨#[102, 97, 105, 108]⟩ else if n = 2 then ⟨#[101, 114, 114, 111, 114]⟩ else if n = 3 then ⟨#[115, 107, 105, 112]⟩ else if n = 4 then ⟨#[120, 102, 97, 105, 108]⟩ else ⟨#[120, 112, 97, 115, 115]⟩
def ocWords : List ByteArray := [⟨#[112, 97, 115, 115]⟩, ⟨#[102, 97, 105, 108]⟩, ⟨#[101, 114, 114, 111, 114]⟩, ⟨#[115, 107, 105, 112]⟩, ⟨#[120, 102, 97, 105, 108]⟩, ⟨#[120, 112, 97, 115, 115]⟩]
theorem ocWord_size (n : Int) : (ocWord n).size ≤ 5 := by
  unfold ocWord
  repeat (split; · decide)
  decide
theorem ocWords_at (n : Int) (h : 0 ≤ n ∧ n ≤ 5) : rdOf ByteArray.empty ocWords n = ocWord n := by
  rcases (show n = 0 ∨ n = 1 ∨ n = 2 ∨ n = 3 ∨ n = 4 ∨ n = 5 by omega) with rfl | rfl | rfl | rfl | rfl | rfl <;> rfl
def resOk (e : S87) : Bool := idS e.f0 && decide (0 ≤ e.f1 ∧ e.f1 ≤ 5)
def resText (e : S87) : ByteArray := ocWord e.f1 ++ (⟨#[32]⟩ ++ (e.f0 ++ ⟨#[10]⟩))
def downText (x : ByteArray) : ByteArray := ⟨#[100, 111, 119, 110]⟩ ++ (⟨#[32]⟩ ++ (x ++ ⟨#[10]⟩))
def resGo : ByteArray → List S87 → ByteArray
  | acc, [] => acc
  | acc, e :: t => resGo (acc ++ resText e) t
def downGo : ByteArray → List ByteArray → ByteArray
  | acc, [] => acc
  | acc, e :: t => downGo (acc ++ downText e) t
def repOk (a : List S87) (b : List ByteArray) : Bool := a.all resOk && b.all nameS
def repT (a : List S87) (b : List ByteArray) : ByteArray := if repOk a b = true then downGo (resGo ⟨#[]⟩ a) b else ⟨#[]⟩
theorem resText_size (e : S87) : (resText e).size ≤ e.f0.size + 7 := by
  have := ocWord_size e.f1
  unfold resText
  rw [ByteArray.size_append, ByteArray.size_append, ByteArray.size_append]
  have e1 : (⟨#[32]⟩ : ByteArray).size = 1 := rfl
  have e2 : (⟨#[10]⟩ : ByteArray).size = 1 := rfl
  omega
theorem downText_size (x : ByteArray) : (downText x).size ≤ x.size + 6 := by
  unfold downText
  rw [ByteArray.size_append, ByteArray.size_append, ByteArray.size_append]
  have e0 : (⟨#[100, 111, 119, 110]⟩ : ByteArray).size = 4 := rfl
  have e1 : (⟨#[32]⟩ : ByteArray).size = 1 := rfl
  have e2 : (⟨#[10]⟩ : ByteArray).size = 1 := rfl
  omega
structure RepSizes (a : List S87) (b : List ByteArray) : Prop where
  len : a.length ≤ 1048576
  one : ∀ e ∈ a, e.f0.size ≤ 4194304
  lend : b.length ≤ 1048576
  oned : ∀ e ∈ b, e.size ≤ 4194304
theorem implRep_l1 (b : List ByteArray) (h1 : b.length ≤ 1048576) (h2 : ∀ e ∈ b, e.size ≤ 4194304) : ∀ (t : List ByteArray) (i : Nat) (acc : ByteArray), b.drop i = t → i ≤ b.length → acc.size ≤ (1048576 + i) * 4194400 →
    Ev (fun k => impl_ReportText.l1 k acc b (b.length : Int) (i : Int)) (if t.all nameS = true then downGo acc t else ⟨#[]⟩) := by
  intro t
  induction t with
  | nil =>
    intro i acc hd hi ha
    have hl2 := drop_nil hd
    exact Ev.step (fun k => rfl) (Ev.iteF (by omega) (Ev.bind0 rfl (Ev.some_ rfl)))
  | cons e t ih =>
    intro i acc hd hi ha
    obtain ⟨hl2, hb, ht⟩ := drop_cons hd
    have hs : e.size ≤ 4194304 := h2 e (hb ▸ List.getElem_mem hl2)
    have hts := downText_size e
    have hmul : (1048576 + i) * 4194400 ≤ 2097152 * 4194400 := by omega
    refine Ev.step (fun k => rfl) (Ev.iteT (by omega) (Ev.iteT (by omega) (Ev.iteT (by omega) ?_)))
    rw [rdOf_nat _ _ _ hl2, hb]
    refine Ev.bind (nameOk_ev e (by omega)) ?_
    rw [List.all_cons]
    by_cases c : nameS e = true
    · rw [c, Bool.true_and]
      have e4 : (⟨#[100, 111, 119, 110, 32]⟩ : ByteArray).size = 5 := rfl
      have e2 : (⟨#[10]⟩ : ByteArray).size = 1 := rfl
      have line : ((⟨#[100, 111, 119, 110, 32]⟩ : ByteArray) ++ e) ++ (⟨#[10]⟩ : ByteArray) = downText e := by
        rw [show (⟨#[100, 111, 119, 110, 32]⟩ : ByteArray) = (⟨#[100, 111, 119, 110]⟩ : ByteArray) ++ ⟨#[32]⟩ from by decide, cat_assoc, cat_assoc]
        rfl
      refine Ev.iteT rfl (Ev.iteT (by omega) (Ev.iteT (by omega) ?_))
      rw [line]
      refine Ev.bind0 (ws_eq (by omega)) ?_
      rw [wrapN (by omega)]
      exact ih (i + 1) _ ht (by omega) (by rw [ByteArray.size_append]; omega)
    · rw [Bool.eq_false_iff.2 c, Bool.false_and]
      exact Ev.iteF (by decide) (Ev.some_ rfl)
theorem implRep_l0 (a : List S87) (b : List ByteArray) (h : RepSizes a b) : ∀ (t : List S87) (i : Nat) (acc : ByteArray), a.drop i = t → i ≤ a.length → acc.size ≤ i * 4194400 →
    Ev (fun k => impl_ReportText.l0 k acc a (a.length : Int) (i : Int) a b) (if t.all resOk && b.all nameS then downGo (resGo acc t) b else ⟨#[]⟩) := by
  intro t
  have hlen := h.len
  induction t with
  | nil =>
    intro i acc hd hi ha
    have hl2 := drop_nil hd
    refine Ev.step (fun k => rfl) (Ev.iteF (by omega) ?_)
    have hm : acc.size ≤ 4398147174400 := by omega
    have hm2 : acc.size ≤ (1048576 + 0) * 4194400 := hm
    have := implRep_l1 b h.lend h.oned b 0 acc rfl (Nat.zero_le _) hm2
    rw [List.all_nil, Bool.true_and]
    exact this
  | cons e t ih =>
    intro i acc hd hi ha
    obtain ⟨hl2, hb, ht⟩ := drop_cons hd
    have hs : e.f0.size ≤ 4194304 := h.one e (hb ▸ List.getElem_mem hl2)
    have hts := resText_size e
    have hw := ocWord_size e.f1
    have hmul : i * 4194400 ≤ 1048576 * 4194400 := by omega
    refine Ev.step (fun k => rfl) (Ev.iteT (by omega) (Ev.iteT (by omega) (Ev.iteT (by omega) ?_)))
    rw [rdIResult_nat _ _ hl2, hb]
    refine Ev.bind (idOk_ev e.f0 (by omega)) ?_
    rw [List.all_cons]
    generalize hres : (if (resOk e && t.all resOk) && b.all nameS then downGo (resGo acc (e :: t)) b else ⟨#[]⟩) = res
    have j1 : ∀ x, x = (!resOk e) → Ev (fun k => impl_ReportText.j1 k acc a (a.length : Int) (i : Int) x a b e.f0 e.f1) res := by
      intro x hx
      by_cases c : resOk e = true
      · rw [c] at hx hres
        rw [Bool.true_and] at hres
        have hx2 : ¬ x = true := by rw [hx]; decide
        have hk : 0 ≤ e.f1 ∧ e.f1 ≤ 5 := by
          unfold resOk at c
          rw [Bool.and_eq_true] at c
          exact of_decide_eq_true c.2
        have e1 : (⟨#[32]⟩ : ByteArray).size = 1 := rfl
        have e2 : (⟨#[10]⟩ : ByteArray).size = 1 := rfl
        refine Ev.step (fun k => rfl) (Ev.iteF hx2 (Ev.bind0 (show impl_outcomeWords.f = some ocWords from rfl) (Ev.iteT (by omega) (Ev.iteT (by have : ocWords.length = 6 := rfl; omega) ?_))))
        rw [ocWords_at _ hk]
        refine Ev.iteT (by omega) (Ev.iteT (by omega) (Ev.iteT (by omega) ?_))
        have line : ((ocWord e.f1 ++ (⟨#[32]⟩ : ByteArray)) ++ e.f0) ++ (⟨#[10]⟩ : ByteArray) = resText e := by
          rw [cat_assoc, cat_assoc]
          rfl
        rw [line]
        refine Ev.bind0 (ws_eq (by omega)) ?_
        rw [wrapN (by omega), ← hres]
        exact ih (i + 1) _ ht (by omega) (by rw [ByteArray.size_append]; omega)
      · rw [Bool.eq_false_iff.2 c] at hx hres
        exact Ev.step (fun k => rfl) (Ev.iteT hx (Ev.some_ (by simpa using hres)))
    by_cases ci : idS e.f0 = true
    · refine Ev.iteT ci ?_
      by_cases c0 : e.f1 < 0
      · refine Ev.iteT c0 (j1 true ?_)
        unfold resOk
        rw [decide_eq_false (by omega)]
        simp
      · refine Ev.iteF c0 (j1 _ ?_)
        unfold resOk
        rw [ci, Bool.true_and]
        by_cases c5 : e.f1 > 5
        · rw [decide_eq_true c5, decide_eq_false (by omega)]
          rfl
        · rw [decide_eq_false c5, decide_eq_true (by omega)]
          rfl
    · refine Ev.iteF ci (j1 true ?_)
      unfold resOk
      rw [Bool.eq_false_iff.2 ci]
      rfl
theorem implRep_ev (a : List S87) (b : List ByteArray) (h : RepSizes a b) : Ev (fun k => impl_ReportText.f k a b) (repT a b) :=
  implRep_l0 a b h a 0 ⟨#[]⟩ rfl (Nat.zero_le _) (Nat.le_refl _)
theorem validRep_l1 (a : List S87) (b : List ByteArray) (h1 : b.length ≤ 1048576) (h2 : ∀ e ∈ b, e.size ≤ 4194304) : ∀ (t : List ByteArray) (i : Nat), b.drop i = t → i ≤ b.length →
    Ev (fun k => spec_validReport.l1 k (i : Int) a b) (t.all nameS) := by
  intro t
  induction t with
  | nil =>
    intro i hd hi
    have hl2 := drop_nil hd
    exact Ev.step (fun k => rfl) (Ev.iteF (by omega) (Ev.some_ rfl))
  | cons e t ih =>
    intro i hd hi
    obtain ⟨hl2, hb, ht⟩ := drop_cons hd
    have hs : e.size ≤ 4194304 := h2 e (hb ▸ List.getElem_mem hl2)
    refine Ev.step (fun k => rfl) (Ev.iteT (by omega) (Ev.iteT (by omega) ?_))
    rw [rdOf_nat _ _ _ hl2, hb]
    refine Ev.bind (validName_ev e (by omega)) ?_
    rw [List.all_cons, wrapN (by omega)]
    by_cases c : nameS e = true
    · rw [c, Bool.true_and]
      exact Ev.iteT rfl (ih (i + 1) ht (by omega))
    · rw [Bool.eq_false_iff.2 c, Bool.false_and]
      exact Ev.iteF (by decide) (Ev.some_ rfl)
theorem validRep_l0 (a : List S87) (b : List ByteArray) (h : RepSizes a b) : ∀ (t : List S87) (i : Nat), a.drop i = t → i ≤ a.length →
    Ev (fun k => spec_validReport.l0 k (i : Int) a b) (t.all resOk && b.all nameS) := by
  intro t
  have hlen := h.len
  induction t with
  | nil =>
    intro i hd hi
    have hl2 := drop_nil hd
    refine Ev.step (fun k => rfl) (Ev.iteF (by omega) ?_)
    have := validRep_l1 a b h.lend h.oned b 0 rfl (Nat.zero_le _)
    simpa using this
  | cons e t ih =>
    intro i hd hi
    obtain ⟨hl2, hb, ht⟩ := drop_cons hd
    have hs : e.f0.size ≤ 4194304 := h.one e (hb ▸ List.getElem_mem hl2)
    refine Ev.step (fun k => rfl) (Ev.iteT (by omega) (Ev.iteT (by omega) ?_))
    rw [rdIResult_nat _ _ hl2, hb]
    refine Ev.bind (validId_ev e.f0 (by omega)) ?_
    rw [List.all_cons, wrapN (by omega)]
    by_cases ci : idS e.f0 = true
    · refine Ev.iteT ci (Ev.bind0 (inRange_ev _ _ _) ?_)
      by_cases c : 0 ≤ e.f1 ∧ e.f1 ≤ 5
      · have hr : resOk e = true := by
          unfold resOk
          rw [ci, decide_eq_true c]
          rfl
        rw [hr, Bool.true_and]
        exact Ev.iteT (decide_eq_true c) (ih (i + 1) ht (by omega))
      · have hr : resOk e = false := by
          unfold resOk
          rw [ci, decide_eq_false c]
          rfl
        rw [hr, Bool.false_and, Bool.false_and]
        exact Ev.iteF (by rw [decide_eq_false c]; decide) (Ev.some_ rfl)
    · have hr : resOk e = false := by
        unfold resOk
        rw [Bool.eq_false_iff.2 ci]
        rfl
      rw [hr, Bool.false_and, Bool.false_and]
      exact Ev.iteF ci (Ev.some_ rfl)
theorem specRep_l1 (a : List S87) (b : List ByteArray) (h1 : b.length ≤ 1048576) (h2 : ∀ e ∈ b, e.size ≤ 4194304) : ∀ (t : List ByteArray) (i : Nat) (acc : ByteArray), b.drop i = t → i ≤ b.length → acc.size ≤ (1048576 + i) * 4194400 →
    Ev (fun k => spec_ReportText.l1 k acc (i : Int) a b) (downGo acc t) := by
  intro t
  induction t with
  | nil =>
    intro i acc hd hi ha
    have hl2 := drop_nil hd
    exact Ev.step (fun k => rfl) (Ev.iteF (by omega) (Ev.some_ rfl))
  | cons e t ih =>
    intro i acc hd hi ha
    obtain ⟨hl2, hb, ht⟩ := drop_cons hd
    have hs : e.size ≤ 4194304 := h2 e (hb ▸ List.getElem_mem hl2)
    have hts := downText_size e
    have hmul : (1048576 + i) * 4194400 ≤ 2097152 * 4194400 := by omega
    refine Ev.step (fun k => rfl) (Ev.iteT (by omega) (Ev.iteT (by omega) (Ev.iteT (by omega) ?_)))
    rw [rdOf_nat _ _ _ hl2, hb]
    refine Ev.iteT (by omega) (Ev.iteT (by omega) ?_)
    have line : ((acc ++ (⟨#[100, 111, 119, 110, 32]⟩ : ByteArray)) ++ e) ++ (⟨#[10]⟩ : ByteArray) = acc ++ downText e := by
      rw [show (⟨#[100, 111, 119, 110, 32]⟩ : ByteArray) = (⟨#[100, 111, 119, 110]⟩ : ByteArray) ++ ⟨#[32]⟩ from by decide, cat_assoc, cat_assoc, cat_assoc]
      rfl
    rw [line, wrapN (by omega)]
    exact ih (i + 1) _ ht (by omega) (by rw [ByteArray.size_append]; omega)
theorem specRep_l0 (a : List S87) (b : List ByteArray) (h : RepSizes a b) : ∀ (t : List S87) (i : Nat) (acc : ByteArray), a.drop i = t → i ≤ a.length → acc.size ≤ i * 4194400 → t.all resOk = true →
    Ev (fun k => spec_ReportText.l0 k acc (i : Int) a b) (downGo (resGo acc t) b) := by
  intro t
  have hlen := h.len
  induction t with
  | nil =>
    intro i acc hd hi ha _
    have hl2 := drop_nil hd
    refine Ev.step (fun k => rfl) (Ev.iteF (by omega) ?_)
    have hm : acc.size ≤ 4398147174400 := by omega
    have hm2 : acc.size ≤ (1048576 + 0) * 4194400 := hm
    exact specRep_l1 a b h.lend h.oned b 0 acc rfl (Nat.zero_le _) hm2
  | cons e t ih =>
    intro i acc hd hi ha hall
    obtain ⟨hl2, hb, ht⟩ := drop_cons hd
    rw [List.all_cons, Bool.and_eq_true] at hall
    have hs : e.f0.size ≤ 4194304 := h.one e (hb ▸ List.getElem_mem hl2)
    have hts := resText_size e
    have hw := ocWord_size e.f1
    have hmul : i * 4194400 ≤ 1048576 * 4194400 := by omega
    have hk : 0 ≤ e.f1 ∧ e.f1 ≤ 5 := by
      have c := hall.1
      unfold resOk at c
      rw [Bool.and_eq_true] at c
      exact of_decide_eq_true c.2
    refine Ev.step (fun k => rfl) (Ev.iteT (by omega) (Ev.bind0 (show spec_outcomeWords.f = some ocWords from rfl) (Ev.iteT (by omega) ?_)))
    rw [rdIResult_nat _ _ hl2, hb]
    refine Ev.iteT (by omega) (Ev.iteT (by have : ocWords.length = 6 := rfl; omega) ?_)
    rw [ocWords_at _ hk]
    refine Ev.iteT (by omega) (Ev.iteT (by omega) (Ev.iteT (by omega) (Ev.iteT (by omega) ?_)))
    rw [cat_assoc, cat_assoc, cat_assoc, wrapN (by omega)]
    exact ih (i + 1) (acc ++ resText e) ht (by omega) (by rw [ByteArray.size_append]; omega) hall.2
theorem specRep_ev (a : List S87) (b : List ByteArray) (h : RepSizes a b) : Ev (fun k => spec_ReportText.f k a b) (repT a b) := by
  unfold spec_ReportText.f spec_validReport.f repT
  refine Ev.bind (validRep_l0 a b h a 0 rfl (Nat.zero_le _)) ?_
  by_cases c : repOk a b = true
  · rw [if_pos c]
    refine Ev.iteT c (specRep_l0 a b h a 0 ⟨#[]⟩ rfl (Nat.zero_le _) (Nat.le_refl _) ?_)
    unfold repOk at c
    rw [Bool.and_eq_true] at c
    exact c.1
  · rw [if_neg c]
    exact Ev.iteF c (Ev.some_ rfl)
theorem name_low {x : ByteArray} (h : nameS x = true) : ∀ b ∈ x.data.toList, lowB b = true := by
  unfold nameS at h
  rw [Bool.and_eq_true, List.all_eq_true] at h
  exact h.1
theorem low_ne {b : UInt8} (h : lowB b = true) : b ≠ 10 ∧ b ≠ 32 ∧ b ≠ 46 := by
  refine ⟨?_, ?_, ?_⟩ <;> (rintro rfl; exact absurd h (by decide))
theorem id_low {x : ByteArray} (h : idS x = true) : ∀ b ∈ x.data.toList, lowB b = true ∨ b = 46 := by
  obtain ⟨l, rfl⟩ : ∃ l, x = ofL l := ⟨_, (ofL_data x).symm⟩
  unfold idS at h
  rw [ofL_list, index_ahead, Bool.and_eq_true, Bool.and_eq_true] at h
  obtain ⟨h1, h2, h3⟩ := h
  by_cases hm : (46 : UInt8) ∈ l
  · rw [if_pos hm, Int.toNat_natCast, extract_ofL, List.drop_zero] at h2
    rw [if_pos hm, Int.toNat_natCast, extract_ofL, ofL_size, List.take_length] at h3
    have e := ahead_behind hm
    have e1 : l.take (ahead 46 l).length = ahead 46 l := by
      conv => lhs; rw [e]
      rw [(ahead_at (ahead_not 46 l)).1]
      simp
    have e2 : l.drop ((ahead 46 l).length + 1) = behind 46 l := by
      conv => lhs; rw [e]
      rw [(ahead_at (ahead_not 46 l)).1]
      simp
    rw [e1] at h2
    rw [e2] at h3
    intro b hb
    rw [ofL_list, e] at hb
    rcases List.mem_append.1 hb with hb | hb
    · exact .inl (name_low h2 b hb)
    · rcases List.mem_cons.1 hb with hb | hb
      · exact .inr hb
      · exact .inl (name_low h3 b hb)
  · rw [if_neg hm] at h1
    exact absurd h1 (by decide)
/-- The program's lines: the pieces without an empty last one. -/
def trimE : List (List UInt8) → List (List UInt8)
  | [] => []
  | [x] => if x = [] then [] else [x]
  | x :: y :: t => x :: trimE (y :: t)
theorem trimE_cons (x : List UInt8) {P : List (List UInt8)} (h : P ≠ []) : trimE (x :: P) = x :: trimE P := by
  cases P with
  | nil => exact absurd rfl h
  | cons y t => rfl
theorem trimE_lines : ∀ (L : List (List UInt8)), trimE (L ++ [[]]) = L
  | [] => rfl
  | x :: t => by rw [List.cons_append, trimE_cons _ (by simp), trimE_lines t]
/-- Lines, each with its end. -/
def linesB (L : List (List UInt8)) : List UInt8 := (L.map (fun x => x ++ [10])).flatten
theorem lines_pieces : ∀ (L : List (List UInt8)), (∀ x ∈ L, (10 : UInt8) ∉ x) → pieces 10 [] (linesB L) = L ++ [[]]
  | [], _ => rfl
  | x :: t, h => by
    have e1 : linesB (x :: t) = x ++ 10 :: linesB t := by simp [linesB]
    rw [e1, pieces_at (h x List.mem_cons_self), lines_pieces t (fun y hy => h y (List.mem_cons_of_mem _ hy))]
    rfl
theorem linesB_append (a b : List (List UInt8)) : linesB (a ++ b) = linesB a ++ linesB b := by simp [linesB]
def ocB (n : Int) : List UInt8 := (ocWord n).data.toList
theorem ocB_of (n : Int) : ocWord n = ofL (ocB n) := (ofL_data _).symm
theorem ocB_facts {n : Int} (h : 0 ≤ n ∧ n ≤ 5) : (10 : UInt8) ∉ ocB n ∧ (32 : UInt8) ∉ ocB n ∧ ocB n ≠ [100, 111, 119, 110] ∧ place (ofL (ocB n)) ocWords 0 = n := by
  rcases (show n = 0 ∨ n = 1 ∨ n = 2 ∨ n = 3 ∨ n = 4 ∨ n = 5 by omega) with rfl | rfl | rfl | rfl | rfl | rfl <;> exact ⟨by decide, by decide, by decide, by decide⟩
def resB (e : S87) : List UInt8 := ocB e.f1 ++ 32 :: e.f0.data.toList
def downB (x : ByteArray) : List UInt8 := [100, 111, 119, 110] ++ 32 :: x.data.toList
theorem resText_line (e : S87) : resText e = ofL (resB e ++ [10]) := by
  unfold resText resB
  rw [ocB_of, show (⟨#[32]⟩ : ByteArray) = ofL [32] from rfl, show (⟨#[10]⟩ : ByteArray) = ofL [10] from rfl]
  conv => lhs; rw [← ofL_data e.f0]
  rw [ofL_append, ofL_append, ofL_append]
  simp
theorem downText_line (x : ByteArray) : downText x = ofL (downB x ++ [10]) := by
  unfold downText downB
  rw [show (⟨#[100, 111, 119, 110]⟩ : ByteArray) = ofL [100, 111, 119, 110] from rfl, show (⟨#[32]⟩ : ByteArray) = ofL [32] from rfl, show (⟨#[10]⟩ : ByteArray) = ofL [10] from rfl]
  conv => lhs; rw [← ofL_data x]
  rw [ofL_append, ofL_append, ofL_append]
  simp
theorem resGo_lines : ∀ (a : List S87) (acc : List UInt8), resGo (ofL acc) a = ofL (acc ++ linesB (a.map resB))
  | [], acc => by simp [resGo, linesB]
  | e :: t, acc => by
    rw [resGo, resText_line, ofL_append, resGo_lines t]
    simp [linesB]
theorem downGo_lines : ∀ (a : List ByteArray) (acc : List UInt8), downGo (ofL acc) a = ofL (acc ++ linesB (a.map downB))
  | [], acc => by simp [downGo, linesB]
  | e :: t, acc => by
    rw [downGo, downText_line, ofL_append, downGo_lines t]
    simp [linesB]
def repLines (a : List S87) (b : List ByteArray) : List (List UInt8) := a.map resB ++ b.map downB
theorem repT_lines (a : List S87) (b : List ByteArray) : repT a b = if repOk a b = true then ofL (linesB (repLines a b)) else ⟨#[]⟩ := by
  unfold repT
  split
  · have := resGo_lines a []
    rw [List.nil_append] at this
    rw [show (⟨#[]⟩ : ByteArray) = ofL [] from rfl, this, downGo_lines, repLines, linesB_append]
  · rfl
theorem res_facts {e : S87} (h : resOk e = true) : (0 ≤ e.f1 ∧ e.f1 ≤ 5) ∧ (10 : UInt8) ∉ e.f0.data.toList ∧ (32 : UInt8) ∉ e.f0.data.toList := by
  unfold resOk at h
  rw [Bool.and_eq_true] at h
  have key : ∀ b ∈ e.f0.data.toList, b ≠ 10 ∧ b ≠ 32 := by
    intro b hb
    rcases id_low h.1 b hb with h1 | h1
    · have := low_ne h1
      exact ⟨this.1, this.2.1⟩
    · subst h1
      exact ⟨by decide, by decide⟩
  exact ⟨of_decide_eq_true h.2, fun hb => (key _ hb).1 rfl, fun hb => (key _ hb).2 rfl⟩
theorem down_facts {x : ByteArray} (h : nameS x = true) : (10 : UInt8) ∉ x.data.toList ∧ (32 : UInt8) ∉ x.data.toList :=
  ⟨fun hb => (low_ne (name_low h _ hb)).1 rfl, fun hb => (low_ne (name_low h _ hb)).2.1 rfl⟩
/-- What is read from lines. -/
def readGo : List S87 → List ByteArray → List (List UInt8) → List S87 × List ByteArray
  | rs, ds, [] => (rs, ds)
  | rs, ds, x :: t => if ahead 32 x = [100, 111, 119, 110] then readGo rs (ds ++ [ofL (behind 32 x)]) t else readGo (rs ++ [⟨ofL (behind 32 x), place (ofL (ahead 32 x)) ocWords 0⟩]) ds t
theorem readGo_downs : ∀ (b : List ByteArray), b.all nameS = true → ∀ rs ds, readGo rs ds (b.map downB) = (rs, ds ++ b)
  | [], _, rs, ds => by simp [readGo]
  | x :: t, h, rs, ds => by
    rw [List.all_cons, Bool.and_eq_true] at h
    obtain ⟨h1, h2⟩ := ahead_at (c := 32) (a := [100, 111, 119, 110]) (b := x.data.toList) (by decide)
    rw [List.map_cons, readGo]
    have e1 : ahead 32 (downB x) = [100, 111, 119, 110] := h1
    have e2 : behind 32 (downB x) = x.data.toList := h2
    rw [if_pos e1, e2, ofL_data, readGo_downs t h.2]
    simp
theorem readGo_res : ∀ (a : List S87) (L : List (List UInt8)), a.all resOk = true → ∀ rs ds, readGo rs ds (a.map resB ++ L) = readGo (rs ++ a) ds L
  | [], L, _, rs, ds => by simp
  | e :: t, L, h, rs, ds => by
    rw [List.all_cons, Bool.and_eq_true] at h
    obtain ⟨hk, _, _⟩ := res_facts h.1
    obtain ⟨_, k2, k3, k4⟩ := ocB_facts hk
    obtain ⟨h1, h2⟩ := ahead_at (b := e.f0.data.toList) k2
    have e1 : ahead 32 (resB e) = ocB e.f1 := h1
    have e2 : behind 32 (resB e) = e.f0.data.toList := h2
    rw [List.map_cons, List.cons_append, readGo, e1, e2, if_neg k3, ofL_data, k4, readGo_res t L h.2]
    simp
theorem readGo_rep {a : List S87} {b : List ByteArray} (h : repOk a b = true) : readGo [] [] (repLines a b) = (a, b) := by
  unfold repOk at h
  rw [Bool.and_eq_true] at h
  unfold repLines
  rw [readGo_res a _ h.1, readGo_downs b h.2]
  simp
theorem rep_not {a : List S87} {b : List ByteArray} (h : repOk a b = true) : ∀ x ∈ repLines a b, (10 : UInt8) ∉ x ∧ ∃ p q, pieces 32 [] x = [p, q] := by
  unfold repOk at h
  rw [Bool.and_eq_true, List.all_eq_true, List.all_eq_true] at h
  intro x hx
  rcases List.mem_append.1 hx with hx | hx
  · obtain ⟨e, he, rfl⟩ := List.mem_map.1 hx
    obtain ⟨hk, k5, k6⟩ := res_facts (h.1 e he)
    obtain ⟨k1, k2, _, _⟩ := ocB_facts hk
    refine ⟨?_, ocB e.f1, e.f0.data.toList, ?_⟩
    · unfold resB
      rw [List.mem_append, List.mem_cons]
      rintro (h2 | h2 | h2)
      · exact k1 h2
      · exact absurd h2 (by decide)
      · exact k5 h2
    · unfold resB
      rw [pieces_at k2, pieces_one k6]
  · obtain ⟨e, he, rfl⟩ := List.mem_map.1 hx
    obtain ⟨k5, k6⟩ := down_facts (h.2 e he)
    refine ⟨?_, [100, 111, 119, 110], e.data.toList, ?_⟩
    · have hd : (10 : UInt8) ∉ ([100, 111, 119, 110] : List UInt8) := by decide
      intro hm
      rcases List.mem_append.1 hm with h2 | h2
      · exact hd h2
      · rcases List.mem_cons.1 h2 with h2 | h2
        · exact absurd h2 (by decide)
        · exact k5 h2
    · unfold downB
      rw [pieces_at (by decide), pieces_one k6]
def finR (s : List UInt8) (r : List S87 × List ByteArray) : List S87 × List ByteArray × Bool := if repT r.1 r.2 = ofL s then (r.1, r.2, true) else ([], [], false)
def readR (s : List UInt8) : List S87 × List ByteArray := readGo [] [] (trimE (pieces 10 [] s))
def resR (s : List UInt8) : List S87 × List ByteArray × Bool := finR s (readR s)
/-- The reference's reading of the pieces. -/
def specR (s : List UInt8) : List S87 → List ByteArray → List (List UInt8) → List S87 × List ByteArray × Bool
  | _, _, [] => ([], [], false)
  | rs, ds, [_] => if repOk rs ds = true then finR s (rs, ds) else ([], [], false)
  | rs, ds, x :: y :: t => match pieces 32 [] x with
    | [a, b] => if a = [100, 111, 119, 110] then specR s rs (ds ++ [ofL b]) (y :: t) else specR s (rs ++ [⟨ofL b, place (ofL a) ocWords 0⟩]) ds (y :: t)
    | _ => ([], [], false)
theorem pair_cut {x a b : List UInt8} (h : pieces 32 [] x = [a, b]) : ahead 32 x = a ∧ behind 32 x = b := by
  have hm : (32 : UInt8) ∈ x := by
    by_cases hm : (32 : UInt8) ∈ x
    · exact hm
    · rw [pieces_one hm] at h; cases h
  have e := ahead_behind hm
  rw [e, pieces_at (ahead_not 32 x)] at h
  obtain ⟨h4, h5⟩ := List.cons.inj h
  have hm2 : (32 : UInt8) ∉ behind 32 x := by
    intro hm2
    rw [ahead_behind hm2, pieces_at (ahead_not _ _)] at h5
    have := congrArg List.length h5
    have h6 := pieces_ne 32 (behind 32 (behind 32 x)) []
    rw [List.length_cons, List.length_cons] at this
    cases hp : pieces 32 [] (behind 32 (behind 32 x)) with
    | nil => exact h6 hp
    | cons _ _ => rw [hp] at this; simp at this
  rw [pieces_one hm2] at h5
  exact ⟨h4, (List.cons.inj h5).1⟩
theorem specR_ok (s : List UInt8) : ∀ (L : List (List UInt8)) (rs : List S87) (ds : List ByteArray), (∀ x ∈ L, ∃ p q, pieces 32 [] x = [p, q]) →
    specR s rs ds (L ++ [[]]) = if repOk (readGo rs ds L).1 (readGo rs ds L).2 = true then finR s (readGo rs ds L) else ([], [], false)
  | [], rs, ds, _ => rfl
  | x :: t, rs, ds, h => by
    obtain ⟨p, q, hp⟩ := h x List.mem_cons_self
    obtain ⟨h1, h2⟩ := pair_cut hp
    have ht := fun y hy => h y (List.mem_cons_of_mem x hy)
    obtain ⟨y, r, hy⟩ : ∃ y r, t ++ [[]] = y :: r := by cases t <;> exact ⟨_, _, rfl⟩
    rw [List.cons_append, hy, specR, hp]
    simp only
    rw [readGo, h1, h2]
    by_cases c : p = [100, 111, 119, 110]
    · rw [if_pos c, if_pos c, ← hy]
      exact specR_ok s t _ _ ht
    · rw [if_neg c, if_neg c, ← hy]
      exact specR_ok s t _ _ ht
theorem specR_yes (s : List UInt8) : ∀ (P : List (List UInt8)) (rs : List S87) (ds : List ByteArray), specR s rs ds P = ([], [], false) ∨ ∃ a b, repOk a b = true ∧ repT a b = ofL s
  | [], _, _ => .inl rfl
  | [_], rs, ds => by
    rw [specR]
    by_cases c : repOk rs ds = true
    · rw [if_pos c]
      unfold finR
      by_cases c2 : repT rs ds = ofL s
      · exact .inr ⟨rs, ds, c, c2⟩
      · rw [if_neg c2]
        exact .inl rfl
    · rw [if_neg c]
      exact .inl rfl
  | x :: y :: t, rs, ds => by
    rw [specR]
    generalize pieces 32 [] x = q
    match q with
    | [] => exact .inl rfl
    | [_] => exact .inl rfl
    | _ :: _ :: _ :: _ => exact .inl rfl
    | [a, b] =>
      simp only
      by_cases c : a = [100, 111, 119, 110]
      · rw [if_pos c]
        exact specR_yes s (y :: t) _ _
      · rw [if_neg c]
        exact specR_yes s (y :: t) _ _
theorem specR_res (s : List UInt8) : specR s [] [] (pieces 10 [] s) = resR s := by
  by_cases hx : ∃ a b, repOk a b = true ∧ repT a b = ofL s
  · obtain ⟨a, b, h1, h2⟩ := hx
    rw [repT_lines, if_pos h1] at h2
    have hs := ofL_inj h2
    have hn := rep_not h1
    have hp : pieces 10 [] s = repLines a b ++ [[]] := by rw [← hs]; exact lines_pieces _ (fun x hx => (hn x hx).1)
    unfold resR readR
    rw [hp, trimE_lines, specR_ok s _ _ _ (fun x hx => (hn x hx).2), readGo_rep h1, if_pos h1]
  · rcases specR_yes s (pieces 10 [] s) [] [] with h | h
    · have hno : ¬ repT (readR s).1 (readR s).2 = ofL s := by
        intro h2
        by_cases c : repOk (readR s).1 (readR s).2 = true
        · exact hx ⟨_, _, c, h2⟩
        · rw [repT_lines, if_neg c] at h2
          have hs : s = [] := (ofL_inj (a := []) h2).symm
          subst hs
          exact c rfl
      rw [h]
      unfold resR finR
      rw [if_neg hno]
    · exact absurd h hx
theorem trimE_length (P : List (List UInt8)) : (trimE P).length ≤ P.length := by
  induction P with
  | nil => exact Nat.le_refl _
  | cons x P ih =>
    cases P with
    | nil => unfold trimE; split <;> simp
    | cons y t => rw [trimE_cons _ (by simp), List.length_cons, List.length_cons]; omega
theorem readGo_length : ∀ (L : List (List UInt8)) (rs : List S87) (ds : List ByteArray), (readGo rs ds L).1.length + (readGo rs ds L).2.length = rs.length + ds.length + L.length
  | [], rs, ds => by simp [readGo]
  | x :: t, rs, ds => by
    rw [readGo]
    split
    · rw [readGo_length t]; simp; omega
    · rw [readGo_length t]; simp; omega
theorem resR_length (s : List UInt8) : (resR s).1.length ≤ s.length + 1 ∧ (resR s).2.1.length ≤ s.length + 1 := by
  unfold resR finR
  split
  · have h1 := readGo_length (trimE (pieces 10 [] s)) [] []
    have h2 := trimE_length (pieces 10 [] s)
    have h3 := pieces_length 10 s []
    simp at h1
    unfold readR
    exact ⟨by show (readGo [] [] (trimE (pieces 10 [] s))).1.length ≤ _; omega, by show (readGo [] [] (trimE (pieces 10 [] s))).2.length ≤ _; omega⟩
  · exact ⟨Nat.zero_le _, Nat.zero_le _⟩
theorem implParseR_loop (s : List UInt8) (hs : s.length ≤ 1048576) : ∀ (n : Nat) (rest : List UInt8) (rs : List S87) (ds : List ByteArray), rest.length ≤ n → rs.length + ds.length + rest.length ≤ 1048576 → (∀ e ∈ rs, e.f0.size ≤ 1048576) → (∀ e ∈ ds, e.size ≤ 1048576) →
    Ev (fun k => impl_ParseReport.l0 k (ofL s) (ofL rest) rs ds) (finR s (readGo rs ds (trimE (pieces 10 [] rest)))) := by
  have fin : ∀ (rs : List S87) (ds : List ByteArray), rs.length + ds.length ≤ 1048576 → (∀ e ∈ rs, e.f0.size ≤ 1048576) → (∀ e ∈ ds, e.size ≤ 1048576) → Ev (fun k => impl_ParseReport.l0 k (ofL s) (ofL []) rs ds) (finR s (rs, ds)) := by
    intro rs ds h1 h2 h3
    refine Ev.step (fun k => rfl) (Ev.iteT (ofL_toList []) (Ev.bind (implRep_ev rs ds ⟨by omega, fun e he => by have := h2 e he; omega, by omega, fun e he => by have := h3 e he; omega⟩) ?_))
    unfold finR
    by_cases c : repT rs ds = ofL s
    · rw [if_pos c]
      exact Ev.iteT (by rw [c]) (Ev.some_ rfl)
    · rw [if_neg c]
      exact Ev.iteF (fun e => c (toList_inj e)) (Ev.some_ rfl)
  intro n
  induction n with
  | zero =>
    intro rest rs ds h1 h2 h3 h4
    obtain rfl : rest = [] := List.length_eq_zero_iff.1 (by omega)
    exact fin rs ds (by omega) h3 h4
  | succ n ih =>
    intro rest rs ds h1 h2 h3 h4
    by_cases hr : rest = []
    · subst hr
      exact fin rs ds (by omega) h3 h4
    · have hb := behind_lt 10 rest hr
      have hal := ahead_length 10 rest
      refine Ev.step (fun k => rfl) (Ev.iteF (by rw [ofL_toList]; exact hr) (Ev.bind0 (cut_eq rest 10 (by omega)) (Ev.bind0 (cut_eq (ahead 10 rest) 32 (by omega)) ?_)))
      have hone : (ofL (behind 32 (ahead 10 rest))).size ≤ 1048576 := by
        rw [ofL_size]
        have := behind_length 32 (ahead 10 rest)
        omega
      have hread : trimE (pieces 10 [] rest) = ahead 10 rest :: trimE (pieces 10 [] (behind 10 rest)) := by
        by_cases hm : (10 : UInt8) ∈ rest
        · conv => lhs; rw [ahead_behind hm]
          rw [pieces_at (ahead_not 10 rest), trimE_cons _ (pieces_ne _ _ _)]
        · obtain ⟨e1, e2⟩ := ahead_all hm
          rw [e1, e2, pieces_one hm]
          unfold trimE
          rw [if_neg hr]
          rfl
      rw [hread, readGo]
      by_cases c : ahead 32 (ahead 10 rest) = [100, 111, 119, 110]
      · rw [if_pos c]
        refine Ev.iteT (by rw [ofL_toList]; exact c) (Ev.iteT (by omega) ?_)
        exact ih (behind 10 rest) rs (ds ++ [ofL (behind 32 (ahead 10 rest))]) (by omega) (by simp; omega) h3 (fun e he => by
          rcases List.mem_append.1 he with he | he
          · exact h4 e he
          · rw [List.mem_singleton] at he
            subst he
            exact hone)
      · rw [if_neg c]
        refine Ev.iteF (by rw [ofL_toList]; exact c) (Ev.bind0 (show impl_outcomeWords.f = some ocWords from rfl) (Ev.bind (slicesIndex_ev ocWords _ (by decide)) (Ev.iteT (by omega) ?_)))
        exact ih (behind 10 rest) (rs ++ [⟨ofL (behind 32 (ahead 10 rest)), place (ofL (ahead 32 (ahead 10 rest))) ocWords 0⟩]) ds (by omega) (by simp; omega) (fun e he => by
          rcases List.mem_append.1 he with he | he
          · exact h3 e he
          · rw [List.mem_singleton] at he
            subst he
            exact hone) h4
theorem readGo_sizes : ∀ (L : List (List UInt8)) (rs : List S87) (ds : List ByteArray), (∀ x ∈ L, x.length ≤ 1048576) → (∀ e ∈ rs, e.f0.size ≤ 1048576) → (∀ e ∈ ds, e.size ≤ 1048576) → (∀ e ∈ (readGo rs ds L).1, e.f0.size ≤ 1048576) ∧ (∀ e ∈ (readGo rs ds L).2, e.size ≤ 1048576)
  | [], _, _, _, h1, h2 => ⟨h1, h2⟩
  | x :: t, rs, ds, h, h1, h2 => by
    have hx := h x List.mem_cons_self
    have hone : (ofL (behind 32 x)).size ≤ 1048576 := by
      rw [ofL_size]
      have := behind_length 32 x
      omega
    rw [readGo]
    split
    · exact readGo_sizes t _ _ (fun y hy => h y (List.mem_cons_of_mem _ hy)) h1 (fun e he => by
        rcases List.mem_append.1 he with he | he
        · exact h2 e he
        · rw [List.mem_singleton] at he
          subst he
          exact hone)
    · exact readGo_sizes t _ _ (fun y hy => h y (List.mem_cons_of_mem _ hy)) (fun e he => by
        rcases List.mem_append.1 he with he | he
        · exact h1 e he
        · rw [List.mem_singleton] at he
          subst he
          exact hone) h2
theorem trimE_mem : ∀ (P : List (List UInt8)) (x : List UInt8), x ∈ trimE P → x ∈ P
  | [], _, h => by cases h
  | [y], x, h => by
    unfold trimE at h
    split at h
    · cases h
    · exact h
  | y :: z :: t, x, h => by
    rw [trimE_cons _ (by simp)] at h
    rcases List.mem_cons.1 h with h | h
    · rw [h]; exact List.mem_cons_self
    · exact List.mem_cons_of_mem _ (trimE_mem (z :: t) x h)
theorem readR_sizes (s : List UInt8) (hs : s.length ≤ 1048000) : RepSizes (readR s).1 (readR s).2 := by
  have h1 := readGo_length (trimE (pieces 10 [] s)) [] []
  have h2 := trimE_length (pieces 10 [] s)
  have h3 := pieces_length 10 s []
  obtain ⟨h4, h5⟩ := readGo_sizes (trimE (pieces 10 [] s)) [] [] (fun x hx => by have := pieces_sub 10 s [] x (trimE_mem _ x hx); simp at this; omega) (by simp) (by simp)
  simp at h1
  unfold readR
  exact ⟨by omega, fun e he => by have := h4 e he; omega, by omega, fun e he => by have := h5 e he; omega⟩
theorem implParseR_ev (s : List UInt8) (hs : s.length ≤ 1048576) : Ev (fun k => impl_ParseReport.f k (ofL s)) (resR s) :=
  implParseR_loop s hs s.length s [] [] (Nat.le_refl _) (by simpa using hs) (by simp) (by simp)
theorem specParseR_loop (s : List UInt8) (L : List (List UInt8)) (hL : L.length ≤ 1048577) (hp : ∀ p ∈ L, p.length ≤ 1048576) : ∀ (t : List (List UInt8)) (i : Nat) (rs : List S87) (ds : List ByteArray), L.drop i = t → t ≠ [] → rs.length + ds.length ≤ i → (∀ e ∈ rs, e.f0.size ≤ 1048576) → (∀ e ∈ ds, e.size ≤ 1048576) →
    Ev (fun k => spec_ParseReport.l0 k (ofL s) (L.map ofL) (i : Int) rs ds) (specR s rs ds t) := by
  have hlen : (L.map ofL).length = L.length := List.length_map _
  intro t
  induction t with
  | nil => intro i rs ds _ h; exact absurd rfl h
  | cons x t ih =>
    intro i rs ds hd _ ha h3 h4
    obtain ⟨hi, hb, ht⟩ := drop_cons hd
    have hx : x.length ≤ 1048576 := hp x (hb ▸ List.getElem_mem hi)
    have hdl : (L.drop i).length = t.length + 1 := by rw [hd]; rfl
    rw [List.length_drop] at hdl
    have hread : rdOf ByteArray.empty (L.map ofL) (i : Int) = ofL x := by
      rw [rdOf_nat _ _ _ (by rw [hlen]; exact hi), List.getElem_map, hb]
    cases t with
    | nil =>
      refine Ev.step (fun k => rfl) (Ev.iteF (by rw [wrapN (by omega), hlen]; simp at hdl; omega) ?_)
      have hsz : RepSizes rs ds := ⟨by omega, fun e he => by have := h3 e he; omega, by omega, fun e he => by have := h4 e he; omega⟩
      refine Ev.bind (validRep_l0 rs ds hsz rs 0 rfl (Nat.zero_le _)) ?_
      rw [specR]
      by_cases c : repOk rs ds = true
      · rw [if_pos c]
        refine Ev.iteT c (Ev.bind (specRep_ev rs ds hsz) ?_)
        unfold finR
        by_cases c2 : repT rs ds = ofL s
        · rw [if_pos c2]
          exact Ev.iteT (by rw [c2]) (Ev.some_ rfl)
        · rw [if_neg c2]
          exact Ev.iteF (fun e => c2 (toList_inj e)) (Ev.some_ rfl)
      · rw [if_neg c]
        exact Ev.iteF c (Ev.some_ rfl)
    | cons y t =>
      rw [List.length_cons] at hdl
      refine Ev.step (fun k => rfl) (Ev.iteT (by rw [wrapN (by omega), hlen]; omega) (Ev.iteT (by omega) (Ev.iteT (by rw [hlen]; omega) ?_)))
      rw [hread]
      refine Ev.bind (splitAt_ev x 32 (by omega)) ?_
      rw [specR]
      have hsub : ∀ p ∈ pieces 32 [] x, p.length ≤ 1048576 := fun p hp1 => by have := pieces_sub 32 x [] p hp1; simp at this; omega
      generalize pieces 32 [] x = q at hsub ⊢
      match q, hsub with
      | [], _ => exact Ev.iteF (by simp) (Ev.some_ rfl)
      | [_], _ => exact Ev.iteF (by simp) (Ev.some_ rfl)
      | _ :: _ :: _ :: r, _ => exact Ev.iteF (by simp; omega) (Ev.some_ rfl)
      | [a, b], hsub =>
        have hbl := hsub b (by simp)
        have hone : (ofL b).size ≤ 1048576 := by rw [ofL_size]; exact hbl
        show Ev _ (if a = [100, 111, 119, 110] then specR s rs (ds ++ [ofL b]) (y :: t) else specR s (rs ++ [⟨ofL b, place (ofL a) ocWords 0⟩]) ds (y :: t))
        refine Ev.iteT (by simp) (Ev.iteT (by simp) ?_)
        by_cases c : a = [100, 111, 119, 110]
        · rw [if_pos c]
          refine Ev.iteT (show (ofL a).toList = [100, 111, 119, 110] by rw [ofL_toList]; exact c) (Ev.iteT (by simp) (Ev.iteT (by omega) ?_))
          rw [wrapN (by omega)]
          exact ih (i + 1) rs (ds ++ [ofL b]) ht (by simp) (by simp; omega) h3 (fun e he => by
            rcases List.mem_append.1 he with he | he
            · exact h4 e he
            · rw [List.mem_singleton] at he
              subst he
              exact hone)
        · rw [if_neg c]
          refine Ev.iteF (show ¬ (ofL a).toList = [100, 111, 119, 110] by rw [ofL_toList]; exact c) (Ev.iteT (by simp) (Ev.bind0 (show spec_outcomeWords.f = some ocWords from rfl) (Ev.bind (indexText_ev ocWords (ofL a) (by decide)) (Ev.iteT (by omega) ?_))))
          rw [wrapN (by omega)]
          exact ih (i + 1) (rs ++ [⟨ofL b, place (ofL a) ocWords 0⟩]) ds ht (by simp) (by simp; omega) (fun e he => by
            rcases List.mem_append.1 he with he | he
            · exact h3 e he
            · rw [List.mem_singleton] at he
              subst he
              exact hone) h4
theorem specParseR_ev (s : List UInt8) (hs : s.length ≤ 1048576) : Ev (fun k => spec_ParseReport.f k (ofL s)) (resR s) := by
  unfold spec_ParseReport.f
  refine Ev.bind (splitAt_ev s 10 (by omega)) ?_
  rw [← specR_res]
  exact specParseR_loop s (pieces 10 [] s) (by have := pieces_length 10 s []; omega) (fun p hp => by have := pieces_sub 10 s [] p hp; simp at this; omega) (pieces 10 [] s) 0 [] [] rfl (pieces_ne _ _ _) (Nat.le_refl _) (by simp) (by simp)
theorem equalReport_loop (a : List S87) (b : List ByteArray) (ha : a.length ≤ 4194304) (hb : b.length ≤ 4194304) : ∀ (d i : Nat), i + d = a.length → Ev (fun k => laws_equalReport.l0 k (i : Int) a b a b) true := by
  intro d
  induction d with
  | zero =>
    intro i hd
    exact Ev.step (fun k => rfl) (Ev.iteF (by omega) (Ev.bind (equalTexts_ev b (by omega)) (Ev.some_ rfl)))
  | succ d ih =>
    intro i hd
    refine Ev.step (fun k => rfl) (Ev.iteT (by omega) (Ev.iteT (by omega) (Ev.iteT (by omega) (Ev.iteF (by simp) ?_))))
    rw [wrapN (by omega)]
    exact ih (i + 1) (by omega)
theorem equalReport_ev (a : List S87) (b : List ByteArray) (ha : a.length ≤ 4194304) (hb : b.length ≤ 4194304) : Ev (fun k => laws_equalReport.f k a b a b) true := by
  unfold laws_equalReport.f
  exact Ev.iteT rfl (equalReport_loop a b ha hb a.length 0 (by omega))
theorem downGo_size : ∀ (b : List ByteArray) (acc : ByteArray), (∀ e ∈ b, e.size ≤ 1000) → (downGo acc b).size ≤ acc.size + 1010 * b.length
  | [], acc, _ => by simp [downGo]
  | e :: t, acc, h => by
    have h1 := downText_size e
    have h2 := h e List.mem_cons_self
    have := downGo_size t (acc ++ downText e) (fun x hx => h x (List.mem_cons_of_mem _ hx))
    rw [downGo, List.length_cons]
    rw [ByteArray.size_append] at this
    omega
theorem resGo_size : ∀ (a : List S87) (acc : ByteArray), (∀ e ∈ a, e.f0.size ≤ 1000) → (resGo acc a).size ≤ acc.size + 1010 * a.length
  | [], acc, _ => by simp [resGo]
  | e :: t, acc, h => by
    have h1 := resText_size e
    have h2 := h e List.mem_cons_self
    have := resGo_size t (acc ++ resText e) (fun x hx => h x (List.mem_cons_of_mem _ hx))
    rw [resGo, List.length_cons]
    rw [ByteArray.size_append] at this
    omega
theorem repT_size {a : List S87} {b : List ByteArray} (ha : a.length ≤ 100) (hb : b.length ≤ 100) (h1 : ∀ e ∈ a, e.f0.size ≤ 1000) (h2 : ∀ e ∈ b, e.size ≤ 1000) : (repT a b).size ≤ 300000 := by
  have h3 := downGo_size b (resGo ⟨#[]⟩ a) h2
  have h4 := resGo_size a ⟨#[]⟩ h1
  have h5 : (⟨#[]⟩ : ByteArray).size = 0 := rfl
  unfold repT
  split
  · omega
  · omega
structure SmallRes (l : List S87) : Prop where
  len : l.length ≤ 100
  ids : ∀ q ∈ l, q.f0.size ≤ 1000
structure SmallTexts (l : List ByteArray) : Prop where
  len : l.length ≤ 100
  ids : ∀ x ∈ l, x.size ≤ 1000
theorem someReport_j2 {b : List Int} (hb : Code_ b) (c : Bool) (p : Int) (h0 : 0 ≤ p) (h1 : p ≤ 1000000) (rs : List S87) (ds : List ByteArray) (hr : SmallRes rs) (hd : SmallTexts ds) (hc : c = true → 0 < rs.length) :
    ∃ rs' ds' p', Ev (fun k => spec_someReport.j2 k c b p rs ds) (rs', ds', p') ∧ SmallRes rs' ∧ SmallTexts ds' ∧ 0 ≤ p' ∧ p' ≤ p + 2 := by
  by_cases c1 : c = true
  · obtain ⟨x, hx, he⟩ := of_ev hb p h0 (by omega) [(⟨#[109]⟩ : ByteArray), (⟨#[109, 46, 97, 46, 98]⟩ : ByteArray), (⟨#[77, 46, 97]⟩ : ByteArray)] (by decide) (by decide)
    obtain ⟨y, hy, he2⟩ := one_ev hb (p + 1) (by omega) (by omega) [0, 6, -1] (by decide) (by decide)
    have hx2 : x.size ≤ 1000 := by
      simp only [List.mem_cons, List.not_mem_nil, or_false] at hx
      rcases hx with rfl | rfl | rfl <;> decide
    have := hc c1
    refine ⟨_, _, _, Ev.step (fun k => rfl) (Ev.iteT c1 (Ev.bind he (Ev.bind he2 (Ev.iteT (by omega) (Ev.some_ rfl))))), ⟨?_, ?_⟩, hd, by omega, by omega⟩
    · rw [List.length_set]; exact hr.len
    · intro q hq
      rcases List.mem_or_eq_of_mem_set hq with h | rfl
      · exact hr.ids q h
      · exact hx2
  · exact ⟨_, _, _, Ev.step (fun k => rfl) (Ev.iteF c1 (Ev.some_ rfl)), hr, hd, h0, by omega⟩
theorem someReport_l1 {b : List Int} (hb : Code_ b) : ∀ (n : Nat) (p : Int) (rs : List S87) (ds : List ByteArray), n ≤ 50 → ds.length + n ≤ 100 → 0 ≤ p → p + n ≤ 500000 → SmallRes rs → (∀ x ∈ ds, x.size ≤ 1000) →
    ∃ rs' ds' p', Ev (fun k => spec_someReport.l1 k (n : Int) b p rs ds) (rs', ds', p') ∧ SmallRes rs' ∧ SmallTexts ds' ∧ 0 ≤ p' ∧ p' ≤ p + n + 3 := by
  intro n
  induction n with
  | zero =>
    intro p rs ds hn hl h0 h1 hr hd
    have hd2 : SmallTexts ds := ⟨by omega, hd⟩
    by_cases c1 : (rs.length : Int) > 0
    · obtain ⟨v, hv, v0, v1⟩ := pick_ev hb p 24 h0 (by omega) (by omega)
      obtain ⟨rs', ds', p', he, g1, g2, g3, g4⟩ := someReport_j2 hb (v == 0) (p + 1) (by omega) (by omega) rs ds hr hd2 (fun _ => by omega)
      exact ⟨rs', ds', p', Ev.step (fun k => rfl) (Ev.iteF (by omega) (Ev.iteT c1 (Ev.bind hv he))), g1, g2, g3, by omega⟩
    · obtain ⟨rs', ds', p', he, g1, g2, g3, g4⟩ := someReport_j2 hb false p (by omega) (by omega) rs ds hr hd2 (fun h => by cases h)
      exact ⟨rs', ds', p', Ev.step (fun k => rfl) (Ev.iteF (by omega) (Ev.iteF c1 he)), g1, g2, g3, by omega⟩
  | succ n ih =>
    intro p rs ds hn hl h0 h1 hr hd
    obtain ⟨x, hx, he⟩ := of_ev hb p h0 (by omega) [(⟨#[100, 98]⟩ : ByteArray), (⟨#[116, 109, 112]⟩ : ByteArray)] (by decide) (by decide)
    have hx2 : x.size ≤ 1000 := by
      simp only [List.mem_cons, List.not_mem_nil, or_false] at hx
      rcases hx with rfl | rfl <;> decide
    have ew : wrap64 (((n + 1 : Nat) : Int) - 1) = (n : Int) := by rw [wrapI (by omega)]; omega
    obtain ⟨rs', ds', p', hr', g1, g2, g3, g4⟩ := ih (p + 1) rs (ds ++ [x]) (by omega) (by simp; omega) (by omega) (by omega) hr (fun q hq => by
      rcases List.mem_append.1 hq with hq | hq
      · exact hd q hq
      · rw [List.mem_singleton.1 hq]; exact hx2)
    refine ⟨rs', ds', p', Ev.step (fun k => rfl) (Ev.iteT (by omega) (Ev.bind he (Ev.iteT (by omega) ?_))), g1, g2, g3, by omega⟩
    rw [ew]
    exact hr'
theorem someReport_l0 {b : List Int} (hb : Code_ b) : ∀ (n : Nat) (p : Int) (rs : List S87), n ≤ 50 → rs.length + n ≤ 100 → 0 ≤ p → p + 3 * n ≤ 400000 → (∀ q ∈ rs, q.f0.size ≤ 1000) →
    ∃ rs' ds' p', Ev (fun k => spec_someReport.l0 k (n : Int) b p rs []) (rs', ds', p') ∧ SmallRes rs' ∧ SmallTexts ds' ∧ 0 ≤ p' ∧ p' ≤ p + 3 * n + 10 := by
  intro n
  induction n with
  | zero =>
    intro p rs hn hl h0 h1 hr
    obtain ⟨y, hy, he⟩ := one_ev hb p h0 (by omega) [0, 1, 2, 0] (by decide) (by decide)
    have hy2 : 0 ≤ y ∧ y ≤ 2 := by
      simp only [List.mem_cons, List.not_mem_nil, or_false] at hy
      omega
    obtain ⟨m, rfl⟩ := Int.eq_ofNat_of_zero_le hy2.1
    obtain ⟨rs', ds', p', hr', g1, g2, g3, g4⟩ := someReport_l1 hb m (p + 1) rs [] (by omega) (by simp; omega) (by omega) (by omega) ⟨by omega, hr⟩ (fun x hx => by cases hx)
    exact ⟨rs', ds', p', Ev.step (fun k => rfl) (Ev.iteF (by omega) (Ev.bind he hr')), g1, g2, g3, by omega⟩
  | succ n ih =>
    intro p rs hn hl h0 h1 hr
    obtain ⟨x, hx, he⟩ := anId_ev hb p h0 (by omega)
    obtain ⟨y, hy, he2⟩ := one_ev hb (p + 2) (by omega) (by omega) [0, 1, 2, 3, 4, 5, 0, 1] (by decide) (by decide)
    have ew : wrap64 (((n + 1 : Nat) : Int) - 1) = (n : Int) := by rw [wrapI (by omega)]; omega
    obtain ⟨rs', ds', p', hr', g1, g2, g3, g4⟩ := ih (p + 2 + 1) (rs ++ [(⟨x, y⟩ : S87)]) (by omega) (by simp; omega) (by omega) (by omega) (fun q hq => by
      rcases List.mem_append.1 hq with hq | hq
      · exact hr q hq
      · rw [List.mem_singleton.1 hq]; show x.size ≤ 1000; omega)
    refine ⟨rs', ds', p', Ev.step (fun k => rfl) (Ev.iteT (by omega) (Ev.bind he (Ev.bind he2 (Ev.iteT (by omega) ?_)))), g1, g2, g3, by omega⟩
    rw [ew]
    exact hr'
theorem someReport_ev {b : List Int} (hb : Code_ b) (p : Int) (h0 : 0 ≤ p) (h1 : p ≤ 100000) :
    ∃ rs ds p', Ev (fun k => spec_someReport.f k b p) (rs, ds, p') ∧ SmallRes rs ∧ SmallTexts ds ∧ 0 ≤ p' ∧ p' ≤ p + 100 := by
  obtain ⟨y, hy, he⟩ := one_ev hb p h0 (by omega) [4, 3, 5, 2, 1, 0] (by decide) (by decide)
  have hy2 : 0 ≤ y ∧ y ≤ 5 := by
    simp only [List.mem_cons, List.not_mem_nil, or_false] at hy
    omega
  obtain ⟨n, rfl⟩ := Int.eq_ofNat_of_zero_le hy2.1
  obtain ⟨rs, ds, p', hr, g1, g2, g3, g4⟩ := someReport_l0 hb n (p + 1) [] (by omega) (by simp; omega) (by omega) (by omega) (fun q hq => by cases hq)
  exact ⟨rs, ds, p', Ev.bind he hr, g1, g2, g3, by omega⟩
theorem mutate_j0 {b : List Int} (hb : Code_ b) (p : Int) (h0 : 0 ≤ p) (h1 : p ≤ 1000000) (s : ByteArray) (hs : s.size ≤ 1000000) (i : Int) (hi0 : 0 ≤ i) (hi1 : i ≤ s.size) (n : Int) : ∀ c : Bool,
    ∃ t q, Ev (fun k => spec_mutate.j0 k s i n c b p) (t, q) ∧ t.size ≤ 1000100 := by
  intro c
  obtain ⟨x, hx, he⟩ := of_ev hb p h0 (by omega) [(⟨#[32]⟩ : ByteArray), ⟨#[97]⟩, ⟨#[40]⟩, ⟨#[41]⟩, ⟨#[46]⟩, ⟨#[44]⟩, ⟨#[45]⟩, ⟨#[10]⟩, ⟨#[64]⟩] (by decide) (by decide)
  have hx1 : x.size = 1 := by
    simp only [List.mem_cons, List.not_mem_nil, or_false] at hx
    rcases hx with rfl | rfl | rfl | rfl | rfl | rfl | rfl | rfl | rfl <;> rfl
  obtain ⟨y, hy, he2⟩ := of_ev hb p h0 (by omega) [(⟨#[32]⟩ : ByteArray), ⟨#[10]⟩, ⟨#[120]⟩, ⟨#[41]⟩] (by decide) (by decide)
  have hy1 : y.size = 1 := by
    simp only [List.mem_cons, List.not_mem_nil, or_false] at hy
    rcases hy with rfl | rfl | rfl | rfl <;> rfl
  by_cases cc : c = true
  · by_cases ci : i < (s.size : Int)
    · have ew : wrap64 (i + 1) = i + 1 := wrapI (by omega)
      have e1 := extract_size_le s 0 i.toNat
      have e2 := extract_size_le s (i + 1).toNat s.size
      refine ⟨_, _, Ev.step (fun k => rfl) (Ev.iteT cc (Ev.iteT ci (Ev.iteT (by omega) (Ev.iteT (by omega) (Ev.bind he (Ev.iteT (by dsimp only; omega) (Ev.iteT (by rw [ew]; omega) (Ev.iteT (by rw [ew]; omega) (Ev.iteT (by rw [ew]; dsimp only; omega) (Ev.some_ rfl)))))))))), ?_⟩
      have e3 : (s.extract 0 i.toNat).size = i.toNat := by rw [← size_list, data_extract, List.drop_zero, List.length_take, size_list]; omega
      have e4 : (s.extract (i + 1).toNat s.size).size = s.size - (i + 1).toNat := by rw [← size_list, data_extract, List.length_drop, List.length_take, size_list]; omega
      simp only [ByteArray.size_append, ew]
      omega
    · exact ⟨s, p, Ev.step (fun k => rfl) (Ev.iteT cc (Ev.iteF ci (Ev.some_ rfl))), by omega⟩
  · by_cases c2 : n = 2
    · have e1 := extract_size_le s 0 i.toNat
      exact ⟨_, _, Ev.step (fun k => rfl) (Ev.iteF cc (Ev.iteT c2 (Ev.iteT (by omega) (Ev.iteT (by omega) (Ev.some_ rfl))))), by omega⟩
    · by_cases c3 : n = 3
      · exact ⟨_, _, Ev.step (fun k => rfl) (Ev.iteF cc (Ev.iteF c2 (Ev.iteT c3 (Ev.bind he2 (Ev.iteT (by dsimp only; omega) (Ev.some_ rfl)))))), by simp only [ByteArray.size_append]; omega⟩
      · exact ⟨s, p, Ev.step (fun k => rfl) (Ev.iteF cc (Ev.iteF c2 (Ev.iteF c3 (Ev.some_ rfl)))), by omega⟩
theorem mutate_ev {b : List Int} (hb : Code_ b) (p : Int) (h0 : 0 ≤ p) (h1 : p ≤ 900000) (s : ByteArray) (hs : s.size ≤ 1000000) :
    ∃ t q, Ev (fun k => spec_mutate.f k b p s) (t, q) ∧ t.size ≤ 1000100 := by
  unfold spec_mutate.f
  have ew : wrap64 ((s.size : Int) + 1) = (s.size : Int) + 1 := wrapI (by omega)
  rw [ew]
  obtain ⟨i, hi, i0, i1⟩ := pick_ev hb p ((s.size : Int) + 1) h0 (by omega) (by omega)
  have i1 := i1 (by omega)
  obtain ⟨n, hn, n0, n1⟩ := pick_ev hb (p + 1) 5 (by omega) (by omega) (by omega)
  by_cases c : n = 0
  · obtain ⟨t, q, ht, hsz⟩ := mutate_j0 hb (p + 1 + 1) (by omega) (by omega) s hs i i0 (by omega) n (n == 0)
    exact ⟨t, q, Ev.bind hi (Ev.bind hn (Ev.iteT c ht)), hsz⟩
  · obtain ⟨t, q, ht, hsz⟩ := mutate_j0 hb (p + 1 + 1) (by omega) (by omega) s hs i i0 (by omega) n (n == 1)
    exact ⟨t, q, Ev.bind hi (Ev.bind hn (Ev.iteF c ht)), hsz⟩
end Go.Proofs.Ytieghkchhjailaa.P
