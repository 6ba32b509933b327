/- Plain laws, without Go, that the law FnModulesOf leans on. No condition. -/
import Derived.Test.YtdllommmccgleaaEx0
import Derived.Test.YtdllommmccgleaaEx1
import Derived.Test.YtdllommmccgleaaEx2
import Derived.Test.YtdllommmccgleaaEx3
import Derived.Test.YtdllommmccgleaaEx7
import Derived.Test.YtdllommmccgleaaEx11
import Derived.Test.YtdllommmccgleaaEx12
import Derived.Test.YtdllommmccgleaaEx15
import Derived.Test.YtdllommmccgleaaEx19
import Derived.Test.YtdllommmccgleaaEx28
import Derived.Test.YtdllommmccgleaaEx29
import Derived.Test.YtdllommmccgleaaEx30
import Derived.Test.YtdllommmccgleaaEx31
import Derived.Test.YtdllommmccgleaaEx32
import Derived.Test.YtdllommmccgleaaEx33
import Derived.Test.YtdllommmccgleaaEwMore
import Derived.IntWalk
import Derived.Laws.BitsLemmas
import Derived.Lib.Bytealg
import Derived.Lib.Strings
import Derived.Sort.Walk0
set_option linter.unusedSimpArgs false
set_option linter.unusedVariables false
namespace Go.Proofs.Ytdllommmccgleaa.E
open Go.RowKit Go.Proofs.YtdllommmccgleaaW.PrintWords Go.Proofs.YtdllommmccgleaaW.PrintLast Go.Proofs.YtdllommmccgleaaW.PrintMore
theorem Ev.iteT {α : Type} {c : Prop} [Decidable c] {g f : Nat → Option α} {r : α} (h : c) (k : Ev g r) : Ev (fun n => if c then g n else f n) r := by
 simpa only [if_pos h] using k
theorem Ev.iteF {α : Type} {c : Prop} [Decidable c] {g f : Nat → Option α} {r : α} (h : ¬ c) (k : Ev f r) : Ev (fun n => if c then g n else f n) r := by
 simpa only [if_neg h] using k
/-- A callee without rounds. -/
theorem Ev.bind0 {α β : Type} {g : Option α} {f : Nat → α → Option β} {a : α} {r : β} (h : g = some a) (k : Ev (fun n => f n a) r) : Ev (fun n => g.bind (f n)) r := by
 subst h
 simpa only [Option.bind_some] using k
theorem Ev.some_ {α : Type} {x r : α} (h : x = r) : Ev (fun _ => some x) r := ⟨0, fun _ _ => by rw [h]⟩
theorem Ev.bool {b r : Bool} (h : b = r) : Ev (fun _ => some b) r := Ev.some_ h
theorem wrapN {i : Nat} (h : i < 4611686018427387904) : wrap64 ((i : Int) + 1) = ((i + 1 : Nat) : Int) := by
 unfold wrap64
 omega
theorem wrapI {x : Int} (h : -9223372036854775808 ≤ x ∧ x ≤ 9223372036854775807) : wrap64 x = x := by
 unfold wrap64
 omega
theorem rdOf_nat {α : Type} (d : α) (l : List α) (i : Nat) (h : i < l.length) : rdOf d l (i : Int) = l[i] := by
 simp [rdOf, List.getD_eq_getElem?_getD, List.getElem?_eq_getElem h]
theorem rd_nat (l : List Int) (i : Nat) (h : i < l.length) : rd l (i : Int) = l[i] := by
 simp [rd, List.getD_eq_getElem?_getD, List.getElem?_eq_getElem h]
theorem getD_nat {α : Type} (d : α) (l : List α) (i : Nat) (h : i < l.length) : l.getD (i : Int).toNat d = l[i] := by
 simp [List.getD_eq_getElem?_getD, List.getElem?_eq_getElem h]
theorem size_list (s : ByteArray) : s.data.toList.length = s.size := by rw [Array.length_toList]; rfl
theorem bt_nat (s : ByteArray) (i : Nat) (h : i < s.data.toList.length) : bt s (i : Int) = ((s.data.toList[i]).toNat : Int) := by
 have h' : i < s.size := by rw [← size_list]; exact h
 unfold bt
 rw [dif_pos (by simpa using h')]
 rfl
/-- A list seen from place i on. -/
theorem drop_cons {α : Type} {l : List α} {i : Nat} {b : α} {t : List α} (h : l.drop i = b :: t) : ∃ hi : i < l.length, l[i] = b ∧ l.drop (i + 1) = t := by
 have hi : i < l.length := by
  rcases Nat.lt_or_ge i l.length with h1 | h1
  ·exact h1
  ·rw [List.drop_of_length_le h1] at h
   cases h
 refine ⟨hi, ?_, ?_⟩
 ·rw [List.drop_eq_getElem_cons hi] at h
  exact (List.cons.inj h).1
 ·rw [List.drop_eq_getElem_cons hi] at h
  exact (List.cons.inj h).2
theorem drop_nil {α : Type} {l : List α} {i : Nat} (h : l.drop i = []) : l.length ≤ i := by
 have := congrArg List.length h
 rw [List.length_drop] at this
 simpa using Nat.sub_eq_zero_iff_le.1 this
theorem toList_inj {a b : ByteArray} (h : a.toList = b.toList) : a = b := by
 rw [Lib.toList_data, Lib.toList_data] at h
 cases a with
 | mk x => cases b with
  | mk y =>
   have : x = y := Array.ext' h
   rw [this]
theorem toList_iff {a b : ByteArray} : a.toList = b.toList ↔ a = b := ⟨toList_inj, fun h => by rw [h]⟩
def lowB (b : UInt8) : Bool := decide (97 ≤ (b.toNat : Int)) && decide ((b.toNat : Int) ≤ 122)
/-- What is asked of a name behind its letters. -/
def nameEnd (s : ByteArray) : Bool := decide (1 ≤ s.size) && (decide (s.size ≤ 6) && (s.toList != ([97, 110, 100] : List UInt8) && (s.toList != ([111, 114] : List UInt8) && s.toList != ([110, 111, 116] : List UInt8))))
def nameS (s : ByteArray) : Bool := s.data.toList.all lowB && nameEnd s
theorem nameOk_loop (s : ByteArray) (hs : s.size ≤ 4611686018427387903) : ∀ (t : List UInt8) (i : Nat), s.data.toList.drop i = t → i ≤ s.size →
  Ev (fun k => impl_nameOk.l0 k s (s.size : Int) (i : Int)) (t.all lowB && nameEnd s) := by
 intro t
 induction t with
 | nil =>
  intro i h hi
  have hl := drop_nil h
  rw [size_list] at hl
  refine Ev.step (fun k => rfl) (Ev.iteF (by omega) ?_)
  simp only [List.all_nil, Bool.true_and]
  unfold nameEnd
  by_cases h1 : 1 ≤ s.size
  ·refine Ev.iteT (by omega) ?_
   by_cases h2 : s.size ≤ 6
   ·refine Ev.iteT (by omega) ?_
    by_cases h3 : s.toList = ([97, 110, 100] : List UInt8)
    ·exact Ev.iteT h3 (Ev.bool (by simp [h3]))
    ·refine Ev.iteF h3 ?_
     by_cases h4 : s.toList = ([111, 114] : List UInt8)
     ·exact Ev.iteT h4 (Ev.bool (by simp [h4]))
     ·exact Ev.iteF h4 (Ev.bool (by simp [h1, h2, bne_iff_ne.2 h3, bne_iff_ne.2 h4]))
   ·exact Ev.iteF (by omega) (Ev.bool (by simp [h2]))
  ·exact Ev.iteF (by omega) (Ev.bool (by simp [h1]))
 | cons b t ih =>
  intro i h hi
  obtain ⟨hl, hb, ht⟩ := drop_cons h
  have hl' := hl
  rw [size_list] at hl'
  refine Ev.step (fun k => rfl) (Ev.iteT (by omega) (Ev.iteT (by omega) (Ev.iteT (by omega) ?_)))
  rw [bt_nat s i hl, hb]
  by_cases h1 : (b.toNat : Int) < 97
  ·exact Ev.iteT h1 (Ev.bool (by simp [lowB]; omega))
  ·refine Ev.iteF h1 ?_
   by_cases h2 : (b.toNat : Int) > 122
   ·exact Ev.iteT h2 (Ev.bool (by simp [lowB]; omega))
   ·refine Ev.iteF h2 ?_
    rw [wrapN (by omega)]
    have := ih (i + 1) ht (by omega)
    have e : lowB b = true := by simp [lowB]; omega
    simpa [List.all_cons, e] using this
theorem nameOk_ev (s : ByteArray) (hs : s.size ≤ 4611686018427387903) : Ev (fun k => impl_nameOk.f k s) (nameS s) :=
 nameOk_loop s hs _ 0 rfl (Nat.zero_le _)
theorem inRange_ev (a b c : Int) : spec_inRange.f a b c = some (decide (b ≤ a ∧ a ≤ c)) := by
 unfold spec_inRange.f
 by_cases h : b ≤ a
 ·rw [if_pos h]
  simp [h]
 ·rw [if_neg h]
  simp [h]
theorem validName_loop (s : ByteArray) (hs : s.size ≤ 4611686018427387903) : ∀ (t : List UInt8) (i : Nat), s.data.toList.drop i = t → i ≤ s.size →
  Ev (fun k => spec_validName.l0 k s (i : Int)) (t.all lowB && nameEnd s) := by
 intro t
 induction t with
 | nil =>
  intro i h hi
  have hl := drop_nil h
  rw [size_list] at hl
  refine Ev.step (fun k => rfl) (Ev.iteF (by omega) (Ev.bind0 (inRange_ev _ _ _) ?_))
  simp only [List.all_nil, Bool.true_and]
  unfold nameEnd
  by_cases h1 : 1 ≤ s.size
  ·by_cases h2 : s.size ≤ 6
   ·refine Ev.iteT (by simp; omega) ?_
    by_cases h3 : s.toList = ([97, 110, 100] : List UInt8)
    ·exact Ev.iteT h3 (Ev.bool (by simp [h3]))
    ·refine Ev.iteF h3 ?_
     by_cases h4 : s.toList = ([111, 114] : List UInt8)
     ·exact Ev.iteT h4 (Ev.bool (by simp [h4]))
     ·exact Ev.iteF h4 (Ev.bool (by simp [h1, h2, bne_iff_ne.2 h3, bne_iff_ne.2 h4]))
   ·exact Ev.iteF (by simp; omega) (Ev.bool (by simp [h2]))
  ·exact Ev.iteF (by simp; omega) (Ev.bool (by simp [h1]))
 | cons b t ih =>
  intro i h hi
  obtain ⟨hl, hb, ht⟩ := drop_cons h
  have hl' := hl
  rw [size_list] at hl'
  refine Ev.step (fun k => rfl) (Ev.iteT (by omega) (Ev.iteT (by omega) ?_))
  rw [bt_nat s i hl, hb]
  by_cases h1 : (b.toNat : Int) < 97
  ·exact Ev.iteT h1 (Ev.bool (by simp [lowB]; omega))
  ·refine Ev.iteF h1 ?_
   by_cases h2 : (b.toNat : Int) > 122
   ·exact Ev.iteT h2 (Ev.bool (by simp [lowB]; omega))
   ·refine Ev.iteF h2 ?_
    rw [wrapN (by omega)]
    have := ih (i + 1) ht (by omega)
    have e : lowB b = true := by simp [lowB]; omega
    simpa [List.all_cons, e] using this
theorem validName_ev (s : ByteArray) (hs : s.size ≤ 4611686018427387903) : Ev (fun k => spec_validName.f k s) (nameS s) :=
 validName_loop s hs _ 0 rfl (Nat.zero_le _)
theorem data_extract (s : ByteArray) (a b : Nat) : (s.extract a b).data.toList = (s.data.toList.take b).drop a := by
 rw [ByteArray.data_extract, Array.toList_extract, List.extract_eq_take_drop, List.drop_take]
def memB (l : List ByteArray) (x : ByteArray) : Bool := l.any fun y => decide (y = x)
theorem memB_iff {l : List ByteArray} {x : ByteArray} : memB l x = true ↔ x ∈ l := by
 simp [memB]
theorem memB_eq {l : List ByteArray} {x : ByteArray} {p : Prop} [Decidable p] (h : p ↔ x ∈ l) : decide p = memB l x := by
 rw [Bool.eq_iff_iff, memB_iff]
 simpa using h
theorem index_loop (l : List ByteArray) (x : ByteArray) (hl : l.length ≤ 4611686018427387903) : ∀ (t : List ByteArray) (i : Nat), l.drop i = t → i ≤ l.length →
  ∃ r : Int, Ev (fun k => slices_Index_string_string.l0 k l x (l.length : Int) (i : Int)) r ∧ (0 ≤ r ↔ x ∈ t) := by
 intro t
 induction t with
 | nil =>
  intro i h hi
  have hl2 := drop_nil h
  exact ⟨-1, Ev.step (fun k => rfl) (Ev.iteF (by omega) (Ev.some_ rfl)), by simp⟩
 | cons b t ih =>
  intro i h hi
  obtain ⟨hl2, hb, ht⟩ := drop_cons h
  by_cases h1 : x = b
  ·refine ⟨(i : Int), Ev.step (fun k => rfl) (Ev.iteT (by omega) (Ev.iteT (by omega) (Ev.iteT (by omega) (Ev.iteT ?_ (Ev.some_ rfl))))), by simp [h1]⟩
   rw [rdOf_nat _ _ _ hl2, hb, h1]
  ·obtain ⟨r, hr, hm⟩ := ih (i + 1) ht (by omega)
   refine ⟨r, Ev.step (fun k => rfl) (Ev.iteT (by omega) (Ev.iteT (by omega) (Ev.iteT (by omega) (Ev.iteF ?_ ?_)))), by simp [h1, hm]⟩
   ·rw [rdOf_nat _ _ _ hl2, hb, toList_iff]
    exact h1
   ·rw [wrapN (by omega)]
    exact hr
theorem contains_ev (l : List ByteArray) (x : ByteArray) (hl : l.length ≤ 4611686018427387903) : Ev (fun k => slices_Contains_string_string.f k l x) (memB l x) := by
 obtain ⟨r, hr, hm⟩ := index_loop l x hl l 0 rfl (Nat.zero_le _)
 exact Ev.bind hr (Ev.bool (memB_eq hm))
theorem nodup_take_succ {α : Type} (l : List α) (i : Nat) (h : i < l.length) : (l.take (i + 1)).Nodup ↔ (l.take i).Nodup ∧ l[i] ∉ l.take i := by
 rw [List.take_succ_eq_append_getElem h, List.nodup_append]
 simp only [List.nodup_cons, List.not_mem_nil, not_false_eq_true, List.nodup_nil, and_self, true_and, List.mem_singleton, forall_eq]
 exact ⟨fun ⟨a, b⟩ => ⟨a, fun hm => b _ hm rfl⟩, fun ⟨a, b⟩ => ⟨a, fun x hx e => b (e ▸ hx)⟩⟩
theorem nodup_of_take {α : Type} (l : List α) (i : Nat) (h : ¬ (l.take i).Nodup) : ¬ l.Nodup := fun hn => h (hn.sublist (List.take_sublist _ _))
/-- All in a list are of a size that numbers hold. -/
def SizesOk (l : List ByteArray) : Prop := ∀ x ∈ l, x.size ≤ 4611686018427387903
theorem xor_nat (a b : Nat) (ha : a < 2 ^ 62) (hb : b < 2 ^ 62) : bits .xor .i64 a b = ((a ^^^ b : Nat) : Int) := by
 have hk : IntKind.i64.bits = 64 := rfl
 have ha' : a % 2 ^ 64 = a := Nat.mod_eq_of_lt (by omega)
 have hb' : b % 2 ^ 64 = b := Nat.mod_eq_of_lt (by omega)
 have hx := Nat.xor_lt_two_pow ha hb
 simp only [bits, hk, BitVec.ofInt_natCast, BitVec.toNat_xor, BitVec.toNat_ofNat, ha', hb']
 rw [IntKind.wrap_i64]
 omega
theorem xor_nonneg (a b : Int) (ha : 0 ≤ a) (ha' : a < 4611686018427387904) (hb : 0 ≤ b) (hb' : b < 4611686018427387904) : 0 ≤ bits .xor .i64 a b := by
 obtain ⟨x, rfl⟩ := Int.eq_ofNat_of_zero_le ha
 obtain ⟨y, rfl⟩ := Int.eq_ofNat_of_zero_le hb
 rw [xor_nat x y (by omega) (by omega)]
 omega
/-- A code: what a reader reads. -/
structure Code_ (b : List Int) : Prop where
 len : b.length ≤ 2000
 byte : ∀ x ∈ b, 0 ≤ x ∧ x ≤ 255
theorem Code_.at_ {b : List Int} (h : Code_ b) (i : Int) (h0 : 0 ≤ i) (h1 : i < b.length) : 0 ≤ rd b i ∧ rd b i ≤ 255 := by
 obtain ⟨j, rfl⟩ := Int.eq_ofNat_of_zero_le h0
 rw [rd_nat b j (by omega)]
 exact h.byte _ (List.getElem_mem _)
theorem Code_.nil : Code_ [] := ⟨by simp, by simp⟩
theorem newReader_ev (l : List Int) (h : ∀ x ∈ l, 0 ≤ x ∧ x ≤ 255) : ∃ b, spec_newReader.f l = some (b, 0) ∧ Code_ b := by
 unfold spec_newReader.f
 by_cases h1 : (l.length : Int) > 2000
 ·rw [if_pos h1, if_pos (by omega)]
  exact ⟨_, rfl, ⟨by rw [List.length_take]; omega, fun x hx => h x (List.mem_of_mem_take hx)⟩⟩
 ·rw [if_neg h1]
  exact ⟨_, rfl, ⟨by omega, h⟩⟩
theorem pick_ev {b : List Int} (hb : Code_ b) (p n : Int) (h0 : 0 ≤ p) (h1 : p ≤ 1099511627776) (hn : n ≤ 1099511627776) :
  ∃ v, Ev (fun k => spec_reader_pick.f k b p n) (v, p + 1) ∧ 0 ≤ v ∧ (1 ≤ n → v < n) := by
 have w1 : wrap64 (p + 1) = p + 1 := wrapI (by omega)
 have w0 : wrap64 (p + 1 - 1) = p := by rw [wrapI (by omega)]; omega
 have hl := hb.len
 unfold spec_reader_pick.f
 rw [w1]
 by_cases c1 : n < 1
 ·exact ⟨0, ⟨1, fun k hk => by obtain ⟨m, rfl⟩ : ∃ m, k = m + 1 := ⟨k - 1, by omega⟩; exact (if_pos c1).trans rfl⟩, by omega, by omega⟩
 ·simp only [if_neg c1]
  by_cases c2 : b.length = 0
  ·exact ⟨0, Ev.step (fun k => rfl) (Ev.iteT (by simp [c2]) (Ev.some_ rfl)), by omega, by omega⟩
  ·by_cases c3 : p < (b.length : Int)
   ·have ha := hb.at_ p h0 c3
    have w2 : wrap64 (rd b p) = rd b p := wrapI (by omega)
    refine ⟨Int.tmod (rd b p) n, Ev.step (fun k => rfl) (Ev.iteF (by simp only [beq_iff_eq]; omega) (Ev.iteT (by rw [w0]; exact c3) (Ev.iteT (by rw [w0]; exact h0) (Ev.iteF (by omega) (Ev.some_ ?_))))), Int.tmod_nonneg _ ha.1, fun _ => Int.tmod_lt_of_pos _ (by omega)⟩
    rw [w0, w2]
   ·have hL : (0 : Int) < b.length := by omega
    have t1 : 0 ≤ Int.tmod p b.length := Int.tmod_nonneg _ h0
    have t2 : Int.tmod p b.length < b.length := Int.tmod_lt_of_pos _ hL
    have w3 : wrap64 (p * 7) = p * 7 := wrapI (by omega)
    have w4 : wrap64 (p * 7 + 3) = p * 7 + 3 := wrapI (by omega)
    have t3 : 0 ≤ Int.tmod (p * 7 + 3) b.length := Int.tmod_nonneg _ (by omega)
    have t4 : Int.tmod (p * 7 + 3) b.length < b.length := Int.tmod_lt_of_pos _ hL
    have a1 := hb.at_ _ t1 t2
    have a2 := hb.at_ _ t3 t4
    have d0 : 0 ≤ Int.tdiv p b.length := Int.tdiv_nonneg h0 (by omega)
    have d1 : Int.tdiv p b.length ≤ p := by
     rw [Int.tdiv_eq_ediv_of_nonneg h0]
     exact Int.ediv_le_self _ h0
    generalize hA : rd b (Int.tmod p b.length) = A at a1
    generalize hB : rd b (Int.tmod (p * 7 + 3) b.length) = B at a2
    generalize hQ : Int.tdiv p b.length = Q at d0 d1
    have v1 : wrap64 A = A := wrapI (by omega)
    have v2 : wrap64 (A * 131) = A * 131 := wrapI (by omega)
    have v3 : wrap64 B = B := wrapI (by omega)
    have v4 : wrap64 (B * 1117) = B * 1117 := wrapI (by omega)
    have v5 : wrap64 (A * 131 + B * 1117) = A * 131 + B * 1117 := wrapI (by omega)
    have v6 : wrap64 (p * 29) = p * 29 := wrapI (by omega)
    have v7 : wrap64 (A * 131 + B * 1117 + p * 29) = A * 131 + B * 1117 + p * 29 := wrapI (by omega)
    have v8 : wrap64 Q = Q := wrapI (by omega)
    have v9 : wrap64 (Q * 53) = Q * 53 := wrapI (by omega)
    have v10 : wrap64 (A * 131 + B * 1117 + p * 29 + Q * 53) = A * 131 + B * 1117 + p * 29 + Q * 53 := wrapI (by omega)
    have x0 : 0 ≤ A * 131 + B * 1117 + p * 29 + Q * 53 := by omega
    have x1 : A * 131 + B * 1117 + p * 29 + Q * 53 < 4611686018427387904 := by omega
    generalize hX : A * 131 + B * 1117 + p * 29 + Q * 53 = X at v10 x0 x1
    have e0 : 0 ≤ Int.tdiv X 64 := Int.tdiv_nonneg x0 (by omega)
    have e1 : Int.tdiv X 64 ≤ X := by
     rw [Int.tdiv_eq_ediv_of_nonneg x0]
     exact Int.ediv_le_self _ x0
    have v11 : wrap64 (Int.tdiv X 64) = Int.tdiv X 64 := wrapI (by omega)
    have hx := xor_nonneg X (Int.tdiv X 64) x0 x1 e0 (by omega)
    refine ⟨Int.tmod (bits .xor .i64 X (Int.tdiv X 64)) n, ?_, Int.tmod_nonneg _ hx, fun _ => Int.tmod_lt_of_pos _ (by omega)⟩
    refine Ev.step (fun k => rfl) (Ev.iteF (by simp only [beq_iff_eq]; omega) (Ev.iteF (by rw [w0]; exact c3) (Ev.iteF (by omega) ?_)))
    simp only [w0, w3, w4]
    refine Ev.iteT t1 (Ev.iteT t2 (Ev.iteT t3 (Ev.iteT t4 (Ev.iteF (by omega) (Ev.some_ ?_)))))
    simp only [hA, hB, hQ, v1, v2, v3, v4, v5, v6, v7, v8, v9, hX, v10, v11]
theorem of_ev {b : List Int} (hb : Code_ b) (p : Int) (h0 : 0 ≤ p) (h1 : p ≤ 1099511627776) (l : List ByteArray) (hl : 1 ≤ l.length) (hl' : l.length ≤ 1000) :
  ∃ x, x ∈ l ∧ Ev (fun k => spec_reader_of.f k b p l) (x, p + 1) := by
 obtain ⟨v, hv, v0, v1⟩ := pick_ev hb p (l.length : Int) h0 h1 (by omega)
 have v1 := v1 (by omega)
 obtain ⟨j, rfl⟩ := Int.eq_ofNat_of_zero_le v0
 refine ⟨l[j]'(by omega), List.getElem_mem _, ?_⟩
 unfold spec_reader_of.f
 exact Ev.bind hv (Ev.iteT v0 (Ev.iteT v1 (Ev.some_ (by rw [rdOf_nat _ _ _ (by omega)]))))
theorem one_ev {b : List Int} (hb : Code_ b) (p : Int) (h0 : 0 ≤ p) (h1 : p ≤ 1099511627776) (l : List Int) (hl : 1 ≤ l.length) (hl' : l.length ≤ 1000) :
  ∃ x, x ∈ l ∧ Ev (fun k => spec_reader_one.f k b p l) (x, p + 1) := by
 obtain ⟨v, hv, v0, v1⟩ := pick_ev hb p (l.length : Int) h0 h1 (by omega)
 have v1 := v1 (by omega)
 obtain ⟨j, rfl⟩ := Int.eq_ofNat_of_zero_le v0
 refine ⟨l[j]'(by omega), List.getElem_mem _, ?_⟩
 unfold spec_reader_one.f
 exact Ev.bind hv (Ev.iteT v0 (Ev.iteT v1 (Ev.some_ (by rw [rd_nat _ _ (by omega)]))))
theorem wfByte {x : Int} (h : (Lit.int .u8 x).wf = true) : 0 ≤ x ∧ x ≤ 255 := by
 simp [Lit.wf, IntKind.min, IntKind.max, IntKind.signed, IntKind.bits] at h
 omega
theorem equalTexts_loop (a : List ByteArray) (ha : a.length ≤ 4611686018427387903) : ∀ (d i : Nat), i + d = a.length → Ev (fun k => laws_equalTexts.l0 k a a (i : Int)) true := by
 intro d
 induction d with
 | zero =>
  intro i hd
  exact Ev.step (fun k => rfl) (Ev.iteF (by omega) (Ev.some_ rfl))
 | succ d ih =>
  intro i hd
  refine Ev.step (fun k => rfl) (Ev.iteT (by omega) (Ev.iteT (by omega) (Ev.iteT (by omega) (Ev.iteT rfl ?_))))
  rw [wrapN (by omega)]
  exact ih (i + 1) (by omega)
theorem equalTexts_ev (a : List ByteArray) (ha : a.length ≤ 4611686018427387903) : Ev (fun k => laws_equalTexts.f k a a) true := by
 unfold laws_equalTexts.f
 exact Ev.iteT rfl (equalTexts_loop a ha a.length 0 (by omega))
theorem lawHasText_loop (l : List ByteArray) (x : ByteArray) (hl : l.length ≤ 4611686018427387903) : ∀ (t : List ByteArray) (i : Nat), l.drop i = t → i ≤ l.length →
  Ev (fun k => laws_hasText.l0 k l x (i : Int)) (memB t x) := by
 intro t
 induction t with
 | nil =>
  intro i h hi
  have hl2 := drop_nil h
  exact Ev.step (fun k => rfl) (Ev.iteF (by omega) (Ev.some_ rfl))
 | cons b t ih =>
  intro i h hi
  obtain ⟨hl2, hb, ht⟩ := drop_cons h
  refine Ev.step (fun k => rfl) (Ev.iteT (by omega) (Ev.iteT (by omega) ?_))
  rw [rdOf_nat _ _ _ hl2, hb]
  by_cases h1 : b = x
  ·exact Ev.iteT (by rw [h1]) (Ev.some_ (by simp [memB, h1]))
  ·refine Ev.iteF (by rw [toList_iff]; exact h1) ?_
   rw [wrapN (by omega)]
   have e : memB (b :: t) x = memB t x := by simp [memB, h1]
   rw [e]
   exact ih (i + 1) ht (by omega)
theorem lawHasText_ev (l : List ByteArray) (x : ByteArray) (hl : l.length ≤ 4611686018427387903) : Ev (fun k => laws_hasText.f k l x) (memB l x) :=
 lawHasText_loop l x hl l 0 rfl (Nat.zero_le _)
theorem lawApart_loop (l : List ByteArray) (hl : l.length ≤ 4611686018427387903) (hn : l.Nodup) : ∀ (d i : Nat), i + d = l.length → Ev (fun k => laws_apart.l0 k l (i : Int)) true := by
 intro d
 induction d with
 | zero =>
  intro i hd
  exact Ev.step (fun k => rfl) (Ev.iteF (by omega) (Ev.some_ rfl))
 | succ d ih =>
  intro i hd
  have hi : i < l.length := by omega
  refine Ev.step (fun k => rfl) (Ev.iteT (by omega) (Ev.iteT (by omega) (Ev.iteT (by omega) ?_)))
  rw [rdOf_nat _ _ _ hi, Int.toNat_natCast]
  refine Ev.bind (lawHasText_ev (l.take i) l[i] (by rw [List.length_take]; omega)) (Ev.iteF (fun h => ?_) ?_)
  ·have hn2 : (l.take (i + 1)).Nodup := hn.sublist (List.take_sublist _ _)
   exact ((nodup_take_succ l i hi).1 hn2).2 (memB_iff.1 h)
  ·rw [wrapN (by omega)]
   exact ih (i + 1) (by omega)
theorem lawApart_ev (l : List ByteArray) (hl : l.length ≤ 4611686018427387903) (hn : l.Nodup) : Ev (fun k => laws_apart.f k l) true :=
 lawApart_loop l hl hn l.length 0 (by omega)
theorem hasText_loop (l : List ByteArray) (x : ByteArray) (hl : l.length ≤ 4611686018427387903) : ∀ (t : List ByteArray) (i : Nat), l.drop i = t → i ≤ l.length →
  Ev (fun k => spec_hasText.l0 k l x (i : Int)) (memB t x) := by
 intro t
 induction t with
 | nil =>
  intro i h hi
  have hl2 := drop_nil h
  exact Ev.step (fun k => rfl) (Ev.iteF (by omega) (Ev.some_ rfl))
 | cons b t ih =>
  intro i h hi
  obtain ⟨hl2, hb, ht⟩ := drop_cons h
  refine Ev.step (fun k => rfl) (Ev.iteT (by omega) (Ev.iteT (by omega) ?_))
  rw [rdOf_nat _ _ _ hl2, hb]
  by_cases h1 : b = x
  ·exact Ev.iteT (by rw [h1]) (Ev.some_ (by simp [memB, h1]))
  ·refine Ev.iteF (by rw [toList_iff]; exact h1) ?_
   rw [wrapN (by omega)]
   have e : memB (b :: t) x = memB t x := by simp [memB, h1]
   rw [e]
   exact ih (i + 1) ht (by omega)
theorem hasText_ev (l : List ByteArray) (x : ByteArray) (hl : l.length ≤ 4611686018427387903) : Ev (fun k => spec_hasText.f k l x) (memB l x) :=
 hasText_loop l x hl l 0 rfl (Nat.zero_le _)
def namesS (l : List ByteArray) (m : Int) : Bool := l.all nameS && (decide l.Nodup && decide ((l.length : Int) ≤ m))
theorem namesOk_loop (l : List ByteArray) (m : Int) (hl : l.length ≤ 4611686018427387903) (hz : SizesOk l) : ∀ (t : List ByteArray) (i : Nat), l.drop i = t → i ≤ l.length → (l.take i).Nodup →
  Ev (fun k => impl_namesOk.l0 k l m l (l.length : Int) (i : Int)) (t.all nameS && (decide l.Nodup && decide ((l.length : Int) ≤ m))) := by
 intro t
 induction t with
 | nil =>
  intro i h hi hn
  have hl2 := drop_nil h
  rw [List.take_of_length_le hl2] at hn
  exact Ev.step (fun k => rfl) (Ev.iteF (by omega) (Ev.some_ (by simp [hn])))
 | cons b t ih =>
  intro i h hi hn
  obtain ⟨hl2, hb, ht⟩ := drop_cons h
  have hs : b.size ≤ 4611686018427387903 := hz b (hb ▸ List.getElem_mem hl2)
  refine Ev.step (fun k => rfl) (Ev.iteT (by omega) (Ev.iteT (by omega) (Ev.iteT (by omega) ?_)))
  rw [rdOf_nat _ _ _ hl2, hb, Int.toNat_natCast]
  refine Ev.bind (nameOk_ev b hs) ?_
  cases hnm : nameS b with
  | false => exact Ev.iteF (by simp) (Ev.bool (by simp [hnm]))
  | true =>
   refine Ev.iteT rfl (Ev.iteT (by omega) (Ev.bind (contains_ev (l.take i) b (by rw [List.length_take]; omega)) ?_))
   by_cases hm : b ∈ l.take i
   ·refine Ev.iteT (memB_iff.2 hm) (Ev.bool ?_)
    have : ¬ l.Nodup := nodup_of_take l (i + 1) (fun h => ((nodup_take_succ l i hl2).1 h).2 (hb ▸ hm))
    simp [this]
   ·refine Ev.iteF (by rw [memB_iff]; exact hm) ?_
    rw [wrapN (by omega)]
    simpa [List.all_cons, hnm] using ih (i + 1) ht (by omega) ((nodup_take_succ l i hl2).2 ⟨hn, hb ▸ hm⟩)
theorem namesOk_ev (l : List ByteArray) (m : Int) (hl : l.length ≤ 4611686018427387903) (hz : SizesOk l) : Ev (fun k => impl_namesOk.f k l m) (namesS l m) :=
 namesOk_loop l m hl hz l 0 rfl (Nat.zero_le _) (by simp)
theorem validNames_loop (l : List ByteArray) (m : Int) (hl : l.length ≤ 4611686018427387903) (hz : SizesOk l) : ∀ (t : List ByteArray) (i : Nat), l.drop i = t → i ≤ l.length → (l.take i).Nodup →
  Ev (fun k => spec_validNames.l0 k l m (i : Int)) (t.all nameS && (decide l.Nodup && decide ((l.length : Int) ≤ m))) := by
 intro t
 induction t with
 | nil =>
  intro i h hi hn
  have hl2 := drop_nil h
  rw [List.take_of_length_le hl2] at hn
  exact Ev.step (fun k => rfl) (Ev.iteF (by omega) (Ev.some_ (by simp [hn])))
 | cons b t ih =>
  intro i h hi hn
  obtain ⟨hl2, hb, ht⟩ := drop_cons h
  have hs : b.size ≤ 4611686018427387903 := hz b (hb ▸ List.getElem_mem hl2)
  refine Ev.step (fun k => rfl) (Ev.iteT (by omega) (Ev.iteT (by omega) ?_))
  rw [rdOf_nat _ _ _ hl2, hb, Int.toNat_natCast]
  refine Ev.bind (validName_ev b hs) ?_
  cases hnm : nameS b with
  | false => exact Ev.iteF (by simp) (Ev.bool (by simp [hnm]))
  | true =>
   refine Ev.iteT rfl (Ev.iteT (by omega) (Ev.bind (hasText_ev (l.take i) b (by rw [List.length_take]; omega)) ?_))
   by_cases hm : b ∈ l.take i
   ·refine Ev.iteT (memB_iff.2 hm) (Ev.bool ?_)
    have : ¬ l.Nodup := nodup_of_take l (i + 1) (fun h => ((nodup_take_succ l i hl2).1 h).2 (hb ▸ hm))
    simp [this]
   ·refine Ev.iteF (by rw [memB_iff]; exact hm) ?_
    rw [wrapN (by omega)]
    simpa [List.all_cons, hnm] using ih (i + 1) ht (by omega) ((nodup_take_succ l i hl2).2 ⟨hn, hb ▸ hm⟩)
theorem validNames_ev (l : List ByteArray) (m : Int) (hl : l.length ≤ 4611686018427387903) (hz : SizesOk l) : Ev (fun k => spec_validNames.f k l m) (namesS l m) :=
 validNames_loop l m hl hz l 0 rfl (Nat.zero_le _) (by simp)
theorem less_flip {a b : ByteArray} (h : a ≠ b) : Op.bytesLess b.toList a.toList = !(Op.bytesLess a.toList b.toList) := by
 rw [Go.Proofs.bytesLess_eq, Go.Proofs.bytesLess_eq]
 have hne : a.toList ≠ b.toList := fun e => h (toList_inj e)
 by_cases h1 : a.toList < b.toList
 ·have h2 : ¬ b.toList < a.toList := List.lt_asymm h1
  simp [h1, h2]
 ·have h2 : b.toList < a.toList := by
   rcases List.le_iff_lt_or_eq.1 (List.not_lt.1 h1) with h2 | h2
   ·exact h2
   ·exact absurd h2.symm hne
  simp [h1, h2]
def pairS (l : List ByteArray) (i : Nat) : Bool := Op.bytesLess (l.getD i ByteArray.empty).toList (l.getD (i + 1) ByteArray.empty).toList
def ascS (l : List ByteArray) : Bool := (List.range (l.length - 1)).all (pairS l)
theorem pairS_at (l : List ByteArray) (i : Nat) (h : i + 1 < l.length) : pairS l i = Op.bytesLess (l[i]).toList (l[i + 1]).toList := by
 unfold pairS
 rw [List.getD_eq_getElem?_getD, List.getD_eq_getElem?_getD, List.getElem?_eq_getElem h, List.getElem?_eq_getElem (by omega)]
 rfl
theorem ascending_loop (l : List ByteArray) (hl : l.length ≤ 4611686018427387903) : ∀ (d i : Nat), i + 1 + d = l.length →
  Ev (fun k => spec_ascending.l0 k l ((i + 1 : Nat) : Int)) ((List.range' i d).all (pairS l)) := by
 intro d
 induction d with
 | zero =>
  intro i hd
  exact Ev.step (fun k => rfl) (Ev.iteF (by omega) (Ev.some_ (by simp)))
 | succ d ih =>
  intro i hd
  have e : wrap64 (((i + 1 : Nat) : Int) - 1) = (i : Int) := by rw [wrapI (by omega)]; omega
  refine Ev.step (fun k => rfl) (Ev.iteT (by omega) (Ev.iteT (by omega) ?_))
  rw [e, rdOf_nat _ _ i (by omega), rdOf_nat _ _ (i + 1) (by omega), wrapN (by omega), List.range'_succ, List.all_cons, pairS_at l i (by omega)]
  refine Ev.iteT (by omega) (Ev.iteT (by omega) ?_)
  cases hp : Op.bytesLess (l[i]).toList (l[i + 1]).toList with
  | true => exact Ev.iteT rfl (by simpa using ih (i + 1) (by omega))
  | false => exact Ev.iteF (by simp) (Ev.bool (by simp))
theorem ascending_ev (l : List ByteArray) (hl : l.length ≤ 4611686018427387903) : Ev (fun k => spec_ascending.f k l) (ascS l) := by
 unfold spec_ascending.f ascS
 by_cases h : l.length = 0
 ·refine Ev.step (fun k => rfl) (Ev.iteF (by omega) (Ev.some_ ?_))
  rw [h]
  rfl
 ·have := ascending_loop l hl (l.length - 1) 0 (by omega)
  rw [List.range_eq_range']
  exact this
theorem less_eq (a b : ByteArray) : cmp_Less_string.f a b = some (Op.bytesLess a.toList b.toList) := by
 unfold cmp_Less_string.f cmp_isNaN_string.f
 simp
theorem nodup_ne (l : List ByteArray) (h : l.Nodup) (i : Nat) (hi : i + 1 < l.length) : l[i] ≠ l[i + 1] := by
 intro e
 have := (List.getElem_inj h (h₀ := by omega) (h₁ := hi)).1 e
 omega
theorem isSorted_loop (l : List ByteArray) (hl : l.length ≤ 4611686018427387903) (hn : l.Nodup) : ∀ (n : Nat), n + 1 ≤ l.length →
  Ev (fun k => slices_IsSorted_string_string.l0 k l (n : Int)) ((List.range n).all (pairS l)) := by
 intro n
 induction n with
 | zero =>
  intro hd
  exact Ev.step (fun k => rfl) (Ev.iteF (by omega) (Ev.some_ (by simp)))
 | succ n ih =>
  intro hd
  have e : wrap64 (((n + 1 : Nat) : Int) - 1) = (n : Int) := by rw [wrapI (by omega)]; omega
  refine Ev.step (fun k => rfl) (Ev.iteT (by omega) (Ev.iteT (by omega) (Ev.iteT (by omega) ?_)))
  rw [e, rdOf_nat _ _ n (by omega), rdOf_nat _ _ (n + 1) (by omega), List.range_succ, List.all_append, show [n].all (pairS l) = pairS l n by simp, pairS_at l n (by omega)]
  refine Ev.iteT (by omega) (Ev.iteT (by omega) (Ev.bind0 (less_eq _ _) ?_))
  rw [less_flip (nodup_ne l hn n (by omega))]
  cases hp : Op.bytesLess (l[n]).toList (l[n + 1]).toList with
  | true => exact Ev.iteF (by simp) (by simpa [hp] using ih (by omega))
  | false => exact Ev.iteT rfl (Ev.bool (by simp [hp]))
theorem isSorted_ev (l : List ByteArray) (hl : l.length ≤ 4611686018427387903) (hn : l.Nodup) : Ev (fun k => slices_IsSorted_string_string.f k l) (ascS l) := by
 unfold slices_IsSorted_string_string.f ascS
 by_cases h : l.length = 0
 ·have e : wrap64 ((l.length : Int) - 1) = -1 := by rw [h, wrapI (by omega)]; rfl
  rw [e, h]
  exact Ev.step (fun k => rfl) (Ev.iteF (by omega) (Ev.some_ rfl))
 ·have e : wrap64 ((l.length : Int) - 1) = ((l.length - 1 : Nat) : Int) := by rw [wrapI (by omega)]; omega
  rw [e]
  exact isSorted_loop l hl hn (l.length - 1) (by omega)
structure TSz (q : S28) : Prop where
 s0 : q.f0.size ≤ 1048576
 s1 : q.f1.size ≤ 1048576
 r2 : q.f2.length ≤ 1048576 ∧ SizesOk q.f2
 r3 : q.f3.length ≤ 1048576 ∧ SizesOk q.f3
def testS (q : S28) : Bool := nameS q.f0 && (nameS q.f1 && (namesS q.f2 3 && (ascS q.f2 && namesS q.f3 4)))
theorem namesS_nodup {l : List ByteArray} {m : Int} (h : namesS l m = true) : l.Nodup := by
 unfold namesS at h
 simp only [Bool.and_eq_true, decide_eq_true_eq] at h
 exact h.2.1
theorem testOk_ev (q : S28) (h : TSz q) : Ev (fun k => impl_testOk.f k q.f0 q.f1 q.f2 q.f3) (testS q) := by
 unfold impl_testOk.f testS
 have h0 := h.s0
 have h1 := h.s1
 have h2 := h.r2.1
 have h3 := h.r3.1
 refine Ev.bind (nameOk_ev q.f0 (by omega)) ?_
 cases c0 : nameS q.f0 with
 | false => exact Ev.iteF (by simp) (Ev.bool (by simp))
 | true =>
  refine Ev.iteT rfl (Ev.bind (nameOk_ev q.f1 (by omega)) ?_)
  cases c1 : nameS q.f1 with
  | false => exact Ev.iteF (by simp) (Ev.bool (by simp))
  | true =>
   refine Ev.iteT rfl (Ev.bind (namesOk_ev q.f2 3 (by omega) h.r2.2) ?_)
   cases c2 : namesS q.f2 3 with
   | false => exact Ev.iteF (by simp) (Ev.bool (by simp))
   | true =>
    refine Ev.iteT rfl (Ev.bind (isSorted_ev q.f2 (by omega) (namesS_nodup c2)) ?_)
    cases c3 : ascS q.f2 with
    | false => exact Ev.iteF (by simp) (Ev.bool (by simp))
    | true => exact Ev.iteT rfl (Ev.bind (namesOk_ev q.f3 4 (by omega) h.r3.2) (Ev.bool (by simp)))
theorem validTest_ev (q : S28) (h : TSz q) : Ev (fun k => spec_validTest.f k q.f0 q.f1 q.f2 q.f3) (testS q) := by
 unfold spec_validTest.f testS
 have h0 := h.s0
 have h1 := h.s1
 have h2 := h.r2.1
 have h3 := h.r3.1
 refine Ev.bind (validName_ev q.f0 (by omega)) ?_
 cases c0 : nameS q.f0 with
 | false => exact Ev.iteF (by simp) (Ev.bool (by simp))
 | true =>
  refine Ev.iteT rfl (Ev.bind (validName_ev q.f1 (by omega)) ?_)
  cases c1 : nameS q.f1 with
  | false => exact Ev.iteF (by simp) (Ev.bool (by simp))
  | true =>
   refine Ev.iteT rfl (Ev.bind (validNames_ev q.f2 3 (by omega) h.r2.2) ?_)
   cases c2 : namesS q.f2 3 with
   | false => exact Ev.iteF (by simp) (Ev.bool (by simp))
   | true =>
    refine Ev.iteT rfl (Ev.bind (ascending_ev q.f2 (by omega)) ?_)
    cases c3 : ascS q.f2 with
    | false => exact Ev.iteF (by simp) (Ev.bool (by simp))
    | true => exact Ev.iteT rfl (Ev.bind (validNames_ev q.f3 4 (by omega) h.r3.2) (Ev.bool (by simp)))
theorem rdT_nat (l : List S28) (i : Nat) (h : i < l.length) : rd_T28 l (i : Int) = l[i] := by
 unfold rd_T28
 exact getD_nat _ _ _ h
def idV (q : S28) : ByteArray := (q.f0 ++ (⟨#[46]⟩ : ByteArray)) ++ q.f1
theorem implIdOf_eq (q : S28) (h : TSz q) : impl_idOf.f q.f0 q.f1 q.f2 q.f3 = some (idV q) := by
 have h0 := h.s0
 have h1 := h.s1
 unfold impl_idOf.f idV
 rw [if_pos (by omega), if_pos (by omega)]
theorem specIdOf_eq (q : S28) (h : TSz q) : spec_idOf.f q.f0 q.f1 q.f2 q.f3 = some (idV q) := by
 have h0 := h.s0
 have h1 := h.s1
 unfold spec_idOf.f idV
 rw [if_pos (by omega), if_pos (by omega)]
structure TSzS (l : List S28) : Prop where
 len : l.length ≤ 1048576
 one : ∀ q ∈ l, TSz q
def testsS (l : List S28) : Bool := l.all testS && (decide (l.map idV).Nodup && decide ((l.length : Int) ≤ 10))
theorem map_take_get (l : List S28) (i : Nat) (h : i < l.length) : (l.map idV)[i]'(by rw [List.length_map]; exact h) = idV l[i] := List.getElem_map ..
theorem validTestsI_loop (l : List S28) (hl : TSzS l) : ∀ (t : List S28) (i : Nat), l.drop i = t → i ≤ l.length → ((l.map idV).take i).Nodup →
  Ev (fun k => impl_ValidTests.l0 k l ((l.map idV).take i) l (l.length : Int) (i : Int)) (t.all testS && (decide (l.map idV).Nodup && decide ((l.length : Int) ≤ 10))) := by
 have hlen := hl.len
 have hml : (l.map idV).length = l.length := List.length_map ..
 intro t
 induction t with
 | nil =>
  intro i h hi hn
  have hl2 := drop_nil h
  rw [List.take_of_length_le (by omega)] at hn
  exact Ev.step (fun k => rfl) (Ev.iteF (by omega) (Ev.some_ (by simp [hn])))
 | cons b t ih =>
  intro i h hi hn
  obtain ⟨hl2, hb, ht⟩ := drop_cons h
  have hs : TSz b := hl.one b (hb ▸ List.getElem_mem hl2)
  have hg : (l.map idV)[i]'(by omega) = idV b := by rw [map_take_get l i hl2, hb]
  refine Ev.step (fun k => rfl) (Ev.iteT (by omega) (Ev.iteT (by omega) (Ev.iteT (by omega) ?_)))
  rw [rdT_nat _ _ hl2, hb]
  refine Ev.bind (testOk_ev b hs) ?_
  cases hnm : testS b with
  | false => exact Ev.iteF (by simp) (Ev.bool (by simp [hnm]))
  | true =>
   refine Ev.iteT rfl (Ev.bind0 (implIdOf_eq b hs) (Ev.bind (contains_ev ((l.map idV).take i) (idV b) (by rw [List.length_take]; omega)) ?_))
   by_cases hm : idV b ∈ (l.map idV).take i
   ·refine Ev.iteT (memB_iff.2 hm) (Ev.bool ?_)
    have : ¬ (l.map idV).Nodup := nodup_of_take _ (i + 1) (fun h => ((nodup_take_succ _ i (by omega)).1 h).2 (by rw [hg]; exact hm))
    simp [this]
   ·refine Ev.iteF (by rw [memB_iff]; exact hm) (Ev.bind0 (implIdOf_eq b hs) (Ev.iteT (by rw [List.length_take]; omega) ?_))
    rw [wrapN (by omega), ← hg, ← List.take_succ_eq_append_getElem (by omega)]
    simpa [List.all_cons, hnm] using ih (i + 1) ht (by omega) ((nodup_take_succ _ i (by omega)).2 ⟨hn, by rw [hg]; exact hm⟩)
theorem validTestsI_ev (l : List S28) (hl : TSzS l) : Ev (fun k => impl_ValidTests.f k l) (testsS l) := by
 have := validTestsI_loop l hl l 0 rfl (Nat.zero_le _) (by simp)
 exact this
theorem findTest_loop (l : List S28) (hl : TSzS l) (x : ByteArray) : ∀ (t : List S28) (i : Nat), l.drop i = t → i ≤ l.length →
  ∃ r : Int, Ev (fun k => spec_findTest.l0 k l x (i : Int)) r ∧ (0 ≤ r ↔ x ∈ t.map idV) := by
 have hlen := hl.len
 intro t
 induction t with
 | nil =>
  intro i h hi
  have hl2 := drop_nil h
  exact ⟨-1, Ev.step (fun k => rfl) (Ev.iteF (by omega) (Ev.some_ rfl)), by simp⟩
 | cons b t ih =>
  intro i h hi
  obtain ⟨hl2, hb, ht⟩ := drop_cons h
  have hs : TSz b := hl.one b (hb ▸ List.getElem_mem hl2)
  by_cases h1 : idV b = x
  ·refine ⟨(i : Int), Ev.step (fun k => rfl) (Ev.iteT (by omega) (Ev.iteT (by omega) ?_)), by simp [h1]⟩
   rw [rdT_nat _ _ hl2, hb]
   exact Ev.bind0 (specIdOf_eq b hs) (Ev.iteT (by rw [h1]) (Ev.some_ rfl))
  ·obtain ⟨r, hr, hm⟩ := ih (i + 1) ht (by omega)
   refine ⟨r, Ev.step (fun k => rfl) (Ev.iteT (by omega) (Ev.iteT (by omega) ?_)), by rw [List.map_cons, List.mem_cons]; exact ⟨fun h => Or.inr (hm.1 h), fun h => h.elim (fun e => absurd e.symm h1) hm.2⟩⟩
   rw [rdT_nat _ _ hl2, hb]
   refine Ev.bind0 (specIdOf_eq b hs) (Ev.iteF (by rw [toList_iff]; exact h1) ?_)
   rw [wrapN (by omega)]
   exact hr
theorem TSzS.take {l : List S28} (h : TSzS l) (n : Nat) : TSzS (l.take n) := ⟨by have := h.len; rw [List.length_take]; omega, fun q hq => h.one q (List.mem_of_mem_take hq)⟩
theorem validTestsS_loop (l : List S28) (hl : TSzS l) : ∀ (t : List S28) (i : Nat), l.drop i = t → i ≤ l.length → ((l.map idV).take i).Nodup →
  Ev (fun k => spec_validTests.l0 k l (i : Int)) (t.all testS && (decide (l.map idV).Nodup && decide ((l.length : Int) ≤ 10))) := by
 have hlen := hl.len
 have hml : (l.map idV).length = l.length := List.length_map ..
 intro t
 induction t with
 | nil =>
  intro i h hi hn
  have hl2 := drop_nil h
  rw [List.take_of_length_le (by omega)] at hn
  exact Ev.step (fun k => rfl) (Ev.iteF (by omega) (Ev.some_ (by simp [hn])))
 | cons b t ih =>
  intro i h hi hn
  obtain ⟨hl2, hb, ht⟩ := drop_cons h
  have hs : TSz b := hl.one b (hb ▸ List.getElem_mem hl2)
  have hg : (l.map idV)[i]'(by omega) = idV b := by rw [map_take_get l i hl2, hb]
  refine Ev.step (fun k => rfl) (Ev.iteT (by omega) (Ev.iteT (by omega) ?_))
  rw [rdT_nat _ _ hl2, hb, Int.toNat_natCast]
  refine Ev.bind (validTest_ev b hs) ?_
  cases hnm : testS b with
  | false => exact Ev.iteF (by simp) (Ev.bool (by simp [hnm]))
  | true =>
   obtain ⟨r, hr, hm⟩ := findTest_loop (l.take i) (hl.take i) (idV b) (l.take i) 0 rfl (Nat.zero_le _)
   rw [List.map_take] at hm
   refine Ev.iteT rfl (Ev.iteT (by omega) (Ev.bind0 (specIdOf_eq b hs) (Ev.bind hr ?_)))
   by_cases hm2 : idV b ∈ (l.map idV).take i
   ·refine Ev.iteT (hm.2 hm2) (Ev.bool ?_)
    have : ¬ (l.map idV).Nodup := nodup_of_take _ (i + 1) (fun h => ((nodup_take_succ _ i (by omega)).1 h).2 (by rw [hg]; exact hm2))
    simp [this]
   ·refine Ev.iteF (fun h => hm2 (hm.1 h)) ?_
    rw [wrapN (by omega)]
    simpa [List.all_cons, hnm] using ih (i + 1) ht (by omega) ((nodup_take_succ _ i (by omega)).2 ⟨hn, by rw [hg]; exact hm2⟩)
theorem validTestsS_ev (l : List S28) (hl : TSzS l) : Ev (fun k => spec_validTests.f k l) (testsS l) := by
 have := validTestsS_loop l hl l 0 rfl (Nat.zero_le _) (by simp)
 exact this
def addM (o : List ByteArray) (x : ByteArray) : List ByteArray := if memB o x = true then o else o ++ [x]
def modsF : List ByteArray → List S28 → List ByteArray
 | o, [] => o
 | o, q :: t => modsF (addM o q.f0) t
theorem addM_length (o : List ByteArray) (x : ByteArray) : (addM o x).length ≤ o.length + 1 := by
 unfold addM
 split <;> simp
theorem modsF_length : ∀ (l : List S28) (o : List ByteArray), (modsF o l).length ≤ o.length + l.length
 | [], o => by simp [modsF]
 | q :: t, o => by
  have h1 := modsF_length t (addM o q.f0)
  have h2 := addM_length o q.f0
  simp only [modsF, List.length_cons]
  omega
def modsV (l : List S28) : List ByteArray := if testsS l = true then modsF [] l else []
theorem modsV_length (l : List S28) : (modsV l).length ≤ l.length := by
 unfold modsV
 split
 ·have := modsF_length l []
  simpa using this
 ·simp
theorem implMods_loop (l : List S28) (hl : TSzS l) : ∀ (t : List S28) (i : Nat) (o : List ByteArray), l.drop i = t → i ≤ l.length → o.length ≤ i → Ev (fun k => impl_modulesOf.l0 k o l (l.length : Int) (i : Int)) (modsF o t) := by
 have hlen := hl.len
 intro t
 induction t with
 | nil =>
  intro i o h hi ho
  have hl2 := drop_nil h
  exact Ev.step (fun k => rfl) (Ev.iteF (by omega) (Ev.some_ rfl))
 | cons b t ih =>
  intro i o h hi ho
  obtain ⟨hl2, hb, ht⟩ := drop_cons h
  have h2 := addM_length o b.f0
  have := ih (i + 1) (addM o b.f0) ht (by omega) (by omega)
  unfold addM at this
  refine Ev.step (fun k => rfl) (Ev.iteT (by omega) (Ev.iteT (by omega) (Ev.iteT (by omega) ?_)))
  rw [rdT_nat _ _ hl2, hb]
  refine Ev.bind (contains_ev o b.f0 (by omega)) ?_
  rw [wrapN (by omega)]
  unfold modsF addM
  by_cases hm : memB o b.f0 = true
  ·rw [if_pos hm] at this ⊢
   exact Ev.iteT hm this
  ·rw [if_neg hm] at this ⊢
   exact Ev.iteF hm (Ev.iteT (by omega) this)
theorem implMods_ev (l : List S28) (hl : TSzS l) : Ev (fun k => impl_modulesOf.f k l) (modsF [] l) :=
 implMods_loop l hl l 0 [] rfl (Nat.zero_le _) (Nat.zero_le _)
theorem specMods_loop (l : List S28) (hl : TSzS l) : ∀ (t : List S28) (i : Nat) (o : List ByteArray), l.drop i = t → i ≤ l.length → o.length ≤ i → Ev (fun k => spec_modules.l0 k l o (i : Int)) (modsF o t) := by
 have hlen := hl.len
 intro t
 induction t with
 | nil =>
  intro i o h hi ho
  have hl2 := drop_nil h
  exact Ev.step (fun k => rfl) (Ev.iteF (by omega) (Ev.some_ rfl))
 | cons b t ih =>
  intro i o h hi ho
  obtain ⟨hl2, hb, ht⟩ := drop_cons h
  have h2 := addM_length o b.f0
  have := ih (i + 1) (addM o b.f0) ht (by omega) (by omega)
  have hadd : Ev (fun k => spec_addText.f k o b.f0) (addM o b.f0) := by
   unfold spec_addText.f addM
   refine Ev.bind (hasText_ev o b.f0 (by omega)) ?_
   by_cases hm : memB o b.f0 = true
   ·exact Ev.iteT hm (Ev.some_ (by rw [if_pos hm]))
   ·exact Ev.iteF hm (Ev.iteT (by omega) (Ev.some_ (by rw [if_neg hm])))
  refine Ev.step (fun k => rfl) (Ev.iteT (by omega) (Ev.iteT (by omega) ?_))
  rw [rdT_nat _ _ hl2, hb]
  refine Ev.bind hadd ?_
  rw [wrapN (by omega)]
  exact this
theorem specMods_ev (l : List S28) (hl : TSzS l) : Ev (fun k => spec_modules.f k l) (modsF [] l) :=
 specMods_loop l hl l 0 [] rfl (Nat.zero_le _) (Nat.zero_le _)
theorem implModules_ev (l : List S28) (hl : TSzS l) : Ev (fun k => impl_ModulesOf.f k l) (modsV l) := by
 unfold impl_ModulesOf.f modsV
 refine Ev.bind (validTestsI_ev l hl) ?_
 by_cases h : testsS l = true
 ·rw [if_pos h]
  exact Ev.iteT h (Ev.bind (implMods_ev l hl) (Ev.some_ rfl))
 ·rw [if_neg h]
  exact Ev.iteF h (Ev.some_ rfl)
theorem specModules_ev (l : List S28) (hl : TSzS l) : Ev (fun k => spec_ModulesOf.f k l) (modsV l) := by
 unfold spec_ModulesOf.f modsV
 refine Ev.bind (validTestsS_ev l hl) ?_
 by_cases h : testsS l = true
 ·rw [if_pos h]
  exact Ev.iteT h (Ev.bind (specMods_ev l hl) (Ev.some_ rfl))
 ·rw [if_neg h]
  exact Ev.iteF h (Ev.some_ rfl)
inductive Ex where
 | leaf (w : List UInt8)
 | not (a : Ex)
 | and (a b : Ex)
 | or (a b : Ex)
def BA (l : List UInt8) : ByteArray := ⟨l.toArray⟩
theorem BA_data (l : List UInt8) : (BA l).data.toList = l := rfl
theorem BA_size (l : List UInt8) : (BA l).size = l.length := rfl
theorem BA_of (s : ByteArray) : BA s.data.toList = s := by cases s; rfl
/-- A text that begins so, cut behind it. -/
def cutL : List UInt8 → List UInt8 → Option (List UInt8)
 | [], s => some s
 | _ :: _, [] => none
 | p :: ps, c :: s => if p = c then cutL ps s else none
def nameL (w : List UInt8) : Bool := nameS (BA w)
def wordL (name : List UInt8) (at_ : Bool) : Option (Ex × List UInt8) :=
 if nameL (name.takeWhile lowB) = true then some (.leaf (if at_ = true then 64 :: name.takeWhile lowB else name.takeWhile lowB), name.dropWhile lowB) else none
def rowL (P : List UInt8 → Option (Ex × List UInt8)) (mk : Ex → Ex → Ex) (sep : List UInt8) : Nat → Ex → List UInt8 → Option (Ex × List UInt8)
 | 0, _, _ => none
 | n + 1, e, s => match cutL sep s with
  | none => some (e, s)
  | some r => match P r with
   | none => none
   | some x => rowL P mk sep n (mk e x.1) x.2
def sNot : List UInt8 := [110, 111, 116, 32]
def sAnd : List UInt8 := [32, 97, 110, 100, 32]
def sOr : List UInt8 := [32, 111, 114, 32]
def andL (P : List UInt8 → Option (Ex × List UInt8)) (n : Nat) (s : List UInt8) : Option (Ex × List UInt8) := (P s).bind fun x => rowL P .and sAnd n x.1 x.2
def orL (P : List UInt8 → Option (Ex × List UInt8)) (n : Nat) (s : List UInt8) : Option (Ex × List UInt8) := (andL P n s).bind fun x => rowL (andL P n) .or sOr n x.1 x.2
def facL : Nat → List UInt8 → Option (Ex × List UInt8)
 | 0, _ => none
 | n + 1, s => match cutL sNot s with
  | some r => (facL n r).map fun x => (.not x.1, x.2)
  | none => match cutL [40] s with
   | some r => (orL (facL n) n r).bind fun x => (cutL [41] x.2).map fun t => (x.1, t)
   | none => match cutL [64] s with
    | some r => wordL r true
    | none => wordL s false
/-- A whole text is read as e. -/
def Parses (s : List UInt8) (e : Ex) : Prop := orL (facL (s.length + 1)) (s.length + 1) s = some (e, [])
theorem cutL_length : ∀ {p s r : List UInt8}, cutL p s = some r → s.length = p.length + r.length
 | [], s, r, h => by simp only [cutL, Option.some.injEq] at h; subst h; simp
 | _ :: _, [], r, h => by simp [cutL] at h
 | p :: ps, c :: s, r, h => by
  unfold cutL at h
  split at h
  ·have := cutL_length h
   simp only [List.length_cons]
   omega
  ·cases h
theorem takeW_dropW (s : List UInt8) : (s.takeWhile lowB).length + (s.dropWhile lowB).length = s.length := by
 have := congrArg List.length (List.takeWhile_append_dropWhile (p := lowB) (l := s))
 rwa [List.length_append] at this
theorem nameL_pos {w : List UInt8} (h : nameL w = true) : 1 ≤ w.length ∧ w.length ≤ 6 := by
 unfold nameL nameS nameEnd at h
 rw [Bool.and_eq_true, Bool.and_eq_true, Bool.and_eq_true, decide_eq_true_iff, decide_eq_true_iff] at h
 exact ⟨h.2.1, h.2.2.1⟩
theorem wordL_length {s t : List UInt8} {b : Bool} {e : Ex} (h : wordL s b = some (e, t)) : t.length < s.length := by
 unfold wordL at h
 split at h
 ·next hn =>
  have h1 := nameL_pos hn
  have h2 := takeW_dropW s
  simp only [Option.some.injEq, Prod.mk.injEq] at h
  rw [← h.2]
  omega
 ·cases h
/-- P reads something. -/
def Shrinks (P : List UInt8 → Option (Ex × List UInt8)) : Prop := ∀ s e t, P s = some (e, t) → t.length < s.length
theorem rowL_length {P : List UInt8 → Option (Ex × List UInt8)} (hP : Shrinks P) (mk : Ex → Ex → Ex) (sep : List UInt8) : ∀ (n : Nat) (e : Ex) (s : List UInt8) (e' : Ex) (t : List UInt8), rowL P mk sep n e s = some (e', t) → t.length ≤ s.length
 | 0, e, s, e', t, h => by simp [rowL] at h
 | n + 1, e, s, e', t, h => by
  unfold rowL at h
  cases hc : cutL sep s with
  | none =>
   rw [hc] at h
   simp only at h
   simp only [Option.some.injEq, Prod.mk.injEq] at h
   rw [h.2]
   exact Nat.le_refl _
  | some r =>
   rw [hc] at h
   simp only at h
   cases hp : P r with
   | none => rw [hp] at h; simp only at h; cases h
   | some x =>
    rw [hp] at h
    simp only at h
    have h1 := rowL_length hP mk sep n _ _ _ _ h
    have h2 := hP r x.1 x.2 hp
    have h3 := cutL_length hc
    omega
theorem andL_shrinks {P : List UInt8 → Option (Ex × List UInt8)} (hP : Shrinks P) (n : Nat) : Shrinks (andL P n) := by
 intro s e t h
 obtain ⟨x, hx, h⟩ := Option.bind_eq_some_iff.mp h
 have h1 := hP s x.1 x.2 hx
 have h2 := rowL_length hP _ _ _ _ _ _ _ h
 omega
theorem orL_shrinks {P : List UInt8 → Option (Ex × List UInt8)} (hP : Shrinks P) (n : Nat) : Shrinks (orL P n) := by
 intro s e t h
 obtain ⟨x, hx, h⟩ := Option.bind_eq_some_iff.mp h
 have h1 := andL_shrinks hP n s x.1 x.2 hx
 have h2 := rowL_length (andL_shrinks hP n) _ _ _ _ _ _ _ h
 omega
theorem facL_shrinks : ∀ n, Shrinks (facL n)
 | 0 => fun s e t h => by simp [facL] at h
 | n + 1 => fun s e t h => by
  unfold facL at h
  cases h1 : cutL sNot s with
  | some r =>
   rw [h1] at h
   simp only at h
   obtain ⟨x, hx, h⟩ := Option.map_eq_some_iff.mp h
   have h2 := facL_shrinks n r x.1 x.2 hx
   have h3 := cutL_length h1
   have h4 : x.2 = t := congrArg Prod.snd h
   rw [← h4]
   omega
  | none =>
   rw [h1] at h
   simp only at h
   cases h2 : cutL [40] s with
   | some r =>
    rw [h2] at h
    simp only at h
    obtain ⟨x, hx, h⟩ := Option.bind_eq_some_iff.mp h
    obtain ⟨y, hy, h⟩ := Option.map_eq_some_iff.mp h
    have h3 := orL_shrinks (facL_shrinks n) n r x.1 x.2 hx
    have h4 := cutL_length h2
    have h5 := cutL_length hy
    have h6 : y = t := congrArg Prod.snd h
    rw [← h6]
    omega
   | none =>
    rw [h2] at h
    simp only at h
    cases h3 : cutL [64] s with
    | some r =>
     rw [h3] at h
     simp only at h
     have h4 := wordL_length h
     have h5 := cutL_length h3
     omega
    | none =>
     rw [h3] at h
     simp only at h
     exact wordL_length h
def SameOn (P Q : List UInt8 → Option (Ex × List UInt8)) (n : Nat) : Prop := ∀ s, s.length < n → P s = Q s
theorem rowL_same {P Q : List UInt8 → Option (Ex × List UInt8)} (hP : Shrinks P) {n : Nat} (h : SameOn P Q n) (mk : Ex → Ex → Ex) (sep : List UInt8) (hs : 0 < sep.length) : ∀ (j j' : Nat) (e : Ex) (s : List UInt8), s.length < j → s.length < j' → s.length < n → rowL P mk sep j e s = rowL Q mk sep j' e s
 | 0, _, _, _, h1, _, _ => absurd h1 (by omega)
 | _ + 1, 0, _, _, _, h2, _ => absurd h2 (by omega)
 | j + 1, j' + 1, e, s, h1, h2, h3 => by
  unfold rowL
  cases hc : cutL sep s with
  | none => rfl
  | some r =>
   have h4 := cutL_length hc
   simp only
   rw [← h r (by omega)]
   cases hp : P r with
   | none => rfl
   | some x =>
    have h5 := hP r x.1 x.2 hp
    exact rowL_same hP h mk sep hs j j' _ _ (by omega) (by omega) (by omega)
theorem andL_same {P Q : List UInt8 → Option (Ex × List UInt8)} (hP : Shrinks P) {n : Nat} (h : SameOn P Q n) (j j' : Nat) (hj : n ≤ j) (hj' : n ≤ j') : SameOn (andL P j) (andL Q j') n := by
 intro s hs
 unfold andL
 rw [← h s hs]
 cases hp : P s with
 | none => rfl
 | some x =>
  have h5 := hP s x.1 x.2 hp
  exact rowL_same hP h _ _ (by decide) _ _ _ _ (by omega) (by omega) (by omega)
theorem orL_same {P Q : List UInt8 → Option (Ex × List UInt8)} (hP : Shrinks P) {n : Nat} (h : SameOn P Q n) (j j' : Nat) (hj : n ≤ j) (hj' : n ≤ j') : SameOn (orL P j) (orL Q j') n := by
 intro s hs
 have ha := andL_same hP h j j' hj hj'
 unfold orL
 rw [← ha s hs]
 cases hp : andL P j s with
 | none => rfl
 | some x =>
  have h5 := andL_shrinks hP j s x.1 x.2 hp
  exact rowL_same (andL_shrinks hP j) ha _ _ (by decide) _ _ _ _ (by omega) (by omega) (by omega)
theorem facL_same : ∀ (n m m' : Nat), n ≤ m → n ≤ m' → SameOn (facL m) (facL m') n
 | 0, _, _, _, _ => fun s hs => absurd hs (by omega)
 | n + 1, 0, _, h, _ => absurd h (by omega)
 | n + 1, _ + 1, 0, _, h => absurd h (by omega)
 | n + 1, m + 1, m' + 1, h1, h2 => fun s hs => by
  have ih := facL_same n m m' (by omega) (by omega)
  unfold facL
  cases hc : cutL sNot s with
  | some r =>
   have h4 := cutL_length hc
   simp only [sNot, List.length_cons, List.length_nil] at h4
   simp only
   rw [ih r (by omega)]
  | none =>
   simp only
   cases hc2 : cutL [40] s with
   | some r =>
    have h4 := cutL_length hc2
    simp only [List.length_cons, List.length_nil] at h4
    simp only
    rw [orL_same (facL_shrinks m) ih m m' (by omega) (by omega) r (by omega)]
   | none => rfl
theorem Parses.at_ {s : List UInt8} {e : Ex} (h : Parses s e) (m j : Nat) (hm : s.length < m) (hj : s.length < j) : orL (facL m) j s = some (e, []) := by
 rw [← h]
 exact (orL_same (facL_shrinks _) (facL_same (s.length + 1) _ _ (by omega) (by omega)) _ _ (by omega) (by omega) s (by omega)).symm
theorem rowL_stop (P : List UInt8 → Option (Ex × List UInt8)) (mk : Ex → Ex → Ex) (sep : List UInt8) (n : Nat) (e : Ex) (s : List UInt8) (hn : 1 ≤ n) (h : cutL sep s = none) : rowL P mk sep n e s = some (e, s) := by
 obtain ⟨m, rfl⟩ : ∃ m, n = m + 1 := ⟨n - 1, by omega⟩
 unfold rowL
 rw [h]
theorem andL_one {P : List UInt8 → Option (Ex × List UInt8)} {n : Nat} {s t : List UInt8} {e : Ex} (hn : 1 ≤ n) (h : P s = some (e, t)) (ht : cutL sAnd t = none) : andL P n s = some (e, t) := by
 unfold andL
 rw [h]
 exact rowL_stop _ _ _ _ _ _ hn ht
theorem orL_one {P : List UInt8 → Option (Ex × List UInt8)} {n : Nat} {s t : List UInt8} {e : Ex} (hn : 1 ≤ n) (h : andL P n s = some (e, t)) (ht : cutL sOr t = none) : orL P n s = some (e, t) := by
 unfold orL
 rw [h]
 exact rowL_stop _ _ _ _ _ _ hn ht
theorem parses_fac {s : List UInt8} {e : Ex} (h : facL (s.length + 1) s = some (e, [])) : Parses s e :=
 orL_one (by omega) (andL_one (by omega) h rfl) rfl
def wordOk (w : List UInt8) : Prop := nameL w = true ∨ ∃ v, w = 64 :: v ∧ nameL v = true
def Ex.WF : Ex → Prop
 | .leaf w => wordOk w
 | .not a => a.WF
 | .and a b => a.WF ∧ b.WF
 | .or a b => a.WF ∧ b.WF
def wordE (m : ByteArray) (l : List ByteArray) (w : List UInt8) : Bool := if w.head? = some 64 then decide (BA w.tail = m) else memB l (BA w)
def Ex.ev (m : ByteArray) (l : List ByteArray) : Ex → Bool
 | .leaf w => wordE m l w
 | .not a => !(a.ev m l)
 | .and a b => a.ev m l && b.ev m l
 | .or a b => a.ev m l || b.ev m l
def Ex.at_ : Ex → List ByteArray → List ByteArray
 | .leaf w, l => addM l (BA w)
 | .not a, l => a.at_ l
 | .and a b, l => b.at_ (a.at_ l)
 | .or a b, l => b.at_ (a.at_ l)
def AllWF (P : List UInt8 → Option (Ex × List UInt8)) : Prop := ∀ s e t, P s = some (e, t) → e.WF
theorem wordL_wf {s t : List UInt8} {b : Bool} {e : Ex} (h : wordL s b = some (e, t)) : e.WF := by
 unfold wordL at h
 split at h
 ·next hn =>
  simp only [Option.some.injEq, Prod.mk.injEq] at h
  rw [← h.1]
  cases b with
  | true => exact .inr ⟨_, rfl, hn⟩
  | false => exact .inl hn
 ·cases h
theorem rowL_wf {P : List UInt8 → Option (Ex × List UInt8)} (hP : AllWF P) {mk : Ex → Ex → Ex} (hm : ∀ a b, a.WF → b.WF → (mk a b).WF) (sep : List UInt8) : ∀ (n : Nat) (e : Ex) (s : List UInt8) (e' : Ex) (t : List UInt8), e.WF → rowL P mk sep n e s = some (e', t) → e'.WF
 | 0, e, s, e', t, _, h => by simp [rowL] at h
 | n + 1, e, s, e', t, he, h => by
  unfold rowL at h
  cases hc : cutL sep s with
  | none =>
   rw [hc] at h
   simp only [Option.some.injEq, Prod.mk.injEq] at h
   rw [← h.1]
   exact he
  | some r =>
   rw [hc] at h
   simp only at h
   cases hp : P r with
   | none => rw [hp] at h; simp only at h; cases h
   | some x =>
    rw [hp] at h
    simp only at h
    exact rowL_wf hP hm sep n _ _ _ _ (hm _ _ he (hP r x.1 x.2 hp)) h
theorem andL_wf {P : List UInt8 → Option (Ex × List UInt8)} (hP : AllWF P) (n : Nat) : AllWF (andL P n) := by
 intro s e t h
 obtain ⟨x, hx, h⟩ := Option.bind_eq_some_iff.mp h
 exact rowL_wf hP (mk := .and) (fun a b ha hb => ⟨ha, hb⟩) _ _ _ _ _ _ (hP s x.1 x.2 hx) h
theorem orL_wf {P : List UInt8 → Option (Ex × List UInt8)} (hP : AllWF P) (n : Nat) : AllWF (orL P n) := by
 intro s e t h
 obtain ⟨x, hx, h⟩ := Option.bind_eq_some_iff.mp h
 exact rowL_wf (andL_wf hP n) (mk := .or) (fun a b ha hb => ⟨ha, hb⟩) _ _ _ _ _ _ (andL_wf hP n s x.1 x.2 hx) h
theorem facL_wf : ∀ n, AllWF (facL n)
 | 0 => fun s e t h => by simp [facL] at h
 | n + 1 => fun s e t h => by
  unfold facL at h
  cases h1 : cutL sNot s with
  | some r =>
   rw [h1] at h
   simp only at h
   obtain ⟨x, hx, h⟩ := Option.map_eq_some_iff.mp h
   simp only [Prod.mk.injEq] at h
   rw [← h.1]
   exact facL_wf n r x.1 x.2 hx
  | none =>
   rw [h1] at h
   simp only at h
   cases h2 : cutL [40] s with
   | some r =>
    rw [h2] at h
    simp only at h
    obtain ⟨x, hx, h⟩ := Option.bind_eq_some_iff.mp h
    obtain ⟨y, hy, h⟩ := Option.map_eq_some_iff.mp h
    simp only [Prod.mk.injEq] at h
    rw [← h.1]
    exact orL_wf (facL_wf n) n r x.1 x.2 hx
   | none =>
    rw [h2] at h
    simp only at h
    cases h3 : cutL [64] s with
    | some r =>
     rw [h3] at h
     simp only at h
     exact wordL_wf h
    | none =>
     rw [h3] at h
     simp only at h
     exact wordL_wf h
theorem Parses.wf {s : List UInt8} {e : Ex} (h : Parses s e) : e.WF := orL_wf (facL_wf _) _ _ _ _ h
def Upto {α : Type} (d : Nat) (g : Nat → Option α) (r : α) : Prop := ∀ k, d ≤ k → g k = some r
theorem Upto.step {α : Type} {d : Nat} {g f : Nat → Option α} {r : α} (h : ∀ k, g (k + 1) = f k) (k : Upto d f r) : Upto (d + 1) g r := fun n hn => by
 obtain ⟨m, rfl⟩ : ∃ m, n = m + 1 := ⟨n - 1, by omega⟩
 rw [h]
 exact k m (by omega)
theorem Upto.bind {α β : Type} {d : Nat} {g : Nat → Option α} {f : Nat → α → Option β} {a : α} {r : β} (h : Upto d g a) (k : Upto d (fun n => f n a) r) : Upto d (fun n => (g n).bind (f n)) r := fun n hn => by
 show (g n).bind (f n) = some r
 rw [h n hn]
 exact k n hn
theorem Upto.bind0 {α β : Type} {d : Nat} {g : Option α} {f : Nat → α → Option β} {a : α} {r : β} (h : g = some a) (k : Upto d (fun n => f n a) r) : Upto d (fun n => g.bind (f n)) r := fun n hn => by
 show g.bind (f n) = some r
 rw [h]
 exact k n hn
theorem Upto.iteT {α : Type} {d : Nat} {c : Prop} [Decidable c] {g f : Nat → Option α} {r : α} (h : c) (k : Upto d g r) : Upto d (fun n => if c then g n else f n) r := fun n hn => (if_pos h).trans (k n hn)
theorem Upto.iteF {α : Type} {d : Nat} {c : Prop} [Decidable c] {g f : Nat → Option α} {r : α} (h : ¬ c) (k : Upto d f r) : Upto d (fun n => if c then g n else f n) r := fun n hn => (if_neg h).trans (k n hn)
theorem Upto.some_ {α : Type} {d : Nat} {x r : α} (h : x = r) : Upto d (fun _ => some x) r := fun _ _ => by rw [h]
theorem Upto.le {α : Type} {d d' : Nat} {g : Nat → Option α} {r : α} (k : Upto d g r) (h : d ≤ d') : Upto d' g r := fun n hn => k n (by omega)
theorem Upto.ev {α : Type} {d : Nat} {g : Nat → Option α} {r : α} (k : Upto d g r) : Ev g r := ⟨d, k⟩
theorem nameOk_upto (s : ByteArray) (hs : s.size ≤ 4611686018427387903) : ∀ (t : List UInt8) (i : Nat), s.data.toList.drop i = t → i ≤ s.size →
  Upto (t.length + 1) (fun k => impl_nameOk.l0 k s (s.size : Int) (i : Int)) (t.all lowB && nameEnd s) := by
 intro t
 induction t with
 | nil =>
  intro i h hi
  have hl := drop_nil h
  rw [size_list] at hl
  refine Upto.step (d := 0) (fun k => rfl) (Upto.iteF (by omega) ?_)
  simp only [List.all_nil, Bool.true_and]
  unfold nameEnd
  by_cases h1 : 1 ≤ s.size
  ·refine Upto.iteT (by omega) ?_
   by_cases h2 : s.size ≤ 6
   ·refine Upto.iteT (by omega) ?_
    by_cases h3 : s.toList = ([97, 110, 100] : List UInt8)
    ·exact Upto.iteT h3 (Upto.some_ (by simp [h3]))
    ·refine Upto.iteF h3 ?_
     by_cases h4 : s.toList = ([111, 114] : List UInt8)
     ·exact Upto.iteT h4 (Upto.some_ (by simp [h4]))
     ·exact Upto.iteF h4 (Upto.some_ (by simp [h1, h2, bne_iff_ne.2 h3, bne_iff_ne.2 h4]))
   ·exact Upto.iteF (by omega) (Upto.some_ (by simp [h2]))
  ·exact Upto.iteF (by omega) (Upto.some_ (by simp [h1]))
 | cons b t ih =>
  intro i h hi
  obtain ⟨hl, hb, ht⟩ := drop_cons h
  have hl' := hl
  rw [size_list] at hl'
  refine Upto.step (d := t.length + 1) (fun k => rfl) (Upto.iteT (by omega) (Upto.iteT (by omega) (Upto.iteT (by omega) ?_)))
  rw [bt_nat s i hl, hb]
  by_cases h1 : (b.toNat : Int) < 97
  ·exact Upto.iteT h1 (Upto.some_ (by simp [lowB]; omega))
  ·refine Upto.iteF h1 ?_
   by_cases h2 : (b.toNat : Int) > 122
   ·exact Upto.iteT h2 (Upto.some_ (by simp [lowB]; omega))
   ·refine Upto.iteF h2 ?_
    rw [wrapN (by omega)]
    have := ih (i + 1) ht (by omega)
    have e : lowB b = true := by simp [lowB]; omega
    rw [List.all_cons, e, Bool.true_and]
    exact this
theorem nameOk_at (w : List UInt8) (hw : w.length ≤ 4611686018427387903) : Upto (w.length + 1) (fun k => impl_nameOk.f k (BA w)) (nameL w) :=
 nameOk_upto (BA w) hw w 0 rfl (Nat.zero_le _)
def encE : Ex → S55
 | .leaf w => ⟨BA w, []⟩
 | .not a => ⟨BA [110, 111, 116], [encE a]⟩
 | .and a b => ⟨BA [97, 110, 100], [encE a, encE b]⟩
 | .or a b => ⟨BA [111, 114], [encE a, encE b]⟩
theorem eta_ex (x : S55) : (⟨x.f0, x.f1⟩ : S55) = x := by cases x; rfl
theorem BA_ext {s : ByteArray} {l : List UInt8} (h : s.data.toList = l) : s = BA l := by rw [← h, BA_of]
theorem BA_extract (s : List UInt8) (a b : Nat) : (BA s).extract a b = BA ((s.take b).drop a) := BA_ext (data_extract (BA s) a b)
theorem cutL_take : ∀ (p s : List UInt8), cutL p s = if s.take p.length = p then some (s.drop p.length) else none
 | [], s => by simp [cutL]
 | p :: ps, [] => by simp [cutL]
 | p :: ps, c :: s => by
  unfold cutL
  rw [cutL_take ps s, List.length_cons, List.take_succ_cons, List.drop_succ_cons]
  by_cases e : p = c
  ·subst e
   rw [if_pos rfl]
   by_cases h : s.take ps.length = ps
   ·rw [if_pos h, if_pos (by rw [h])]
   ·rw [if_neg h, if_neg (fun hh => h (List.cons.inj hh).2)]
  ·rw [if_neg e, if_neg (fun hh => e (List.cons.inj hh).1.symm)]
theorem cutPrefix_eq (s p : List UInt8) : strings_CutPrefix.f (BA s) (BA p) = some (match cutL p s with | some r => (BA r, true) | none => (BA s, false)) := by
 have hH : stringslite_HasPrefix.f (BA s) (BA p) = some (decide (s.take p.length = p)) := by
  unfold stringslite_HasPrefix.f
  rw [BA_size, BA_size]
  by_cases h : (s.length : Int) ≥ (p.length : Int)
  ·rw [if_pos h, if_pos (by omega), if_pos (by omega), BA_extract, Int.toNat_natCast, List.drop_zero, Lib.toList_data, Lib.toList_data, BA_data, BA_data]
   congr 1
   rw [Bool.eq_iff_iff, decide_eq_true_iff, beq_iff_eq]
  ·rw [if_neg h, decide_eq_false (fun e => h (by have := congrArg List.length e; rw [List.length_take] at this; omega))]
 unfold strings_CutPrefix.f stringslite_CutPrefix.f
 rw [hH, Option.bind_some, cutL_take]
 by_cases h : s.take p.length = p
 ·have hl : p.length ≤ s.length := by have := congrArg List.length h; rw [List.length_take] at this; omega
  rw [decide_eq_true h, if_pos rfl, BA_size, BA_size, if_pos (by omega), if_pos (by omega), if_pos h, Int.toNat_natCast, BA_extract, List.take_of_length_le (Nat.le_refl _)]
  rfl
 ·rw [decide_eq_false h, if_neg (by decide), if_neg h]
  rfl
/-- T reads what P reads, of texts of fewer than n bytes. -/
def TGood (T : TkF) (n : Nat) (P : List UInt8 → Option (Ex × List UInt8)) : Prop := ∀ s : List UInt8, s.length < n →
 (∀ x, P s = some x → T (BA s) = some ((encE x.1).f0, (encE x.1).f1, BA x.2, true)) ∧ (P s = none → ∃ x y z, T (BA s) = some (x, y, z, false))
theorem row_loop {T : TkF} {n : Nat} {P : List UInt8 → Option (Ex × List UInt8)} (hT : TGood T n P) (hP : Shrinks P) {mk : Ex → Ex → Ex} {w sep : List UInt8} (hs : 0 < sep.length) (hm : ∀ a b, encE (mk a b) = ⟨BA w, [encE a, encE b]⟩) :
  ∀ (j : Nat) (e : Ex) (s : List UInt8), s.length < j → s.length < n →
   (∀ x, rowL P mk sep j e s = some x → Upto (j + 1) (fun k => impl_row.l0 T (BA w) (BA sep) k (encE e).f0 (encE e).f1 (BA s) true) ((encE x.1).f0, (encE x.1).f1, BA x.2, true)) ∧
   (rowL P mk sep j e s = none → ∃ x y z, Upto (j + 1) (fun k => impl_row.l0 T (BA w) (BA sep) k (encE e).f0 (encE e).f1 (BA s) true) (x, y, z, false))
 | 0, _, _, h, _ => absurd h (by omega)
 | j + 1, e, s, h1, h2 => by
  have hcut := cutPrefix_eq s sep
  unfold rowL
  cases hc : cutL sep s with
  | none =>
   rw [hc] at hcut
   simp only
   refine ⟨fun x hx => ?_, fun hx => by cases hx⟩
   obtain rfl := Option.some.inj hx
   exact Upto.step (d := j + 1) (fun k => rfl) (Upto.iteT rfl (Upto.bind0 hcut (Upto.iteF (by simp) (Upto.some_ rfl))))
  | some r =>
   rw [hc] at hcut
   have hl := cutL_length hc
   obtain ⟨g1, g2⟩ := hT r (by omega)
   simp only
   cases hp : P r with
   | none =>
    obtain ⟨x, y, z, hz⟩ := g2 hp
    simp only
    refine ⟨fun x hx => (by cases hx), fun _ => ⟨_, _, z, Upto.step (d := j + 1) (fun k => rfl) (Upto.iteT rfl (Upto.bind0 hcut (Upto.iteT rfl (Upto.bind0 hz (Upto.step (d := j) (fun k => rfl) (Upto.iteF (by simp) (Upto.some_ rfl)))))))⟩⟩
   | some q =>
    have hz := g1 q hp
    have hq := hP r q.1 q.2 hp
    simp only
    obtain ⟨i1, i2⟩ := row_loop hT hP hs hm j (mk e q.1) q.2 (by omega) (by omega)
    rw [hm e q.1] at i1 i2
    refine ⟨fun x hx => ?_, fun hx => ?_⟩
    ·refine Upto.step (d := j + 1) (fun k => rfl) (Upto.iteT rfl (Upto.bind0 hcut (Upto.iteT rfl (Upto.bind0 hz ?_))))
     simp only [eta_ex]
     exact i1 x hx
    ·obtain ⟨x, y, z, hu⟩ := i2 hx
     refine ⟨x, y, z, Upto.step (d := j + 1) (fun k => rfl) (Upto.iteT rfl (Upto.bind0 hcut (Upto.iteT rfl (Upto.bind0 hz ?_))))⟩
     simp only [eta_ex]
     exact hu
theorem row_good {T : TkF} {n : Nat} {P : List UInt8 → Option (Ex × List UInt8)} (hT : TGood T n P) (hP : Shrinks P) {mk : Ex → Ex → Ex} {w sep : List UInt8} (hs : 0 < sep.length) (hm : ∀ a b, encE (mk a b) = ⟨BA w, [encE a, encE b]⟩) (k m : Nat) (hk : m + 1 ≤ k) (hmn : n ≤ m) :
  TGood (impl_row.f T (BA w) (BA sep) k) n (fun s => (P s).bind fun x => rowL P mk sep m x.1 x.2) := by
 intro s hsn
 obtain ⟨g1, g2⟩ := hT s hsn
 cases hp : P s with
 | none =>
  obtain ⟨x, y, z, hz⟩ := g2 hp
  refine ⟨fun x hx => by simp [hp] at hx, fun _ => ⟨x, y, z, ?_⟩⟩
  unfold impl_row.f
  rw [hz]
  obtain ⟨k, rfl⟩ : ∃ q, k = q + 1 := ⟨k - 1, by omega⟩
  show impl_row.l0 T (BA w) (BA sep) (k + 1) x y z false = _
  unfold impl_row.l0
  rw [if_neg (by decide)]
 | some q =>
  have hz := g1 q hp
  have hq := hP s q.1 q.2 hp
  obtain ⟨i1, i2⟩ := row_loop hT hP hs hm m q.1 q.2 (by omega) (by omega)
  refine ⟨fun x hx => ?_, fun hx => ?_⟩
  ·simp only [hp, Option.bind_some] at hx
   unfold impl_row.f
   rw [hz]
   exact i1 x hx k hk
  ·simp only [hp, Option.bind_some] at hx
   obtain ⟨x, y, z, hu⟩ := i2 hx
   refine ⟨x, y, z, ?_⟩
   unfold impl_row.f
   rw [hz]
   exact hu k hk
theorem bt_BA {s : List UInt8} {i : Nat} {c : UInt8} (h : i < s.length) (hb : s[i] = c) : bt (BA s) (i : Int) = (c.toNat : Int) := by subst hb; exact bt_nat (BA s) i h
theorem take_takeW : ∀ (s : List UInt8), s.take (s.takeWhile lowB).length = s.takeWhile lowB
 | [] => rfl
 | c :: s => by
  rw [List.takeWhile_cons]
  cases h : lowB c with
  | true => rw [if_pos rfl, List.length_cons, List.take_succ_cons, take_takeW s]
  | false => rw [if_neg (by decide)]; rfl
theorem drop_takeW : ∀ (s : List UInt8), s.drop (s.takeWhile lowB).length = s.dropWhile lowB
 | [] => rfl
 | c :: s => by
  rw [List.takeWhile_cons, List.dropWhile_cons]
  cases h : lowB c with
  | true => rw [if_pos rfl, if_pos rfl, List.length_cons, List.drop_succ_cons, drop_takeW s]
  | false => rw [if_neg (by decide), if_neg (by decide)]; rfl
theorem letters_loop (x0 : ByteArray) (name : List UInt8) (b : Bool) (hn : name.length ≤ 4611686018427387903) (r : ByteArray × List S55 × ByteArray × Bool) (d : Nat) : ∀ (t : List UInt8) (i : Nat), name.drop i = t → i ≤ name.length →
  Upto d (fun k => impl_takeFactor.j1 k x0 (BA name) b ((i + (t.takeWhile lowB).length : Nat) : Int)) r → Upto (t.length + d + 1) (fun k => impl_takeFactor.l0 k x0 (BA name) b (i : Int)) r := by
 intro t
 induction t with
 | nil =>
  intro i h hi hj
  have hl := drop_nil h
  refine (Upto.step (d := d) (fun k => rfl) (Upto.iteF (by rw [BA_size]; omega) hj)).le (by simp)
 | cons c t ih =>
  intro i h hi hj
  obtain ⟨hl, hb, ht⟩ := drop_cons h
  refine (Upto.step (d := t.length + d + 1) (fun k => rfl) (Upto.iteT (by rw [BA_size]; omega) (Upto.iteT (by omega) ?_))).le (by simp; omega)
  rw [bt_BA hl hb]
  rw [List.takeWhile_cons] at hj
  by_cases h1 : (c.toNat : Int) ≥ 97
  ·refine Upto.iteT h1 ?_
   by_cases h2 : (c.toNat : Int) ≤ 122
   ·have e : lowB c = true := by simp [lowB]; omega
    rw [if_pos e, List.length_cons, show i + ((t.takeWhile lowB).length + 1) = (i + 1) + (t.takeWhile lowB).length by omega] at hj
    refine Upto.iteT h2 ?_
    rw [wrapN (by omega)]
    exact ih (i + 1) ht (by omega) hj
   ·have e : lowB c = false := by simp [lowB]; omega
    rw [if_neg (by rw [e]; decide)] at hj
    exact Upto.iteF h2 (hj.le (by omega))
  ·have e : lowB c = false := by simp [lowB]; omega
   rw [if_neg (by rw [e]; decide)] at hj
   exact Upto.iteF h1 (hj.le (by omega))
theorem word_good (x0 : ByteArray) (name : List UInt8) (b : Bool) (hn : name.length ≤ 4611686018427387903) :
  (∀ x, wordL name b = some x → Upto (2 * name.length + 4) (fun k => impl_takeFactor.l0 k x0 (BA name) b 0) ((encE x.1).f0, (encE x.1).f1, BA x.2, true)) ∧
  (wordL name b = none → Upto (2 * name.length + 4) (fun k => impl_takeFactor.l0 k x0 (BA name) b 0) (⟨#[]⟩, [], x0, false)) := by
 have hw := takeW_dropW name
 have hsz : (BA name).size = name.length := rfl
 have hok := (nameOk_at (name.takeWhile lowB) (by omega)).le (d' := name.length + 1) (by omega)
 have hx : (BA name).extract 0 (((name.takeWhile lowB).length : Nat) : Int).toNat = BA (name.takeWhile lowB) := by rw [BA_extract, Int.toNat_natCast, List.drop_zero, take_takeW]
 have hy : (BA name).extract (((name.takeWhile lowB).length : Nat) : Int).toNat (BA name).size = BA (name.dropWhile lowB) := by rw [BA_extract, Int.toNat_natCast, BA_size, List.take_of_length_le (Nat.le_refl _), drop_takeW]
 have go : ∀ r, Upto (name.length + 2) (fun k => impl_takeFactor.j1 k x0 (BA name) b (((name.takeWhile lowB).length : Nat) : Int)) r → Upto (2 * name.length + 4) (fun k => impl_takeFactor.l0 k x0 (BA name) b 0) r := fun r hr =>
  (letters_loop x0 name b hn r (name.length + 2) name 0 rfl (Nat.zero_le _) (by rw [Nat.zero_add]; exact hr)).le (by omega)
 unfold wordL
 cases hc : nameL (name.takeWhile lowB) with
 | true =>
  rw [hc] at hok
  refine ⟨fun x h => go _ ?_, fun h => by simp at h⟩
  rw [if_pos rfl] at h
  obtain rfl := Option.some.inj h
  refine Upto.step (d := name.length + 1) (fun k => by rw [impl_takeFactor.j1]) (Upto.iteT (by omega) (Upto.iteT (by omega) ?_))
  rw [hx, hy]
  refine Upto.bind hok (Upto.iteT rfl ?_)
  cases b with
  | true => exact Upto.iteT rfl (Upto.iteT (by omega) (Upto.some_ (by rfl)))
  | false => exact Upto.iteF (by simp) (Upto.some_ rfl)
 | false =>
  rw [hc] at hok
  refine ⟨fun x h => by simp at h, fun _ => go _ ?_⟩
  refine Upto.step (d := name.length + 1) (fun k => by rw [impl_takeFactor.j1]) (Upto.iteT (by omega) (Upto.iteT (by omega) ?_))
  rw [hx, hy]
  exact Upto.bind hok (Upto.iteF (by simp) (Upto.some_ rfl))
theorem or_good {T : TkF} {n : Nat} {P : List UInt8 → Option (Ex × List UInt8)} (hT : TGood T n P) (hP : Shrinks P) (k m : Nat) (hk : m + 1 ≤ k) (hmn : n ≤ m) : TGood (orRow T k) n (orL P m) :=
 row_good (row_good hT hP (mk := .and) (w := [97, 110, 100]) (sep := sAnd) (by decide) (fun _ _ => rfl) k m hk hmn) (andL_shrinks hP m) (mk := .or) (w := [111, 114]) (sep := sOr) (by decide) (fun _ _ => rfl) k m hk hmn
theorem fac_good : ∀ (n k : Nat), 2 * n + 8 ≤ k → n ≤ 4611686018427387903 → TGood (impl_takeFactor.f k) n (facL n)
 | 0, _, _, _ => fun s hs => absurd hs (by omega)
 | _ + 1, 0, h, _ => absurd h (by omega)
 | n + 1, k + 1, hk, hn => fun s hs => by
  have ih := fac_good n k (by omega) (by omega)
  have hO := or_good ih (facL_shrinks n) k n (by omega) (Nat.le_refl _)
  have c1 := cutPrefix_eq s sNot
  have c2 := cutPrefix_eq s [40]
  have c3 := cutPrefix_eq s [64]
  unfold impl_takeFactor.f facL
  rw [show (⟨#[110, 111, 116, 32]⟩ : ByteArray) = BA sNot from rfl, show (⟨#[40]⟩ : ByteArray) = BA [40] from rfl, show (⟨#[64]⟩ : ByteArray) = BA [64] from rfl, show (⟨#[41]⟩ : ByteArray) = BA [41] from rfl, c1]
  cases h1 : cutL sNot s with
  | some r =>
   have hl := cutL_length h1
   simp only [sNot, List.length_cons, List.length_nil] at hl
   obtain ⟨g1, g2⟩ := ih r (by omega)
   simp only [Option.bind_some, if_true]
   cases hf : facL n r with
   | none =>
    obtain ⟨x, y, z, hz⟩ := g2 hf
    rw [hz]
    exact ⟨fun x hx => by simp at hx, fun _ => ⟨_, _, _, rfl⟩⟩
   | some q =>
    rw [g1 q hf]
    refine ⟨fun x hx => ?_, fun hx => by simp at hx⟩
    obtain rfl := Option.some.inj hx
    simp only [Option.bind_some, eta_ex]
    rfl
  | none =>
   simp only [Option.bind_some]
   rw [if_neg (by decide), c2]
   cases h2 : cutL [40] s with
   | some r =>
    have hl := cutL_length h2
    simp only [List.length_cons, List.length_nil] at hl
    obtain ⟨g1, g2⟩ := hO r (by omega)
    simp only [Option.bind_some, if_true]
    cases hf : orL (facL n) n r with
    | none =>
     obtain ⟨x, y, z, hz⟩ := g2 hf
     rw [hz]
     simp only [Option.bind_some]
     obtain ⟨zl, rfl⟩ : ∃ zl, z = BA zl := ⟨_, (BA_of z).symm⟩
     rw [cutPrefix_eq zl [41]]
     exact ⟨fun x hx => by simp at hx, fun _ => ⟨_, _, _, rfl⟩⟩
    | some q =>
     rw [g1 q hf]
     simp only [Option.bind_some]
     rw [cutPrefix_eq q.2 [41]]
     cases h4 : cutL [41] q.2 with
     | none => exact ⟨fun x hx => by simp [h4] at hx, fun _ => ⟨_, _, _, rfl⟩⟩
     | some u =>
      refine ⟨fun x hx => ?_, fun hx => by simp [h4] at hx⟩
      simp only [h4, Option.map_some, Option.some.injEq] at hx
      subst hx
      rfl
   | none =>
    simp only [Option.bind_some]
    rw [if_neg (by decide), c3]
    cases h3 : cutL [64] s with
    | some r =>
     have hl := cutL_length h3
     simp only [List.length_cons, List.length_nil] at hl
     obtain ⟨g1, g2⟩ := word_good (BA s) r true (by omega)
     exact ⟨fun x hx => g1 x hx k (by omega), fun hx => ⟨_, _, _, g2 hx k (by omega)⟩⟩
    | none =>
     obtain ⟨g1, g2⟩ := word_good (BA s) s false (by omega)
     exact ⟨fun x hx => g1 x hx k (by omega), fun hx => ⟨_, _, _, g2 hx k (by omega)⟩⟩
theorem readExpr_yes {s : List UInt8} {e : Ex} (h : Parses s e) (hs : s.length ≤ 60) : Ev (fun k => impl_readExpr.f k (BA s)) ((encE e).f0, (encE e).f1, true) := by
 refine ⟨200, fun k hk => ?_⟩
 have hO := or_good (fac_good (s.length + 1) k (by omega) (by omega)) (facL_shrinks _) k (s.length + 1) (by omega) (Nat.le_refl _)
 have h1 := (hO s (by omega)).1 _ h
 show impl_readExpr.f k (BA s) = _
 unfold impl_readExpr.f impl_takeRow.f
 rw [if_neg (by rw [BA_size]; omega), if_pos rfl, h1]
 simp only [Option.bind_some, if_true]
 rw [Lib.toList_data, BA_data]
 rfl
theorem toList_beq (a b : ByteArray) : (a.toList == b.toList) = decide (b = a) := by
 rw [Bool.eq_iff_iff, beq_iff_eq, decide_eq_true_iff, toList_iff]
 exact eq_comm
theorem wordE_at (m : ByteArray) (l : List ByteArray) (w : List UInt8) : wordE m l (64 :: w) = decide (BA w = m) := by
 unfold wordE
 rw [List.head?_cons, if_pos rfl, List.tail_cons]
theorem toList_BA (l : List UInt8) : (BA l).toList = l := by rw [Lib.toList_data]; rfl
theorem name_parts {w : List UInt8} (h : nameL w = true) : 1 ≤ w.length ∧ w ≠ [97, 110, 100] ∧ w ≠ [111, 114] ∧ w ≠ [110, 111, 116] := by
 have h1 := nameL_pos h
 unfold nameL nameS nameEnd at h
 rw [Bool.and_eq_true, Bool.and_eq_true, Bool.and_eq_true, Bool.and_eq_true, Bool.and_eq_true, toList_BA, bne_iff_ne, bne_iff_ne, bne_iff_ne] at h
 exact ⟨h1.1, h.2.2.2.1, h.2.2.2.2.1, h.2.2.2.2.2⟩
theorem word_parts {w : List UInt8} (h : wordOk w) : 1 ≤ w.length ∧ w ≠ [97, 110, 100] ∧ w ≠ [111, 114] ∧ w ≠ [110, 111, 116] := by
 rcases h with h | ⟨v, rfl, h⟩
 ·exact name_parts h
 ·refine ⟨by rw [List.length_cons]; omega, ?_, ?_, ?_⟩ <;> (intro e; have := (List.cons.inj e).1; exact absurd this (by decide))
theorem holds_ev (m : ByteArray) (l : List ByteArray) (hl : l.length ≤ 4611686018427387903) : ∀ e : Ex, e.WF → Ev (fun k => impl_expr_holds.f k (encE e).f0 (encE e).f1 m l) (e.ev m l)
 | .not a, h => by
  refine Ev.step (fun k => by rw [impl_expr_holds.f]) ?_
  refine Ev.iteT (toList_BA _) (Ev.iteT (by show (0 : Int) < ((1 : Nat) : Int); omega) ?_)
  exact Ev.bind (holds_ev m l hl a h) (Ev.some_ rfl)
 | .and a b, h => by
  refine Ev.step (fun k => by rw [impl_expr_holds.f]) ?_
  refine Ev.iteF (by rw [show (encE (.and a b)).f0 = BA [97, 110, 100] from rfl, toList_BA]; decide) (Ev.iteT (toList_BA _) (Ev.iteT (by show (0 : Int) < ((2 : Nat) : Int); omega) ?_))
  refine Ev.bind (holds_ev m l hl a h.1) ?_
  show Ev _ (a.ev m l && b.ev m l)
  cases a.ev m l with
  | true => exact Ev.iteT rfl (Ev.iteT (by show (1 : Int) < ((2 : Nat) : Int); omega) (Ev.bind (holds_ev m l hl b h.2) (Ev.some_ (Bool.true_and _).symm)))
  | false => exact Ev.iteF (by decide) (Ev.some_ rfl)
 | .or a b, h => by
  refine Ev.step (fun k => by rw [impl_expr_holds.f]) ?_
  refine Ev.iteF (by rw [show (encE (.or a b)).f0 = BA [111, 114] from rfl, toList_BA]; decide) (Ev.iteF (by rw [show (encE (.or a b)).f0 = BA [111, 114] from rfl, toList_BA]; decide) (Ev.iteT (toList_BA _) (Ev.iteT (by show (0 : Int) < ((2 : Nat) : Int); omega) ?_)))
  refine Ev.bind (holds_ev m l hl a h.1) ?_
  show Ev _ (a.ev m l || b.ev m l)
  cases a.ev m l with
  | true => exact Ev.iteT rfl (Ev.some_ rfl)
  | false => exact Ev.iteF (by decide) (Ev.iteT (by show (1 : Int) < ((2 : Nat) : Int); omega) (Ev.bind (holds_ev m l hl b h.2) (Ev.some_ (Bool.false_or _).symm)))
 | .leaf w, h => by
  have hw := word_parts h
  have e0 : (encE (.leaf w)).f0 = BA w := rfl
  have hz : (BA w).size = w.length := rfl
  rw [e0]
  refine Ev.step (fun k => by rw [impl_expr_holds.f]) ?_
  refine Ev.iteF (by rw [toList_BA]; exact hw.2.2.2) (Ev.iteF (by rw [toList_BA]; exact hw.2.1) (Ev.iteF (by rw [toList_BA]; exact hw.2.2.1) (Ev.iteT (by omega) ?_)))
  show Ev _ (wordE m l w)
  cases w with
  | nil => exact absurd hw.1 (by simp)
  | cons c v =>
   have hb : bt (BA (c :: v)) 0 = (c.toNat : Int) := bt_BA (s := c :: v) (i := 0) (by simp) rfl
   rw [hb]
   unfold wordE
   rw [List.head?_cons]
   by_cases hc : c = 64
   ·subst hc
    rw [if_pos rfl]
    refine Ev.iteT rfl (Ev.iteT (by omega) (Ev.some_ ?_))
    rw [BA_extract, toList_beq, List.take_of_length_le (Nat.le_of_eq hz.symm), List.drop_one]
    rw [Bool.eq_iff_iff, decide_eq_true_iff, decide_eq_true_iff]
    exact eq_comm
   ·rw [if_neg (fun e => hc (Option.some.inj e))]
    refine Ev.iteF (fun e => hc (UInt8.toNat_inj.1 (by have : ((64 : UInt8).toNat : Int) = 64 := rfl; omega))) (Ev.bind (contains_ev l _ hl) (Ev.some_ rfl))
theorem BA_append (a b : List UInt8) : BA a ++ BA b = BA (a ++ b) := BA_ext (by rw [ByteArray.data_append, Array.toList_append]; rfl)
theorem addM_mem {l : List ByteArray} {x y : ByteArray} : y ∈ addM l x ↔ y ∈ l ∨ y = x := by
 unfold addM
 split
 ·next h => exact ⟨.inl, fun e => e.elim id (fun e => e ▸ memB_iff.1 h)⟩
 ·rw [List.mem_append, List.mem_singleton]
theorem cloneT_eq (l : List ByteArray) (h : l.length < 8796093022208) : slices_Clone_string_string.f l = some l := by
 unfold slices_Clone_string_string.f
 simp [h]
theorem copyTests_loop (l : List S28) (hl : l.length ≤ 1000) (hz : ∀ q ∈ l, q.f2.length < 8796093022208 ∧ q.f3.length < 8796093022208) : ∀ (d i : Nat), i + d = l.length → Ev (fun k => impl_copyTests.l0 k (l.take i) l (l.length : Int) (i : Int)) l := by
 intro d
 induction d with
 | zero =>
  intro i hd
  obtain rfl : i = l.length := by omega
  exact Ev.step (fun k => rfl) (Ev.iteF (by omega) (Ev.some_ (by rw [List.take_length])))
 | succ d ih =>
  intro i hd
  have hi : i < l.length := by omega
  have h1 := hz l[i] (List.getElem_mem hi)
  have := ih (i + 1) (by omega)
  rw [List.take_succ_eq_append_getElem hi] at this
  refine Ev.step (fun k => rfl) (Ev.iteT (by omega) (Ev.iteT (by omega) (Ev.iteT (by omega) ?_)))
  rw [rdT_nat _ _ hi, wrapN (by omega)]
  refine Ev.bind0 (cloneT_eq _ h1.1) (Ev.bind0 (cloneT_eq _ h1.2) (Ev.iteT (by rw [List.length_take]; omega) ?_))
  exact this
theorem copyTests_ev (l : List S28) (hl : l.length ≤ 1000) (hz : ∀ q ∈ l, q.f2.length < 8796093022208 ∧ q.f3.length < 8796093022208) : Ev (fun k => impl_copyTests.f k l) l := copyTests_loop l hl hz l.length 0 (by omega)
/-- Few texts, none of them long. -/
structure SmL (l : List ByteArray) : Prop where
 len : l.length ≤ 1000
 one : ∀ x ∈ l, x.size ≤ 1000
theorem SmL.nil : SmL [] := ⟨by simp, fun x hx => by cases hx⟩
structure SmT (q : S28) : Prop where
 s0 : q.f0.size ≤ 1000
 s1 : q.f1.size ≤ 1000
 r2 : SmL q.f2
 r3 : SmL q.f3
structure SmTS (l : List S28) : Prop where
 len : l.length ≤ 1000
 one : ∀ q ∈ l, SmT q
theorem SmL.sizes {l : List ByteArray} (h : SmL l) : l.length ≤ 1048576 ∧ SizesOk l := ⟨by have := h.len; omega, fun x hx => by have := h.one x hx; omega⟩
theorem SmT.sizes {q : S28} (h : SmT q) : TSz q := ⟨by have := h.s0; omega, by have := h.s1; omega, h.r2.sizes, h.r3.sizes⟩
theorem SmTS.sizes {l : List S28} (h : SmTS l) : TSzS l := ⟨by have := h.len; omega, fun q hq => (h.one q hq).sizes⟩
theorem predT {n : Nat} (h : n < 1000000) : wrap64 (((n + 1 : Nat) : Int) - 1) = (n : Int) := by rw [wrapI (by omega)]; omega
theorem sorted_l1 (l : List ByteArray) (hl : l.length ≤ 1000) (i : Nat) (hi : i < l.length) (x3 : List ByteArray) (hx : x3.length ≤ 1000) {P : List ByteArray → Prop}
  (hc : ∀ o : List ByteArray, o.length ≤ x3.length + 1 → (∀ y ∈ o, y ∈ x3 ∨ y ∈ l) → ∃ m, Ev (fun k => spec_sortedTexts.l0 k l o ((i + 1 : Nat) : Int)) m ∧ P m) : ∀ (d j : Nat), j + d = x3.length →
  ∃ m, Ev (fun k => spec_sortedTexts.l1 k l x3 (i : Int) (j : Int)) m ∧ P m := by
 have hins : ∀ j : Nat, j ≤ x3.length → ∃ m, Ev (fun k => spec_sortedTexts.l0 k l (([] ++ x3.take j) ++ [rdOf ByteArray.empty l (i : Int)] ++ x3.drop j) ((i + 1 : Nat) : Int)) m ∧ P m := by
  intro j hj
  refine hc _ ?_ ?_
  ·simp only [List.length_append, List.length_nil, List.length_take, List.length_drop, List.length_singleton]
   omega
  ·intro y hy
   rw [List.nil_append] at hy
   rcases List.mem_append.1 hy with hy | hy
   ·rcases List.mem_append.1 hy with hy | hy
    ·exact .inl (List.mem_of_mem_take hy)
    ·rw [List.mem_singleton.1 hy, rdOf_nat _ _ _ hi]
     exact .inr (List.getElem_mem hi)
   ·exact .inl (List.mem_of_mem_drop hy)
 have hw : wrap64 ((i : Int) + 1) = ((i + 1 : Nat) : Int) := wrapN (by omega)
 intro d
 induction d with
 | zero =>
  intro j hj
  obtain ⟨m, hm, hP⟩ := hins j (by omega)
  refine ⟨m, Ev.step (fun k => rfl) (Ev.iteF (by omega) (Ev.iteT (by omega) (Ev.bind0 rfl (Ev.iteT (by omega) (Ev.iteT (by omega) (Ev.bind0 rfl ?_)))))), hP⟩
  rw [Int.toNat_natCast, hw]
  exact Ev.iteT (by simp only [List.length_nil, List.length_take]; omega) (Ev.bind0 rfl (Ev.iteT (by omega) (Ev.iteT (by omega) (Ev.bind0 rfl (Ev.iteT (by simp only [List.length_append, List.length_nil, List.length_take, List.length_singleton]; omega) (Ev.bind0 rfl (Ev.bind0 rfl (Ev.iteT (by simp only [List.length_append, List.length_nil, List.length_take, List.length_singleton, List.length_drop]; omega) hm))))))))
 | succ d ih =>
  intro j hj
  by_cases c : Op.bytesLess ((rdOf ByteArray.empty x3 (j : Int)).toList) ((rdOf ByteArray.empty l (i : Int)).toList) = true
  ·obtain ⟨m, hm, hP⟩ := ih (j + 1) (by omega)
   refine ⟨m, Ev.step (fun k => rfl) (Ev.iteT (by omega) (Ev.iteT (by omega) (Ev.iteT (by omega) (Ev.iteT (by omega) (Ev.iteT c ?_))))), hP⟩
   rw [wrapN (by omega)]
   exact hm
  ·by_cases c2 : (rdOf ByteArray.empty x3 (j : Int)).toList = (rdOf ByteArray.empty l (i : Int)).toList
   ·obtain ⟨m, hm, hP⟩ := hc x3 (by omega) (fun y hy => .inl hy)
    refine ⟨m, Ev.step (fun k => rfl) (Ev.iteT (by omega) (Ev.iteT (by omega) (Ev.iteT (by omega) (Ev.iteT (by omega) (Ev.iteF c (Ev.iteF (by omega) (Ev.iteT c2 ?_))))))), hP⟩
    rw [hw]
    exact hm
   ·obtain ⟨m, hm, hP⟩ := hins j (by omega)
    refine ⟨m, Ev.step (fun k => rfl) (Ev.iteT (by omega) (Ev.iteT (by omega) (Ev.iteT (by omega) (Ev.iteT (by omega) (Ev.iteF c (Ev.iteF (by omega) (Ev.iteF c2 (Ev.bind0 rfl (Ev.iteT (by omega) (Ev.bind0 rfl ?_)))))))))), hP⟩
    rw [Int.toNat_natCast, hw]
    exact Ev.iteT (by simp only [List.length_nil, List.length_take]; omega) (Ev.bind0 rfl (Ev.bind0 rfl (Ev.iteT (by simp only [List.length_append, List.length_nil, List.length_take, List.length_singleton]; omega) (Ev.bind0 rfl (Ev.bind0 rfl (Ev.iteT (by simp only [List.length_append, List.length_nil, List.length_take, List.length_singleton, List.length_drop]; omega) hm))))))
theorem sorted_l0 (l : List ByteArray) (hl : l.length ≤ 900) : ∀ (d i : Nat) (x3 : List ByteArray), i + d = l.length → x3.length ≤ i → (∀ y ∈ x3, y ∈ l) →
  ∃ m, Ev (fun k => spec_sortedTexts.l0 k l x3 (i : Int)) m ∧ (m.length ≤ l.length ∧ ∀ y ∈ m, y ∈ l) := by
 intro d
 induction d with
 | zero =>
  intro i x3 hi hx hm
  exact ⟨x3, Ev.step (fun k => rfl) (Ev.iteF (by omega) (Ev.some_ rfl)), by omega, hm⟩
 | succ d ih =>
  intro i x3 hi hx hm
  obtain ⟨m, hm2, hP⟩ := sorted_l1 l (by omega) i (by omega) x3 (by omega) (P := fun m => m.length ≤ l.length ∧ ∀ y ∈ m, y ∈ l) (fun o ho hy => ih (i + 1) o (by omega) (by omega) (fun y h => (hy y h).elim (hm y) id)) x3.length 0 (by omega)
  exact ⟨m, Ev.step (fun k => rfl) (Ev.iteT (by omega) hm2), hP⟩
theorem sortedTexts_ev (l : List ByteArray) (h : SmL l) (hl : l.length ≤ 900) : ∃ m, Ev (fun k => spec_sortedTexts.f k l) m ∧ SmL m := by
 obtain ⟨m, hm, h1, h2⟩ := sorted_l0 l hl l.length 0 [] (by omega) (by simp) (fun y hy => by cases hy)
 exact ⟨m, hm, by omega, fun x hx => h.one x (h2 x hx)⟩
theorem someMarks_loop {b : List Int} (hb : Code_ b) : ∀ (n : Nat) (l : List ByteArray) (p : Int), l.length + n ≤ 100 → (∀ x ∈ l, x.size ≤ 1000) → 0 ≤ p → p + n ≤ 1000000 →
  ∃ m, Ev (fun k => spec_someMarks.l0 k l (n : Int) b p) (m, p + n) ∧ SmL m := by
 intro n
 induction n with
 | zero =>
  intro l p hl hz h0 h1
  obtain ⟨m, hm, hs⟩ := sortedTexts_ev l ⟨by omega, hz⟩ (by omega)
  exact ⟨m, Ev.step (fun k => rfl) (Ev.iteF (by omega) (Ev.bind hm (Ev.some_ (by simp)))), hs⟩
 | succ n ih =>
  intro l p hl hz h0 h1
  obtain ⟨s, hs, he⟩ := of_ev hb p h0 (by omega) [(⟨#[115, 108, 111, 119]⟩ : ByteArray), (⟨#[102, 97, 115, 116]⟩ : ByteArray), (⟨#[110, 101, 116]⟩ : ByteArray), (⟨#[115, 107, 105, 112]⟩ : ByteArray), (⟨#[120, 102, 97, 105, 108]⟩ : ByteArray), (⟨#[115, 108, 111, 119]⟩ : ByteArray)] (by decide) (by decide)
  have hs2 : s.size ≤ 1000 := by
   simp only [List.mem_cons, List.not_mem_nil, or_false] at hs
   rcases hs with rfl | rfl | rfl | rfl | rfl | rfl <;> (show _ ≤ 1000; decide)
  obtain ⟨m, hm, hm2⟩ := ih (l ++ [s]) (p + 1) (by simp; omega) (fun x hx => by
   rcases List.mem_append.1 hx with hx | hx
   ·exact hz x hx
   ·rw [List.mem_singleton.1 hx]; exact hs2) (by omega) (by omega)
  refine ⟨m, Ev.step (fun k => rfl) (Ev.iteT (by omega) (Ev.bind he (Ev.iteT (by omega) ?_))), hm2⟩
  rw [predT (by omega), show p + ((n + 1 : Nat) : Int) = p + 1 + n by omega]
  exact hm
theorem someMarks_ev {b : List Int} (hb : Code_ b) (p : Int) (h0 : 0 ≤ p) (h1 : p ≤ 900000) : ∃ m q, Ev (fun k => spec_someMarks.f k b p) (m, q) ∧ SmL m ∧ p ≤ q ∧ q ≤ p + 4 := by
 obtain ⟨y, hy, he⟩ := one_ev hb p h0 (by omega) [1, 0, 2, 0, 3] (by decide) (by decide)
 have hy2 : 0 ≤ y ∧ y ≤ 3 := by
  simp only [List.mem_cons, List.not_mem_nil, or_false] at hy
  omega
 obtain ⟨n, rfl⟩ := Int.eq_ofNat_of_zero_le hy2.1
 obtain ⟨m, hm, hs⟩ := someMarks_loop hb n [] (p + 1) (by simp; omega) (fun x hx => by cases hx) (by omega) (by omega)
 exact ⟨m, _, Ev.bind he hm, hs, by omega, by omega⟩
theorem addText2_ev (l : List ByteArray) (x : ByteArray) (hl : l.length ≤ 1000) : ∃ o, Ev (fun k => spec_addText.f k l x) o ∧ o.length ≤ l.length + 1 ∧ ∀ y ∈ o, y ∈ l ∨ y = x := by
 by_cases h : memB l x = true
 ·exact ⟨l, Ev.bind (hasText_ev l x (by omega)) (Ev.iteT h (Ev.some_ rfl)), by omega, fun y hy => .inl hy⟩
 ·refine ⟨l ++ [x], Ev.bind (hasText_ev l x (by omega)) (Ev.iteF h (Ev.iteT (by omega) (Ev.some_ rfl))), by simp, fun y hy => ?_⟩
  rcases List.mem_append.1 hy with hy | hy
  ·exact .inl hy
  ·exact .inr (List.mem_singleton.1 hy)
theorem someNeeds_loop {b : List Int} (hb : Code_ b) (x1 : List ByteArray) (h1l : 1 ≤ x1.length) (hx : SmL x1) : ∀ (n : Nat) (l : List ByteArray) (p : Int), l.length + n ≤ 100 → (∀ x ∈ l, x.size ≤ 1000) → 0 ≤ p → p + n ≤ 1000000 →
  ∃ m, Ev (fun k => spec_someNeeds.l0 k x1 l (n : Int) b p) (m, p + n) ∧ SmL m := by
 have hxl := hx.len
 intro n
 induction n with
 | zero =>
  intro l p hl hz h0 h1
  exact ⟨l, Ev.step (fun k => rfl) (Ev.iteF (by omega) (Ev.some_ (by simp))), by omega, hz⟩
 | succ n ih =>
  intro l p hl hz h0 h1
  obtain ⟨v, hv, v0, v1⟩ := pick_ev hb p (x1.length : Int) h0 (by omega) (by omega)
  have v2 := v1 (by omega)
  obtain ⟨j, rfl⟩ := Int.eq_ofNat_of_zero_le v0
  have hj : j < x1.length := by omega
  obtain ⟨o, ho, ho1, ho2⟩ := addText2_ev l (rdOf ByteArray.empty x1 (j : Int)) (by omega)
  obtain ⟨m, hm, hm2⟩ := ih o (p + 1) (by omega) (fun x hx2 => by
   rcases ho2 x hx2 with h | rfl
   ·exact hz x h
   ·rw [rdOf_nat _ _ _ hj]; exact hx.one _ (List.getElem_mem hj)) (by omega) (by omega)
  refine ⟨m, Ev.step (fun k => rfl) (Ev.iteT (by omega) (Ev.bind hv (Ev.iteT (by omega) (Ev.iteT (by omega) (Ev.bind ho ?_))))), hm2⟩
  rw [predT (by omega), show p + ((n + 1 : Nat) : Int) = p + 1 + n by omega]
  exact hm
theorem someNeeds_ev {b : List Int} (hb : Code_ b) (p : Int) (h0 : 0 ≤ p) (h1 : p ≤ 900000) (x1 : List ByteArray) (hx : SmL x1) : ∃ m q, Ev (fun k => spec_someNeeds.f k b p x1) (m, q) ∧ SmL m ∧ p ≤ q ∧ q ≤ p + 4 := by
 unfold spec_someNeeds.f
 by_cases c : (x1.length : Int) = 0
 ·exact ⟨[], p, Ev.bind0 rfl (Ev.iteT c (Ev.some_ rfl)), SmL.nil, by omega, by omega⟩
 ·obtain ⟨y, hy, he⟩ := one_ev hb p h0 (by omega) [1, 2, 0, 1, 3] (by decide) (by decide)
  have hy2 : 0 ≤ y ∧ y ≤ 3 := by
   simp only [List.mem_cons, List.not_mem_nil, or_false] at hy
   omega
  obtain ⟨n, rfl⟩ := Int.eq_ofNat_of_zero_le hy2.1
  obtain ⟨m, hm, hs⟩ := someNeeds_loop hb x1 (by omega) hx n [] (p + 1) (by simp; omega) (fun x hx => by cases hx) (by omega) (by omega)
  exact ⟨m, _, Ev.bind0 rfl (Ev.iteF c (Ev.bind he hm)), hs, by omega, by omega⟩
theorem aModT_ev {b : List Int} (hb : Code_ b) (p : Int) (h0 : 0 ≤ p) (h1 : p ≤ 900000) : ∃ s, Ev (fun k => spec_aModule.f k b p) (s, p + 1) ∧ s.size = 1 := by
 obtain ⟨s, hs, he⟩ := of_ev hb p h0 (by omega) [(⟨#[109]⟩ : ByteArray), (⟨#[110]⟩ : ByteArray), (⟨#[109]⟩ : ByteArray), (⟨#[107]⟩ : ByteArray)] (by decide) (by decide)
 refine ⟨s, Ev.bind he (Ev.some_ rfl), ?_⟩
 simp only [List.mem_cons, List.not_mem_nil, or_false] at hs
 rcases hs with rfl | rfl | rfl | rfl <;> rfl
theorem aName_ev {b : List Int} (hb : Code_ b) (p : Int) (h0 : 0 ≤ p) (h1 : p ≤ 900000) : ∃ s, Ev (fun k => spec_reader_of.f k b p ([(⟨#[97]⟩ : ByteArray), (⟨#[98]⟩ : ByteArray), (⟨#[99]⟩ : ByteArray), (⟨#[100]⟩ : ByteArray), (⟨#[101]⟩ : ByteArray)] : List ByteArray)) (s, p + 1) ∧ s.size = 1 := by
 obtain ⟨s, hs, he⟩ := of_ev hb p h0 (by omega) [(⟨#[97]⟩ : ByteArray), (⟨#[98]⟩ : ByteArray), (⟨#[99]⟩ : ByteArray), (⟨#[100]⟩ : ByteArray), (⟨#[101]⟩ : ByteArray)] (by decide) (by decide)
 refine ⟨s, he, ?_⟩
 simp only [List.mem_cons, List.not_mem_nil, or_false] at hs
 rcases hs with rfl | rfl | rfl | rfl | rfl <;> rfl
theorem goodTests_loop {b : List Int} (hb : Code_ b) (x1 : List ByteArray) (hx : SmL x1) : ∀ (n : Nat) (l : List S28) (p : Int), l.length + n ≤ 100 → (∀ q ∈ l, SmT q) → 0 ≤ p → p + 10 * n ≤ 800000 →
  ∃ m q, Ev (fun k => spec_goodTests.l0 k x1 l (n : Int) b p) (m, q) ∧ m.length ≤ 100 ∧ (∀ q ∈ m, SmT q) ∧ 0 ≤ q ∧ q ≤ p + 10 * n := by
 intro n
 induction n with
 | zero =>
  intro l p hl hz h0 h1
  exact ⟨l, p, Ev.step (fun k => rfl) (Ev.iteF (by omega) (Ev.some_ rfl)), by omega, hz, h0, by omega⟩
 | succ n ih =>
  intro l p hl hz h0 h1
  obtain ⟨s, hs, hs2⟩ := aModT_ev hb p h0 (by omega)
  obtain ⟨u, hu, hu2⟩ := aName_ev hb (p + 1) (by omega) (by omega)
  obtain ⟨ma, q1, hma, hma2, e1, e2⟩ := someMarks_ev hb (p + 1 + 1) (by omega) (by omega)
  obtain ⟨ne, q2, hne, hne2, e3, e4⟩ := someNeeds_ev hb q1 (by omega) (by omega) x1 hx
  have hT : SmT (⟨s, u, ma, ne⟩ : S28) := ⟨show s.size ≤ 1000 by omega, show u.size ≤ 1000 by omega, hma2, hne2⟩
  have hid := specIdOf_eq (⟨s, u, ma, ne⟩ : S28) hT.sizes
  obtain ⟨r, hr, _⟩ := findTest_loop l ⟨by omega, fun q hq => (hz q hq).sizes⟩ (idV (⟨s, u, ma, ne⟩ : S28)) l 0 rfl (Nat.zero_le _)
  by_cases c : r < 0
  ·obtain ⟨m, q, hm, g1, g2, g3, g4⟩ := ih (l ++ [(⟨s, u, ma, ne⟩ : S28)]) q2 (by simp; omega) (fun q hq => by
    rcases List.mem_append.1 hq with hq | hq
    ·exact hz q hq
    ·rw [List.mem_singleton.1 hq]; exact hT) (by omega) (by omega)
   refine ⟨m, q, Ev.step (fun k => rfl) (Ev.iteT (by omega) (Ev.bind hs (Ev.bind hu (Ev.bind hma (Ev.bind hne (Ev.bind0 hid (Ev.bind hr (Ev.iteT c (Ev.iteT (by omega) ?_))))))))), g1, g2, g3, by omega⟩
   rw [predT (by omega)]
   exact hm
  ·obtain ⟨m, q, hm, g1, g2, g3, g4⟩ := ih l q2 (by omega) hz (by omega) (by omega)
   refine ⟨m, q, Ev.step (fun k => rfl) (Ev.iteT (by omega) (Ev.bind hs (Ev.bind hu (Ev.bind hma (Ev.bind hne (Ev.bind0 hid (Ev.bind hr (Ev.iteF c ?_)))))))), g1, g2, g3, by omega⟩
   rw [predT (by omega)]
   exact hm
theorem goodTests_ev {b : List Int} (hb : Code_ b) (p : Int) (h0 : 0 ≤ p) (h1 : p ≤ 700000) (x1 : List ByteArray) (hx : SmL x1) :
  ∃ m q, Ev (fun k => spec_goodTests.f k b p x1) (m, q) ∧ m.length ≤ 100 ∧ (∀ q ∈ m, SmT q) ∧ 0 ≤ q ∧ q ≤ p + 101 := by
 obtain ⟨y, hy, he⟩ := one_ev hb p h0 (by omega) [5, 4, 6, 3, 2, 1, 0, 10] (by decide) (by decide)
 have hy2 : 0 ≤ y ∧ y ≤ 10 := by
  simp only [List.mem_cons, List.not_mem_nil, or_false] at hy
  omega
 obtain ⟨n, rfl⟩ := Int.eq_ofNat_of_zero_le hy2.1
 obtain ⟨m, q, hm, g1, g2, g3, g4⟩ := goodTests_loop hb x1 hx n [] (p + 1) (by simp; omega) (fun q hq => by cases hq) (by omega) (by omega)
 exact ⟨m, q, Ev.bind he hm, g1, g2, g3, by omega⟩
theorem small_lit (l : List ByteArray) (h : (decide (l.length ≤ 1000) && l.all fun x => decide (x.size ≤ 1000)) = true) : SmL l := by
 simp only [Bool.and_eq_true, decide_eq_true_eq, List.all_eq_true] at h
 exact ⟨h.1, h.2⟩
theorem someTests_ev {b : List Int} (hb : Code_ b) (p : Int) (h0 : 0 ≤ p) (h1 : p ≤ 600000) : ∃ m q, Ev (fun k => spec_someTests.f k b p) (m, q) ∧ SmTS m ∧ 0 ≤ q ∧ q ≤ p + 200 := by
 obtain ⟨m, q, hm, g1, g2, g3, g4⟩ := goodTests_ev hb p h0 (by omega) [(⟨#[100, 98]⟩ : ByteArray), (⟨#[116, 109, 112]⟩ : ByteArray)] (small_lit _ (by decide))
 have hset : ∀ (n : Nat) (x : S28), SmT x → SmTS (m.set n x) := fun n x hx => ⟨by rw [List.length_set]; omega, fun c hc => by
  rcases List.mem_or_eq_of_mem_set hc with hc | rfl
  ·exact g2 c hc
  ·exact hx⟩
 by_cases c : (m.length : Int) > 0
 ·obtain ⟨j, hj, j0, j1⟩ := pick_ev hb q (m.length : Int) g3 (by omega) (by omega)
  obtain ⟨v, hv, v0, v1⟩ := pick_ev hb (q + 1) 24 (by omega) (by omega) (by omega)
  have j2 := j1 (by omega)
  obtain ⟨n, rfl⟩ := Int.eq_ofNat_of_zero_le j0
  have hn : n < m.length := by omega
  have hz := g2 _ (List.getElem_mem hn)
  have er : rd_T28 m (n : Int) = m[n] := rdT_nat m n hn
  by_cases c0 : v = 0
  ·obtain ⟨s, hs, he⟩ := of_ev hb (q + 1 + 1) (by omega) (by omega) [(⟨#[]⟩ : ByteArray), (⟨#[65]⟩ : ByteArray), (⟨#[97, 110, 100]⟩ : ByteArray), (⟨#[116, 111, 111, 108, 111, 110, 103]⟩ : ByteArray)] (by decide) (by decide)
   have hs2 : s.size ≤ 1000 := by
    simp only [List.mem_cons, List.not_mem_nil, or_false] at hs
    rcases hs with rfl | rfl | rfl | rfl <;> (show _ ≤ 1000; decide)
   exact ⟨_, _, Ev.bind hm (Ev.iteT c (Ev.bind hj (Ev.bind hv (Ev.iteT c0 (Ev.bind he (Ev.iteT (by omega) (Ev.iteT (by omega) (Ev.some_ rfl)))))))), hset _ _ (by rw [er]; exact ⟨hz.s0, hs2, hz.r2, hz.r3⟩), by omega, by omega⟩
  ·by_cases c1 : v = 1
   ·exact ⟨_, _, Ev.bind hm (Ev.iteT c (Ev.bind hj (Ev.bind hv (Ev.iteF c0 (Ev.iteT c1 (Ev.iteT (by omega) (Ev.iteT (by omega) (Ev.some_ rfl)))))))), hset _ _ (by rw [er]; exact ⟨hz.s0, hz.s1, small_lit [(⟨#[115, 108, 111, 119]⟩ : ByteArray), (⟨#[102, 97, 115, 116]⟩ : ByteArray)] (by decide), hz.r3⟩), by omega, by omega⟩
   ·by_cases c2 : v = 2
    ·refine ⟨_, _, Ev.bind hm (Ev.iteT c (Ev.bind hj (Ev.bind hv (Ev.iteF c0 (Ev.iteF c1 (Ev.iteT c2 (Ev.iteT (by omega) (Ev.iteT (by omega) (Ev.iteT (show m.length < 1759218604441 by omega) (Ev.some_ rfl)))))))))), ⟨by simp; omega, fun x hx => ?_⟩, by omega, by omega⟩
     rcases List.mem_append.1 hx with hx | hx
     ·exact g2 x hx
     ·rw [List.mem_singleton.1 hx, er]
      exact hz
    ·by_cases c3 : v = 3
     ·exact ⟨_, _, Ev.bind hm (Ev.iteT c (Ev.bind hj (Ev.bind hv (Ev.iteF c0 (Ev.iteF c1 (Ev.iteF c2 (Ev.iteT c3 (Ev.iteT (by omega) (Ev.iteT (by omega) (Ev.some_ rfl)))))))))), hset _ _ (by rw [er]; exact ⟨hz.s0, hz.s1, hz.r2, small_lit [(⟨#[100, 98]⟩ : ByteArray), (⟨#[100, 98]⟩ : ByteArray)] (by decide)⟩), by omega, by omega⟩
     ·exact ⟨m, _, Ev.bind hm (Ev.iteT c (Ev.bind hj (Ev.bind hv (Ev.iteF c0 (Ev.iteF c1 (Ev.iteF c2 (Ev.iteF c3 (Ev.some_ rfl)))))))), ⟨show m.length ≤ 1000 by omega, g2⟩, by omega, by omega⟩
 ·exact ⟨m, q, Ev.bind hm (Ev.iteF c (Ev.some_ rfl)), ⟨by omega, g2⟩, g3, by omega⟩
end Go.Proofs.Ytdllommmccgleaa.E
