/- Plain laws, without Go, that the law FnFindTest leans on. No condition. -/
import Derived.Test.YtadhfpbkanobnaaGx0
import Derived.Test.YtadhfpbkanobnaaGx1
import Derived.Test.YtadhfpbkanobnaaGx2
import Derived.Test.YtadhfpbkanobnaaGx3
import Derived.Test.YtadhfpbkanobnaaGx4
import Derived.Test.YtadhfpbkanobnaaGx5
import Derived.Test.YtadhfpbkanobnaaGx6
import Derived.Test.YtadhfpbkanobnaaGx7
import Derived.Test.YtadhfpbkanobnaaGx8
import Derived.Test.YtadhfpbkanobnaaGx9
import Derived.Test.YtadhfpbkanobnaaWMore
import Derived.IntWalk
import Derived.Laws.BitsLemmas
import Derived.Lib.Bytealg
import Derived.Lib.Strings
import Derived.Sort.Walk0
set_option linter.unusedSimpArgs false
set_option linter.unusedVariables false
namespace Go.Proofs.Ytadhfpbkanobnaa.G
open Go.RowKit Go.Proofs.YtadhfpbkanobnaaW.PrintWords Go.Proofs.YtadhfpbkanobnaaW.PrintLast Go.Proofs.YtadhfpbkanobnaaW.PrintMore
theorem Ev.iteT {α : Type} {c : Prop} [Decidable c] {g f : Nat → Option α} {r : α} (h : c) (k : Ev g r) : Ev (fun n => if c then g n else f n) r := by
 simpa only [if_pos h] using k
theorem Ev.iteF {α : Type} {c : Prop} [Decidable c] {g f : Nat → Option α} {r : α} (h : ¬ c) (k : Ev f r) : Ev (fun n => if c then g n else f n) r := by
 simpa only [if_neg h] using k
/-- A callee without rounds. -/
theorem Ev.bind0 {α β : Type} {g : Option α} {f : Nat → α → Option β} {a : α} {r : β} (h : g = some a) (k : Ev (fun n => f n a) r) : Ev (fun n => g.bind (f n)) r := by
 subst h
 simpa only [Option.bind_some] using k
theorem Ev.some_ {α : Type} {x r : α} (h : x = r) : Ev (fun _ => some x) r := ⟨0, fun _ _ => by rw [h]⟩
theorem Ev.bool {b r : Bool} (h : b = r) : Ev (fun _ => some b) r := Ev.some_ h
theorem wrapN {i : Nat} (h : i < 4611686018427387904) : wrap64 ((i : Int) + 1) = ((i + 1 : Nat) : Int) := by
 unfold wrap64
 omega
theorem wrapI {x : Int} (h : -9223372036854775808 ≤ x ∧ x ≤ 9223372036854775807) : wrap64 x = x := by
 unfold wrap64
 omega
theorem rdOf_nat {α : Type} (d : α) (l : List α) (i : Nat) (h : i < l.length) : rdOf d l (i : Int) = l[i] := by
 simp [rdOf, List.getD_eq_getElem?_getD, List.getElem?_eq_getElem h]
theorem rd_nat (l : List Int) (i : Nat) (h : i < l.length) : rd l (i : Int) = l[i] := by
 simp [rd, List.getD_eq_getElem?_getD, List.getElem?_eq_getElem h]
theorem getD_nat {α : Type} (d : α) (l : List α) (i : Nat) (h : i < l.length) : l.getD (i : Int).toNat d = l[i] := by
 simp [List.getD_eq_getElem?_getD, List.getElem?_eq_getElem h]
theorem size_list (s : ByteArray) : s.data.toList.length = s.size := by rw [Array.length_toList]; rfl
theorem bt_nat (s : ByteArray) (i : Nat) (h : i < s.data.toList.length) : bt s (i : Int) = ((s.data.toList[i]).toNat : Int) := by
 have h' : i < s.size := by rw [← size_list]; exact h
 unfold bt
 rw [dif_pos (by simpa using h')]
 rfl
/-- A list seen from place i on. -/
theorem drop_cons {α : Type} {l : List α} {i : Nat} {b : α} {t : List α} (h : l.drop i = b :: t) : ∃ hi : i < l.length, l[i] = b ∧ l.drop (i + 1) = t := by
 have hi : i < l.length := by
  rcases Nat.lt_or_ge i l.length with h1 | h1
  ·exact h1
  ·rw [List.drop_of_length_le h1] at h
   cases h
 refine ⟨hi, ?_, ?_⟩
 ·rw [List.drop_eq_getElem_cons hi] at h
  exact (List.cons.inj h).1
 ·rw [List.drop_eq_getElem_cons hi] at h
  exact (List.cons.inj h).2
theorem drop_nil {α : Type} {l : List α} {i : Nat} (h : l.drop i = []) : l.length ≤ i := by
 have := congrArg List.length h
 rw [List.length_drop] at this
 simpa using Nat.sub_eq_zero_iff_le.1 this
theorem toList_inj {a b : ByteArray} (h : a.toList = b.toList) : a = b := by
 rw [Lib.toList_data, Lib.toList_data] at h
 cases a with
 | mk x => cases b with
  | mk y =>
   have : x = y := Array.ext' h
   rw [this]
theorem toList_iff {a b : ByteArray} : a.toList = b.toList ↔ a = b := ⟨toList_inj, fun h => by rw [h]⟩
def lowB (b : UInt8) : Bool := decide (97 ≤ (b.toNat : Int)) && decide ((b.toNat : Int) ≤ 122)
/-- What is asked of a name behind its letters. -/
def nameEnd (s : ByteArray) : Bool := decide (1 ≤ s.size) && (decide (s.size ≤ 6) && (s.toList != ([97, 110, 100] : List UInt8) && (s.toList != ([111, 114] : List UInt8) && s.toList != ([110, 111, 116] : List UInt8))))
def nameS (s : ByteArray) : Bool := s.data.toList.all lowB && nameEnd s
theorem nameOk_loop (s : ByteArray) (hs : s.size ≤ 4611686018427387903) : ∀ (t : List UInt8) (i : Nat), s.data.toList.drop i = t → i ≤ s.size →
  Ev (fun k => impl_nameOk.l0 k s (s.size : Int) (i : Int)) (t.all lowB && nameEnd s) := by
 intro t
 induction t with
 | nil =>
  intro i h hi
  have hl := drop_nil h
  rw [size_list] at hl
  refine Ev.step (fun k => rfl) (Ev.iteF (by omega) ?_)
  simp only [List.all_nil, Bool.true_and]
  unfold nameEnd
  by_cases h1 : 1 ≤ s.size
  ·refine Ev.iteT (by omega) ?_
   by_cases h2 : s.size ≤ 6
   ·refine Ev.iteT (by omega) ?_
    by_cases h3 : s.toList = ([97, 110, 100] : List UInt8)
    ·exact Ev.iteT h3 (Ev.bool (by simp [h3]))
    ·refine Ev.iteF h3 ?_
     by_cases h4 : s.toList = ([111, 114] : List UInt8)
     ·exact Ev.iteT h4 (Ev.bool (by simp [h4]))
     ·exact Ev.iteF h4 (Ev.bool (by simp [h1, h2, bne_iff_ne.2 h3, bne_iff_ne.2 h4]))
   ·exact Ev.iteF (by omega) (Ev.bool (by simp [h2]))
  ·exact Ev.iteF (by omega) (Ev.bool (by simp [h1]))
 | cons b t ih =>
  intro i h hi
  obtain ⟨hl, hb, ht⟩ := drop_cons h
  have hl' := hl
  rw [size_list] at hl'
  refine Ev.step (fun k => rfl) (Ev.iteT (by omega) (Ev.iteT (by omega) (Ev.iteT (by omega) ?_)))
  rw [bt_nat s i hl, hb]
  by_cases h1 : (b.toNat : Int) < 97
  ·exact Ev.iteT h1 (Ev.bool (by simp [lowB]; omega))
  ·refine Ev.iteF h1 ?_
   by_cases h2 : (b.toNat : Int) > 122
   ·exact Ev.iteT h2 (Ev.bool (by simp [lowB]; omega))
   ·refine Ev.iteF h2 ?_
    rw [wrapN (by omega)]
    have := ih (i + 1) ht (by omega)
    have e : lowB b = true := by simp [lowB]; omega
    simpa [List.all_cons, e] using this
theorem nameOk_ev (s : ByteArray) (hs : s.size ≤ 4611686018427387903) : Ev (fun k => impl_nameOk.f k s) (nameS s) :=
 nameOk_loop s hs _ 0 rfl (Nat.zero_le _)
theorem inRange_ev (a b c : Int) : spec_inRange.f a b c = some (decide (b ≤ a ∧ a ≤ c)) := by
 unfold spec_inRange.f
 by_cases h : b ≤ a
 ·rw [if_pos h]
  simp [h]
 ·rw [if_neg h]
  simp [h]
theorem validName_loop (s : ByteArray) (hs : s.size ≤ 4611686018427387903) : ∀ (t : List UInt8) (i : Nat), s.data.toList.drop i = t → i ≤ s.size →
  Ev (fun k => spec_validName.l0 k s (i : Int)) (t.all lowB && nameEnd s) := by
 intro t
 induction t with
 | nil =>
  intro i h hi
  have hl := drop_nil h
  rw [size_list] at hl
  refine Ev.step (fun k => rfl) (Ev.iteF (by omega) (Ev.bind0 (inRange_ev _ _ _) ?_))
  simp only [List.all_nil, Bool.true_and]
  unfold nameEnd
  by_cases h1 : 1 ≤ s.size
  ·by_cases h2 : s.size ≤ 6
   ·refine Ev.iteT (by simp; omega) ?_
    by_cases h3 : s.toList = ([97, 110, 100] : List UInt8)
    ·exact Ev.iteT h3 (Ev.bool (by simp [h3]))
    ·refine Ev.iteF h3 ?_
     by_cases h4 : s.toList = ([111, 114] : List UInt8)
     ·exact Ev.iteT h4 (Ev.bool (by simp [h4]))
     ·exact Ev.iteF h4 (Ev.bool (by simp [h1, h2, bne_iff_ne.2 h3, bne_iff_ne.2 h4]))
   ·exact Ev.iteF (by simp; omega) (Ev.bool (by simp [h2]))
  ·exact Ev.iteF (by simp; omega) (Ev.bool (by simp [h1]))
 | cons b t ih =>
  intro i h hi
  obtain ⟨hl, hb, ht⟩ := drop_cons h
  have hl' := hl
  rw [size_list] at hl'
  refine Ev.step (fun k => rfl) (Ev.iteT (by omega) (Ev.iteT (by omega) ?_))
  rw [bt_nat s i hl, hb]
  by_cases h1 : (b.toNat : Int) < 97
  ·exact Ev.iteT h1 (Ev.bool (by simp [lowB]; omega))
  ·refine Ev.iteF h1 ?_
   by_cases h2 : (b.toNat : Int) > 122
   ·exact Ev.iteT h2 (Ev.bool (by simp [lowB]; omega))
   ·refine Ev.iteF h2 ?_
    rw [wrapN (by omega)]
    have := ih (i + 1) ht (by omega)
    have e : lowB b = true := by simp [lowB]; omega
    simpa [List.all_cons, e] using this
theorem validName_ev (s : ByteArray) (hs : s.size ≤ 4611686018427387903) : Ev (fun k => spec_validName.f k s) (nameS s) :=
 validName_loop s hs _ 0 rfl (Nat.zero_le _)
def memB (l : List ByteArray) (x : ByteArray) : Bool := l.any fun y => decide (y = x)
theorem memB_iff {l : List ByteArray} {x : ByteArray} : memB l x = true ↔ x ∈ l := by
 simp [memB]
theorem memB_eq {l : List ByteArray} {x : ByteArray} {p : Prop} [Decidable p] (h : p ↔ x ∈ l) : decide p = memB l x := by
 rw [Bool.eq_iff_iff, memB_iff]
 simpa using h
theorem index_loop (l : List ByteArray) (x : ByteArray) (hl : l.length ≤ 4611686018427387903) : ∀ (t : List ByteArray) (i : Nat), l.drop i = t → i ≤ l.length →
  ∃ r : Int, Ev (fun k => slices_Index_string_string.l0 k l x (l.length : Int) (i : Int)) r ∧ (0 ≤ r ↔ x ∈ t) := by
 intro t
 induction t with
 | nil =>
  intro i h hi
  have hl2 := drop_nil h
  exact ⟨-1, Ev.step (fun k => rfl) (Ev.iteF (by omega) (Ev.some_ rfl)), by simp⟩
 | cons b t ih =>
  intro i h hi
  obtain ⟨hl2, hb, ht⟩ := drop_cons h
  by_cases h1 : x = b
  ·refine ⟨(i : Int), Ev.step (fun k => rfl) (Ev.iteT (by omega) (Ev.iteT (by omega) (Ev.iteT (by omega) (Ev.iteT ?_ (Ev.some_ rfl))))), by simp [h1]⟩
   rw [rdOf_nat _ _ _ hl2, hb, h1]
  ·obtain ⟨r, hr, hm⟩ := ih (i + 1) ht (by omega)
   refine ⟨r, Ev.step (fun k => rfl) (Ev.iteT (by omega) (Ev.iteT (by omega) (Ev.iteT (by omega) (Ev.iteF ?_ ?_)))), by simp [h1, hm]⟩
   ·rw [rdOf_nat _ _ _ hl2, hb, toList_iff]
    exact h1
   ·rw [wrapN (by omega)]
    exact hr
theorem contains_ev (l : List ByteArray) (x : ByteArray) (hl : l.length ≤ 4611686018427387903) : Ev (fun k => slices_Contains_string_string.f k l x) (memB l x) := by
 obtain ⟨r, hr, hm⟩ := index_loop l x hl l 0 rfl (Nat.zero_le _)
 exact Ev.bind hr (Ev.bool (memB_eq hm))
theorem nodup_take_succ {α : Type} (l : List α) (i : Nat) (h : i < l.length) : (l.take (i + 1)).Nodup ↔ (l.take i).Nodup ∧ l[i] ∉ l.take i := by
 rw [List.take_succ_eq_append_getElem h, List.nodup_append]
 simp only [List.nodup_cons, List.not_mem_nil, not_false_eq_true, List.nodup_nil, and_self, true_and, List.mem_singleton, forall_eq]
 exact ⟨fun ⟨a, b⟩ => ⟨a, fun hm => b _ hm rfl⟩, fun ⟨a, b⟩ => ⟨a, fun x hx e => b (e ▸ hx)⟩⟩
theorem nodup_of_take {α : Type} (l : List α) (i : Nat) (h : ¬ (l.take i).Nodup) : ¬ l.Nodup := fun hn => h (hn.sublist (List.take_sublist _ _))
/-- All in a list are of a size that numbers hold. -/
def SizesOk (l : List ByteArray) : Prop := ∀ x ∈ l, x.size ≤ 4611686018427387903
theorem xor_nat (a b : Nat) (ha : a < 2 ^ 62) (hb : b < 2 ^ 62) : bits .xor .i64 a b = ((a ^^^ b : Nat) : Int) := by
 have hk : IntKind.i64.bits = 64 := rfl
 have ha' : a % 2 ^ 64 = a := Nat.mod_eq_of_lt (by omega)
 have hb' : b % 2 ^ 64 = b := Nat.mod_eq_of_lt (by omega)
 have hx := Nat.xor_lt_two_pow ha hb
 simp only [bits, hk, BitVec.ofInt_natCast, BitVec.toNat_xor, BitVec.toNat_ofNat, ha', hb']
 rw [IntKind.wrap_i64]
 omega
theorem xor_nonneg (a b : Int) (ha : 0 ≤ a) (ha' : a < 4611686018427387904) (hb : 0 ≤ b) (hb' : b < 4611686018427387904) : 0 ≤ bits .xor .i64 a b := by
 obtain ⟨x, rfl⟩ := Int.eq_ofNat_of_zero_le ha
 obtain ⟨y, rfl⟩ := Int.eq_ofNat_of_zero_le hb
 rw [xor_nat x y (by omega) (by omega)]
 omega
/-- A code: what a reader reads. -/
structure Code_ (b : List Int) : Prop where
 len : b.length ≤ 2000
 byte : ∀ x ∈ b, 0 ≤ x ∧ x ≤ 255
theorem Code_.at_ {b : List Int} (h : Code_ b) (i : Int) (h0 : 0 ≤ i) (h1 : i < b.length) : 0 ≤ rd b i ∧ rd b i ≤ 255 := by
 obtain ⟨j, rfl⟩ := Int.eq_ofNat_of_zero_le h0
 rw [rd_nat b j (by omega)]
 exact h.byte _ (List.getElem_mem _)
theorem Code_.nil : Code_ [] := ⟨by simp, by simp⟩
theorem newReader_ev (l : List Int) (h : ∀ x ∈ l, 0 ≤ x ∧ x ≤ 255) : ∃ b, spec_newReader.f l = some (b, 0) ∧ Code_ b := by
 unfold spec_newReader.f
 by_cases h1 : (l.length : Int) > 2000
 ·rw [if_pos h1, if_pos (by omega)]
  exact ⟨_, rfl, ⟨by rw [List.length_take]; omega, fun x hx => h x (List.mem_of_mem_take hx)⟩⟩
 ·rw [if_neg h1]
  exact ⟨_, rfl, ⟨by omega, h⟩⟩
theorem pick_ev {b : List Int} (hb : Code_ b) (p n : Int) (h0 : 0 ≤ p) (h1 : p ≤ 1099511627776) (hn : n ≤ 1099511627776) :
  ∃ v, Ev (fun k => spec_reader_pick.f k b p n) (v, p + 1) ∧ 0 ≤ v ∧ (1 ≤ n → v < n) := by
 have w1 : wrap64 (p + 1) = p + 1 := wrapI (by omega)
 have w0 : wrap64 (p + 1 - 1) = p := by rw [wrapI (by omega)]; omega
 have hl := hb.len
 unfold spec_reader_pick.f
 rw [w1]
 by_cases c1 : n < 1
 ·exact ⟨0, ⟨1, fun k hk => by obtain ⟨m, rfl⟩ : ∃ m, k = m + 1 := ⟨k - 1, by omega⟩; exact (if_pos c1).trans rfl⟩, by omega, by omega⟩
 ·simp only [if_neg c1]
  by_cases c2 : b.length = 0
  ·exact ⟨0, Ev.step (fun k => rfl) (Ev.iteT (by simp [c2]) (Ev.some_ rfl)), by omega, by omega⟩
  ·by_cases c3 : p < (b.length : Int)
   ·have ha := hb.at_ p h0 c3
    have w2 : wrap64 (rd b p) = rd b p := wrapI (by omega)
    refine ⟨Int.tmod (rd b p) n, Ev.step (fun k => rfl) (Ev.iteF (by simp only [beq_iff_eq]; omega) (Ev.iteT (by rw [w0]; exact c3) (Ev.iteT (by rw [w0]; exact h0) (Ev.iteF (by omega) (Ev.some_ ?_))))), Int.tmod_nonneg _ ha.1, fun _ => Int.tmod_lt_of_pos _ (by omega)⟩
    rw [w0, w2]
   ·have hL : (0 : Int) < b.length := by omega
    have t1 : 0 ≤ Int.tmod p b.length := Int.tmod_nonneg _ h0
    have t2 : Int.tmod p b.length < b.length := Int.tmod_lt_of_pos _ hL
    have w3 : wrap64 (p * 7) = p * 7 := wrapI (by omega)
    have w4 : wrap64 (p * 7 + 3) = p * 7 + 3 := wrapI (by omega)
    have t3 : 0 ≤ Int.tmod (p * 7 + 3) b.length := Int.tmod_nonneg _ (by omega)
    have t4 : Int.tmod (p * 7 + 3) b.length < b.length := Int.tmod_lt_of_pos _ hL
    have a1 := hb.at_ _ t1 t2
    have a2 := hb.at_ _ t3 t4
    have d0 : 0 ≤ Int.tdiv p b.length := Int.tdiv_nonneg h0 (by omega)
    have d1 : Int.tdiv p b.length ≤ p := by
     rw [Int.tdiv_eq_ediv_of_nonneg h0]
     exact Int.ediv_le_self _ h0
    generalize hA : rd b (Int.tmod p b.length) = A at a1
    generalize hB : rd b (Int.tmod (p * 7 + 3) b.length) = B at a2
    generalize hQ : Int.tdiv p b.length = Q at d0 d1
    have v1 : wrap64 A = A := wrapI (by omega)
    have v2 : wrap64 (A * 131) = A * 131 := wrapI (by omega)
    have v3 : wrap64 B = B := wrapI (by omega)
    have v4 : wrap64 (B * 1117) = B * 1117 := wrapI (by omega)
    have v5 : wrap64 (A * 131 + B * 1117) = A * 131 + B * 1117 := wrapI (by omega)
    have v6 : wrap64 (p * 29) = p * 29 := wrapI (by omega)
    have v7 : wrap64 (A * 131 + B * 1117 + p * 29) = A * 131 + B * 1117 + p * 29 := wrapI (by omega)
    have v8 : wrap64 Q = Q := wrapI (by omega)
    have v9 : wrap64 (Q * 53) = Q * 53 := wrapI (by omega)
    have v10 : wrap64 (A * 131 + B * 1117 + p * 29 + Q * 53) = A * 131 + B * 1117 + p * 29 + Q * 53 := wrapI (by omega)
    have x0 : 0 ≤ A * 131 + B * 1117 + p * 29 + Q * 53 := by omega
    have x1 : A * 131 + B * 1117 + p * 29 + Q * 53 < 4611686018427387904 := by omega
    generalize hX : A * 131 + B * 1117 + p * 29 + Q * 53 = X at v10 x0 x1
    have e0 : 0 ≤ Int.tdiv X 64 := Int.tdiv_nonneg x0 (by omega)
    have e1 : Int.tdiv X 64 ≤ X := by
     rw [Int.tdiv_eq_ediv_of_nonneg x0]
     exact Int.ediv_le_self _ x0
    have v11 : wrap64 (Int.tdiv X 64) = Int.tdiv X 64 := wrapI (by omega)
    have hx := xor_nonneg X (Int.tdiv X 64) x0 x1 e0 (by omega)
    refine ⟨Int.tmod (bits .xor .i64 X (Int.tdiv X 64)) n, ?_, Int.tmod_nonneg _ hx, fun _ => Int.tmod_lt_of_pos _ (by omega)⟩
    refine Ev.step (fun k => rfl) (Ev.iteF (by simp only [beq_iff_eq]; omega) (Ev.iteF (by rw [w0]; exact c3) (Ev.iteF (by omega) ?_)))
    simp only [w0, w3, w4]
    refine Ev.iteT t1 (Ev.iteT t2 (Ev.iteT t3 (Ev.iteT t4 (Ev.iteF (by omega) (Ev.some_ ?_)))))
    simp only [hA, hB, hQ, v1, v2, v3, v4, v5, v6, v7, v8, v9, hX, v10, v11]
theorem of_ev {b : List Int} (hb : Code_ b) (p : Int) (h0 : 0 ≤ p) (h1 : p ≤ 1099511627776) (l : List ByteArray) (hl : 1 ≤ l.length) (hl' : l.length ≤ 1000) :
  ∃ x, x ∈ l ∧ Ev (fun k => spec_reader_of.f k b p l) (x, p + 1) := by
 obtain ⟨v, hv, v0, v1⟩ := pick_ev hb p (l.length : Int) h0 h1 (by omega)
 have v1 := v1 (by omega)
 obtain ⟨j, rfl⟩ := Int.eq_ofNat_of_zero_le v0
 refine ⟨l[j]'(by omega), List.getElem_mem _, ?_⟩
 unfold spec_reader_of.f
 exact Ev.bind hv (Ev.iteT v0 (Ev.iteT v1 (Ev.some_ (by rw [rdOf_nat _ _ _ (by omega)]))))
theorem one_ev {b : List Int} (hb : Code_ b) (p : Int) (h0 : 0 ≤ p) (h1 : p ≤ 1099511627776) (l : List Int) (hl : 1 ≤ l.length) (hl' : l.length ≤ 1000) :
  ∃ x, x ∈ l ∧ Ev (fun k => spec_reader_one.f k b p l) (x, p + 1) := by
 obtain ⟨v, hv, v0, v1⟩ := pick_ev hb p (l.length : Int) h0 h1 (by omega)
 have v1 := v1 (by omega)
 obtain ⟨j, rfl⟩ := Int.eq_ofNat_of_zero_le v0
 refine ⟨l[j]'(by omega), List.getElem_mem _, ?_⟩
 unfold spec_reader_one.f
 exact Ev.bind hv (Ev.iteT v0 (Ev.iteT v1 (Ev.some_ (by rw [rd_nat _ _ (by omega)]))))
theorem wfByte {x : Int} (h : (Lit.int .u8 x).wf = true) : 0 ≤ x ∧ x ≤ 255 := by
 simp [Lit.wf, IntKind.min, IntKind.max, IntKind.signed, IntKind.bits] at h
 omega
theorem hasText_loop (l : List ByteArray) (x : ByteArray) (hl : l.length ≤ 4611686018427387903) : ∀ (t : List ByteArray) (i : Nat), l.drop i = t → i ≤ l.length →
  Ev (fun k => spec_hasText.l0 k l x (i : Int)) (memB t x) := by
 intro t
 induction t with
 | nil =>
  intro i h hi
  have hl2 := drop_nil h
  exact Ev.step (fun k => rfl) (Ev.iteF (by omega) (Ev.some_ rfl))
 | cons b t ih =>
  intro i h hi
  obtain ⟨hl2, hb, ht⟩ := drop_cons h
  refine Ev.step (fun k => rfl) (Ev.iteT (by omega) (Ev.iteT (by omega) ?_))
  rw [rdOf_nat _ _ _ hl2, hb]
  by_cases h1 : b = x
  ·exact Ev.iteT (by rw [h1]) (Ev.some_ (by simp [memB, h1]))
  ·refine Ev.iteF (by rw [toList_iff]; exact h1) ?_
   rw [wrapN (by omega)]
   have e : memB (b :: t) x = memB t x := by simp [memB, h1]
   rw [e]
   exact ih (i + 1) ht (by omega)
theorem hasText_ev (l : List ByteArray) (x : ByteArray) (hl : l.length ≤ 4611686018427387903) : Ev (fun k => spec_hasText.f k l x) (memB l x) :=
 hasText_loop l x hl l 0 rfl (Nat.zero_le _)
def namesS (l : List ByteArray) (m : Int) : Bool := l.all nameS && (decide l.Nodup && decide ((l.length : Int) ≤ m))
theorem namesOk_loop (l : List ByteArray) (m : Int) (hl : l.length ≤ 4611686018427387903) (hz : SizesOk l) : ∀ (t : List ByteArray) (i : Nat), l.drop i = t → i ≤ l.length → (l.take i).Nodup →
  Ev (fun k => impl_namesOk.l0 k l m l (l.length : Int) (i : Int)) (t.all nameS && (decide l.Nodup && decide ((l.length : Int) ≤ m))) := by
 intro t
 induction t with
 | nil =>
  intro i h hi hn
  have hl2 := drop_nil h
  rw [List.take_of_length_le hl2] at hn
  exact Ev.step (fun k => rfl) (Ev.iteF (by omega) (Ev.some_ (by simp [hn])))
 | cons b t ih =>
  intro i h hi hn
  obtain ⟨hl2, hb, ht⟩ := drop_cons h
  have hs : b.size ≤ 4611686018427387903 := hz b (hb ▸ List.getElem_mem hl2)
  refine Ev.step (fun k => rfl) (Ev.iteT (by omega) (Ev.iteT (by omega) (Ev.iteT (by omega) ?_)))
  rw [rdOf_nat _ _ _ hl2, hb, Int.toNat_natCast]
  refine Ev.bind (nameOk_ev b hs) ?_
  cases hnm : nameS b with
  | false => exact Ev.iteF (by simp) (Ev.bool (by simp [hnm]))
  | true =>
   refine Ev.iteT rfl (Ev.iteT (by omega) (Ev.bind (contains_ev (l.take i) b (by rw [List.length_take]; omega)) ?_))
   by_cases hm : b ∈ l.take i
   ·refine Ev.iteT (memB_iff.2 hm) (Ev.bool ?_)
    have : ¬ l.Nodup := nodup_of_take l (i + 1) (fun h => ((nodup_take_succ l i hl2).1 h).2 (hb ▸ hm))
    simp [this]
   ·refine Ev.iteF (by rw [memB_iff]; exact hm) ?_
    rw [wrapN (by omega)]
    simpa [List.all_cons, hnm] using ih (i + 1) ht (by omega) ((nodup_take_succ l i hl2).2 ⟨hn, hb ▸ hm⟩)
theorem namesOk_ev (l : List ByteArray) (m : Int) (hl : l.length ≤ 4611686018427387903) (hz : SizesOk l) : Ev (fun k => impl_namesOk.f k l m) (namesS l m) :=
 namesOk_loop l m hl hz l 0 rfl (Nat.zero_le _) (by simp)
theorem validNames_loop (l : List ByteArray) (m : Int) (hl : l.length ≤ 4611686018427387903) (hz : SizesOk l) : ∀ (t : List ByteArray) (i : Nat), l.drop i = t → i ≤ l.length → (l.take i).Nodup →
  Ev (fun k => spec_validNames.l0 k l m (i : Int)) (t.all nameS && (decide l.Nodup && decide ((l.length : Int) ≤ m))) := by
 intro t
 induction t with
 | nil =>
  intro i h hi hn
  have hl2 := drop_nil h
  rw [List.take_of_length_le hl2] at hn
  exact Ev.step (fun k => rfl) (Ev.iteF (by omega) (Ev.some_ (by simp [hn])))
 | cons b t ih =>
  intro i h hi hn
  obtain ⟨hl2, hb, ht⟩ := drop_cons h
  have hs : b.size ≤ 4611686018427387903 := hz b (hb ▸ List.getElem_mem hl2)
  refine Ev.step (fun k => rfl) (Ev.iteT (by omega) (Ev.iteT (by omega) ?_))
  rw [rdOf_nat _ _ _ hl2, hb, Int.toNat_natCast]
  refine Ev.bind (validName_ev b hs) ?_
  cases hnm : nameS b with
  | false => exact Ev.iteF (by simp) (Ev.bool (by simp [hnm]))
  | true =>
   refine Ev.iteT rfl (Ev.iteT (by omega) (Ev.bind (hasText_ev (l.take i) b (by rw [List.length_take]; omega)) ?_))
   by_cases hm : b ∈ l.take i
   ·refine Ev.iteT (memB_iff.2 hm) (Ev.bool ?_)
    have : ¬ l.Nodup := nodup_of_take l (i + 1) (fun h => ((nodup_take_succ l i hl2).1 h).2 (hb ▸ hm))
    simp [this]
   ·refine Ev.iteF (by rw [memB_iff]; exact hm) ?_
    rw [wrapN (by omega)]
    simpa [List.all_cons, hnm] using ih (i + 1) ht (by omega) ((nodup_take_succ l i hl2).2 ⟨hn, hb ▸ hm⟩)
theorem validNames_ev (l : List ByteArray) (m : Int) (hl : l.length ≤ 4611686018427387903) (hz : SizesOk l) : Ev (fun k => spec_validNames.f k l m) (namesS l m) :=
 validNames_loop l m hl hz l 0 rfl (Nat.zero_le _) (by simp)
theorem less_flip {a b : ByteArray} (h : a ≠ b) : Op.bytesLess b.toList a.toList = !(Op.bytesLess a.toList b.toList) := by
 rw [Go.Proofs.bytesLess_eq, Go.Proofs.bytesLess_eq]
 have hne : a.toList ≠ b.toList := fun e => h (toList_inj e)
 by_cases h1 : a.toList < b.toList
 ·have h2 : ¬ b.toList < a.toList := List.lt_asymm h1
  simp [h1, h2]
 ·have h2 : b.toList < a.toList := by
   rcases List.le_iff_lt_or_eq.1 (List.not_lt.1 h1) with h2 | h2
   ·exact h2
   ·exact absurd h2.symm hne
  simp [h1, h2]
def pairS (l : List ByteArray) (i : Nat) : Bool := Op.bytesLess (l.getD i ByteArray.empty).toList (l.getD (i + 1) ByteArray.empty).toList
def ascS (l : List ByteArray) : Bool := (List.range (l.length - 1)).all (pairS l)
theorem pairS_at (l : List ByteArray) (i : Nat) (h : i + 1 < l.length) : pairS l i = Op.bytesLess (l[i]).toList (l[i + 1]).toList := by
 unfold pairS
 rw [List.getD_eq_getElem?_getD, List.getD_eq_getElem?_getD, List.getElem?_eq_getElem h, List.getElem?_eq_getElem (by omega)]
 rfl
theorem ascending_loop (l : List ByteArray) (hl : l.length ≤ 4611686018427387903) : ∀ (d i : Nat), i + 1 + d = l.length →
  Ev (fun k => spec_ascending.l0 k l ((i + 1 : Nat) : Int)) ((List.range' i d).all (pairS l)) := by
 intro d
 induction d with
 | zero =>
  intro i hd
  exact Ev.step (fun k => rfl) (Ev.iteF (by omega) (Ev.some_ (by simp)))
 | succ d ih =>
  intro i hd
  have e : wrap64 (((i + 1 : Nat) : Int) - 1) = (i : Int) := by rw [wrapI (by omega)]; omega
  refine Ev.step (fun k => rfl) (Ev.iteT (by omega) (Ev.iteT (by omega) ?_))
  rw [e, rdOf_nat _ _ i (by omega), rdOf_nat _ _ (i + 1) (by omega), wrapN (by omega), List.range'_succ, List.all_cons, pairS_at l i (by omega)]
  refine Ev.iteT (by omega) (Ev.iteT (by omega) ?_)
  cases hp : Op.bytesLess (l[i]).toList (l[i + 1]).toList with
  | true => exact Ev.iteT rfl (by simpa using ih (i + 1) (by omega))
  | false => exact Ev.iteF (by simp) (Ev.bool (by simp))
theorem ascending_ev (l : List ByteArray) (hl : l.length ≤ 4611686018427387903) : Ev (fun k => spec_ascending.f k l) (ascS l) := by
 unfold spec_ascending.f ascS
 by_cases h : l.length = 0
 ·refine Ev.step (fun k => rfl) (Ev.iteF (by omega) (Ev.some_ ?_))
  rw [h]
  rfl
 ·have := ascending_loop l hl (l.length - 1) 0 (by omega)
  rw [List.range_eq_range']
  exact this
theorem less_eq (a b : ByteArray) : cmp_Less_string.f a b = some (Op.bytesLess a.toList b.toList) := by
 unfold cmp_Less_string.f cmp_isNaN_string.f
 simp
theorem nodup_ne (l : List ByteArray) (h : l.Nodup) (i : Nat) (hi : i + 1 < l.length) : l[i] ≠ l[i + 1] := by
 intro e
 have := (List.getElem_inj h (h₀ := by omega) (h₁ := hi)).1 e
 omega
theorem isSorted_loop (l : List ByteArray) (hl : l.length ≤ 4611686018427387903) (hn : l.Nodup) : ∀ (n : Nat), n + 1 ≤ l.length →
  Ev (fun k => slices_IsSorted_string_string.l0 k l (n : Int)) ((List.range n).all (pairS l)) := by
 intro n
 induction n with
 | zero =>
  intro hd
  exact Ev.step (fun k => rfl) (Ev.iteF (by omega) (Ev.some_ (by simp)))
 | succ n ih =>
  intro hd
  have e : wrap64 (((n + 1 : Nat) : Int) - 1) = (n : Int) := by rw [wrapI (by omega)]; omega
  refine Ev.step (fun k => rfl) (Ev.iteT (by omega) (Ev.iteT (by omega) (Ev.iteT (by omega) ?_)))
  rw [e, rdOf_nat _ _ n (by omega), rdOf_nat _ _ (n + 1) (by omega), List.range_succ, List.all_append, show [n].all (pairS l) = pairS l n by simp, pairS_at l n (by omega)]
  refine Ev.iteT (by omega) (Ev.iteT (by omega) (Ev.bind0 (less_eq _ _) ?_))
  rw [less_flip (nodup_ne l hn n (by omega))]
  cases hp : Op.bytesLess (l[n]).toList (l[n + 1]).toList with
  | true => exact Ev.iteF (by simp) (by simpa [hp] using ih (by omega))
  | false => exact Ev.iteT rfl (Ev.bool (by simp [hp]))
theorem isSorted_ev (l : List ByteArray) (hl : l.length ≤ 4611686018427387903) (hn : l.Nodup) : Ev (fun k => slices_IsSorted_string_string.f k l) (ascS l) := by
 unfold slices_IsSorted_string_string.f ascS
 by_cases h : l.length = 0
 ·have e : wrap64 ((l.length : Int) - 1) = -1 := by rw [h, wrapI (by omega)]; rfl
  rw [e, h]
  exact Ev.step (fun k => rfl) (Ev.iteF (by omega) (Ev.some_ rfl))
 ·have e : wrap64 ((l.length : Int) - 1) = ((l.length - 1 : Nat) : Int) := by rw [wrapI (by omega)]; omega
  rw [e]
  exact isSorted_loop l hl hn (l.length - 1) (by omega)
structure TSz (q : S31) : Prop where
 s0 : q.f0.size ≤ 1048576
 s1 : q.f1.size ≤ 1048576
 r2 : q.f2.length ≤ 1048576 ∧ SizesOk q.f2
 r3 : q.f3.length ≤ 1048576 ∧ SizesOk q.f3
def testS (q : S31) : Bool := nameS q.f0 && (nameS q.f1 && (namesS q.f2 3 && (ascS q.f2 && namesS q.f3 4)))
theorem namesS_nodup {l : List ByteArray} {m : Int} (h : namesS l m = true) : l.Nodup := by
 unfold namesS at h
 simp only [Bool.and_eq_true, decide_eq_true_eq] at h
 exact h.2.1
theorem testOk_ev (q : S31) (h : TSz q) : Ev (fun k => impl_testOk.f k q.f0 q.f1 q.f2 q.f3) (testS q) := by
 unfold impl_testOk.f testS
 have h0 := h.s0
 have h1 := h.s1
 have h2 := h.r2.1
 have h3 := h.r3.1
 refine Ev.bind (nameOk_ev q.f0 (by omega)) ?_
 cases c0 : nameS q.f0 with
 | false => exact Ev.iteF (by simp) (Ev.bool (by simp))
 | true =>
  refine Ev.iteT rfl (Ev.bind (nameOk_ev q.f1 (by omega)) ?_)
  cases c1 : nameS q.f1 with
  | false => exact Ev.iteF (by simp) (Ev.bool (by simp))
  | true =>
   refine Ev.iteT rfl (Ev.bind (namesOk_ev q.f2 3 (by omega) h.r2.2) ?_)
   cases c2 : namesS q.f2 3 with
   | false => exact Ev.iteF (by simp) (Ev.bool (by simp))
   | true =>
    refine Ev.iteT rfl (Ev.bind (isSorted_ev q.f2 (by omega) (namesS_nodup c2)) ?_)
    cases c3 : ascS q.f2 with
    | false => exact Ev.iteF (by simp) (Ev.bool (by simp))
    | true => exact Ev.iteT rfl (Ev.bind (namesOk_ev q.f3 4 (by omega) h.r3.2) (Ev.bool (by simp)))
theorem validTest_ev (q : S31) (h : TSz q) : Ev (fun k => spec_validTest.f k q.f0 q.f1 q.f2 q.f3) (testS q) := by
 unfold spec_validTest.f testS
 have h0 := h.s0
 have h1 := h.s1
 have h2 := h.r2.1
 have h3 := h.r3.1
 refine Ev.bind (validName_ev q.f0 (by omega)) ?_
 cases c0 : nameS q.f0 with
 | false => exact Ev.iteF (by simp) (Ev.bool (by simp))
 | true =>
  refine Ev.iteT rfl (Ev.bind (validName_ev q.f1 (by omega)) ?_)
  cases c1 : nameS q.f1 with
  | false => exact Ev.iteF (by simp) (Ev.bool (by simp))
  | true =>
   refine Ev.iteT rfl (Ev.bind (validNames_ev q.f2 3 (by omega) h.r2.2) ?_)
   cases c2 : namesS q.f2 3 with
   | false => exact Ev.iteF (by simp) (Ev.bool (by simp))
   | true =>
    refine Ev.iteT rfl (Ev.bind (ascending_ev q.f2 (by omega)) ?_)
    cases c3 : ascS q.f2 with
    | false => exact Ev.iteF (by simp) (Ev.bool (by simp))
    | true => exact Ev.iteT rfl (Ev.bind (validNames_ev q.f3 4 (by omega) h.r3.2) (Ev.bool (by simp)))
theorem rdT_nat (l : List S31) (i : Nat) (h : i < l.length) : rd_T31 l (i : Int) = l[i] := by
 unfold rd_T31
 exact getD_nat _ _ _ h
def idV (q : S31) : ByteArray := (q.f0 ++ (⟨#[46]⟩ : ByteArray)) ++ q.f1
theorem implIdOf_eq (q : S31) (h : TSz q) : impl_idOf.f q.f0 q.f1 q.f2 q.f3 = some (idV q) := by
 have h0 := h.s0
 have h1 := h.s1
 unfold impl_idOf.f idV
 rw [if_pos (by omega), if_pos (by omega)]
theorem specIdOf_eq (q : S31) (h : TSz q) : spec_idOf.f q.f0 q.f1 q.f2 q.f3 = some (idV q) := by
 have h0 := h.s0
 have h1 := h.s1
 unfold spec_idOf.f idV
 rw [if_pos (by omega), if_pos (by omega)]
structure TSzS (l : List S31) : Prop where
 len : l.length ≤ 1048576
 one : ∀ q ∈ l, TSz q
def testsS (l : List S31) : Bool := l.all testS && (decide (l.map idV).Nodup && decide ((l.length : Int) ≤ 10))
theorem map_take_get (l : List S31) (i : Nat) (h : i < l.length) : (l.map idV)[i]'(by rw [List.length_map]; exact h) = idV l[i] := List.getElem_map ..
theorem validTestsI_loop (l : List S31) (hl : TSzS l) : ∀ (t : List S31) (i : Nat), l.drop i = t → i ≤ l.length → ((l.map idV).take i).Nodup →
  Ev (fun k => impl_ValidTests.l0 k l ((l.map idV).take i) l (l.length : Int) (i : Int)) (t.all testS && (decide (l.map idV).Nodup && decide ((l.length : Int) ≤ 10))) := by
 have hlen := hl.len
 have hml : (l.map idV).length = l.length := List.length_map ..
 intro t
 induction t with
 | nil =>
  intro i h hi hn
  have hl2 := drop_nil h
  rw [List.take_of_length_le (by omega)] at hn
  exact Ev.step (fun k => rfl) (Ev.iteF (by omega) (Ev.some_ (by simp [hn])))
 | cons b t ih =>
  intro i h hi hn
  obtain ⟨hl2, hb, ht⟩ := drop_cons h
  have hs : TSz b := hl.one b (hb ▸ List.getElem_mem hl2)
  have hg : (l.map idV)[i]'(by omega) = idV b := by rw [map_take_get l i hl2, hb]
  refine Ev.step (fun k => rfl) (Ev.iteT (by omega) (Ev.iteT (by omega) (Ev.iteT (by omega) ?_)))
  rw [rdT_nat _ _ hl2, hb]
  refine Ev.bind (testOk_ev b hs) ?_
  cases hnm : testS b with
  | false => exact Ev.iteF (by simp) (Ev.bool (by simp [hnm]))
  | true =>
   refine Ev.iteT rfl (Ev.bind0 (implIdOf_eq b hs) (Ev.bind (contains_ev ((l.map idV).take i) (idV b) (by rw [List.length_take]; omega)) ?_))
   by_cases hm : idV b ∈ (l.map idV).take i
   ·refine Ev.iteT (memB_iff.2 hm) (Ev.bool ?_)
    have : ¬ (l.map idV).Nodup := nodup_of_take _ (i + 1) (fun h => ((nodup_take_succ _ i (by omega)).1 h).2 (by rw [hg]; exact hm))
    simp [this]
   ·refine Ev.iteF (by rw [memB_iff]; exact hm) (Ev.bind0 (implIdOf_eq b hs) (Ev.iteT (by rw [List.length_take]; omega) ?_))
    rw [wrapN (by omega), ← hg, ← List.take_succ_eq_append_getElem (by omega)]
    simpa [List.all_cons, hnm] using ih (i + 1) ht (by omega) ((nodup_take_succ _ i (by omega)).2 ⟨hn, by rw [hg]; exact hm⟩)
theorem validTestsI_ev (l : List S31) (hl : TSzS l) : Ev (fun k => impl_ValidTests.f k l) (testsS l) := by
 have := validTestsI_loop l hl l 0 rfl (Nat.zero_le _) (by simp)
 exact this
theorem findTest_loop (l : List S31) (hl : TSzS l) (x : ByteArray) : ∀ (t : List S31) (i : Nat), l.drop i = t → i ≤ l.length →
  ∃ r : Int, Ev (fun k => spec_findTest.l0 k l x (i : Int)) r ∧ (0 ≤ r ↔ x ∈ t.map idV) := by
 have hlen := hl.len
 intro t
 induction t with
 | nil =>
  intro i h hi
  have hl2 := drop_nil h
  exact ⟨-1, Ev.step (fun k => rfl) (Ev.iteF (by omega) (Ev.some_ rfl)), by simp⟩
 | cons b t ih =>
  intro i h hi
  obtain ⟨hl2, hb, ht⟩ := drop_cons h
  have hs : TSz b := hl.one b (hb ▸ List.getElem_mem hl2)
  by_cases h1 : idV b = x
  ·refine ⟨(i : Int), Ev.step (fun k => rfl) (Ev.iteT (by omega) (Ev.iteT (by omega) ?_)), by simp [h1]⟩
   rw [rdT_nat _ _ hl2, hb]
   exact Ev.bind0 (specIdOf_eq b hs) (Ev.iteT (by rw [h1]) (Ev.some_ rfl))
  ·obtain ⟨r, hr, hm⟩ := ih (i + 1) ht (by omega)
   refine ⟨r, Ev.step (fun k => rfl) (Ev.iteT (by omega) (Ev.iteT (by omega) ?_)), by rw [List.map_cons, List.mem_cons]; exact ⟨fun h => Or.inr (hm.1 h), fun h => h.elim (fun e => absurd e.symm h1) hm.2⟩⟩
   rw [rdT_nat _ _ hl2, hb]
   refine Ev.bind0 (specIdOf_eq b hs) (Ev.iteF (by rw [toList_iff]; exact h1) ?_)
   rw [wrapN (by omega)]
   exact hr
theorem TSzS.take {l : List S31} (h : TSzS l) (n : Nat) : TSzS (l.take n) := ⟨by have := h.len; rw [List.length_take]; omega, fun q hq => h.one q (List.mem_of_mem_take hq)⟩
theorem validTestsS_loop (l : List S31) (hl : TSzS l) : ∀ (t : List S31) (i : Nat), l.drop i = t → i ≤ l.length → ((l.map idV).take i).Nodup →
  Ev (fun k => spec_validTests.l0 k l (i : Int)) (t.all testS && (decide (l.map idV).Nodup && decide ((l.length : Int) ≤ 10))) := by
 have hlen := hl.len
 have hml : (l.map idV).length = l.length := List.length_map ..
 intro t
 induction t with
 | nil =>
  intro i h hi hn
  have hl2 := drop_nil h
  rw [List.take_of_length_le (by omega)] at hn
  exact Ev.step (fun k => rfl) (Ev.iteF (by omega) (Ev.some_ (by simp [hn])))
 | cons b t ih =>
  intro i h hi hn
  obtain ⟨hl2, hb, ht⟩ := drop_cons h
  have hs : TSz b := hl.one b (hb ▸ List.getElem_mem hl2)
  have hg : (l.map idV)[i]'(by omega) = idV b := by rw [map_take_get l i hl2, hb]
  refine Ev.step (fun k => rfl) (Ev.iteT (by omega) (Ev.iteT (by omega) ?_))
  rw [rdT_nat _ _ hl2, hb, Int.toNat_natCast]
  refine Ev.bind (validTest_ev b hs) ?_
  cases hnm : testS b with
  | false => exact Ev.iteF (by simp) (Ev.bool (by simp [hnm]))
  | true =>
   obtain ⟨r, hr, hm⟩ := findTest_loop (l.take i) (hl.take i) (idV b) (l.take i) 0 rfl (Nat.zero_le _)
   rw [List.map_take] at hm
   refine Ev.iteT rfl (Ev.iteT (by omega) (Ev.bind0 (specIdOf_eq b hs) (Ev.bind hr ?_)))
   by_cases hm2 : idV b ∈ (l.map idV).take i
   ·refine Ev.iteT (hm.2 hm2) (Ev.bool ?_)
    have : ¬ (l.map idV).Nodup := nodup_of_take _ (i + 1) (fun h => ((nodup_take_succ _ i (by omega)).1 h).2 (by rw [hg]; exact hm2))
    simp [this]
   ·refine Ev.iteF (fun h => hm2 (hm.1 h)) ?_
    rw [wrapN (by omega)]
    simpa [List.all_cons, hnm] using ih (i + 1) ht (by omega) ((nodup_take_succ _ i (by omega)).2 ⟨hn, by rw [hg]; exact hm2⟩)
theorem validTestsS_ev (l : List S31) (hl : TSzS l) : Ev (fun k => spec_validTests.f k l) (testsS l) := by
 have := validTestsS_loop l hl l 0 rfl (Nat.zero_le _) (by simp)
 exact this
def findV (s : ByteArray) : List S31 → Nat → Int
 | [], _ => -1
 | x :: t, i => if idV x = s then (i : Int) else findV s t (i + 1)
theorem findV_spec (s : ByteArray) : ∀ (l : List S31) (i : Nat), (∃ j, ∃ h : j < l.length, findV s l i = ((i + j : Nat) : Int) ∧ idV l[j] = s) ∨ findV s l i = -1
 | [], i => .inr rfl
 | x :: t, i => by
  unfold findV
  by_cases c : idV x = s
  ·rw [if_pos c]
   exact .inl ⟨0, by simp, by simp, c⟩
  ·rw [if_neg c]
   rcases findV_spec s t (i + 1) with ⟨j, hj, h1, h2⟩ | h1
   ·exact .inl ⟨j + 1, by simpa using hj, by rw [h1]; congr 1; omega, by simpa using h2⟩
   ·exact .inr h1
theorem findV_at : ∀ (l : List S31) (i j : Nat) (h : j < l.length), (l.map idV).Nodup → findV (idV l[j]) l i = ((i + j : Nat) : Int)
 | [], i, j, h, _ => by simp at h
 | x :: t, i, j, h, hn => by
  unfold findV
  rw [List.map_cons, List.nodup_cons] at hn
  cases j with
  | zero => rw [List.getElem_cons_zero, if_pos rfl]; simp
  | succ j =>
   have hj : j < t.length := by simpa using h
   have hne : ¬ idV x = idV (x :: t)[j + 1] := fun e => hn.1 (by
    rw [e, List.getElem_cons_succ]
    exact List.mem_map.2 ⟨_, List.getElem_mem hj, rfl⟩)
   rw [if_neg hne]
   have := findV_at t (i + 1) j hj hn.2
   rw [List.getElem_cons_succ, this]
   congr 1
   omega
theorem findPred_eq (s : ByteArray) : ∀ (l : List S31) (i : Nat), (∀ q ∈ l, TSz q) → impl_findPred.find s l i = some (findV s l i)
 | [], _, _ => rfl
 | x :: t, i, h => by
  have hx := implIdOf_eq x (h x List.mem_cons_self)
  unfold impl_findPred.find impl_findLit.f
  rw [hx, Option.bind_some, Option.bind_some, findPred_eq s t (i + 1) (fun q hq => h q (List.mem_cons_of_mem _ hq)), findV]
  by_cases c : idV x = s
  ·rw [if_pos c, if_pos (by rw [c]; exact beq_self_eq_true _)]
  ·rw [if_neg c, if_neg (by rw [beq_iff_eq, toList_iff]; exact c)]
theorem specFindV_loop (l : List S31) (hl : TSzS l) (x : ByteArray) : ∀ (t : List S31) (i : Nat), l.drop i = t → i ≤ l.length → Ev (fun k => spec_findTest.l0 k l x (i : Int)) (findV x t i) := by
 have hlen := hl.len
 intro t
 induction t with
 | nil =>
  intro i h hi
  have hl2 := drop_nil h
  exact Ev.step (fun k => rfl) (Ev.iteF (by omega) (Ev.some_ rfl))
 | cons b t ih =>
  intro i h hi
  obtain ⟨hl2, hb, ht⟩ := drop_cons h
  have hs : TSz b := hl.one b (hb ▸ List.getElem_mem hl2)
  refine Ev.step (fun k => rfl) (Ev.iteT (by omega) (Ev.iteT (by omega) ?_))
  rw [rdT_nat _ _ hl2, hb, findV]
  refine Ev.bind0 (specIdOf_eq b hs) ?_
  by_cases h1 : idV b = x
  ·rw [if_pos h1]
   exact Ev.iteT (by rw [h1]) (Ev.some_ rfl)
  ·rw [if_neg h1, wrapN (by omega)]
   exact Ev.iteF (by rw [toList_iff]; exact h1) (ih (i + 1) ht (by omega))
def findS (l : List S31) (s : ByteArray) : Int := if testsS l = true then findV s l 0 else -1
theorem implFind_ev (l : List S31) (hl : TSzS l) (s : ByteArray) : Ev (fun k => impl_FindTest.f k l s) (findS l s) := by
 unfold impl_FindTest.f findS
 refine Ev.bind (validTestsI_ev l hl) ?_
 by_cases c : testsS l = true
 ·have e : (if testsS l = true then findV s l 0 else -1) = findV s l 0 := if_pos c
  rw [e]
  exact Ev.iteT c (Ev.bind0 (findPred_eq s l 0 hl.one) (Ev.some_ rfl))
 ·have e : (if testsS l = true then findV s l 0 else -1) = -1 := if_neg c
  rw [e]
  exact Ev.iteF c (Ev.some_ rfl)
theorem specFind_ev (l : List S31) (hl : TSzS l) (s : ByteArray) : Ev (fun k => spec_FindTest.f k l s) (findS l s) := by
 unfold spec_FindTest.f findS
 refine Ev.bind (validTestsS_ev l hl) ?_
 by_cases c : testsS l = true
 ·have e : (if testsS l = true then findV s l 0 else -1) = findV s l 0 := if_pos c
  rw [e]
  exact Ev.iteT c (Ev.bind (specFindV_loop l hl s l 0 rfl (Nat.zero_le _)) (Ev.some_ rfl))
 ·have e : (if testsS l = true then findV s l 0 else -1) = -1 := if_neg c
  rw [e]
  exact Ev.iteF c (Ev.some_ rfl)
theorem testId_ev (q : S31) (h : TSz q) (hv : testS q = true) : Ev (fun k => impl_TestId.f k q.f0 q.f1 q.f2 q.f3) (idV q) := by
 have ht := testOk_ev q h
 rw [hv] at ht
 exact Ev.bind ht (Ev.iteT rfl (Ev.bind0 (implIdOf_eq q h) (Ev.some_ rfl)))
theorem findLaw_loop (l : List S31) (hl : TSzS l) (hv : testsS l = true) (s : ByteArray) : ∀ (d i : Nat), i + d = l.length → Ev (fun k => laws_FnFindTest.l0 k l s (findV s l 0) (i : Int)) true := by
 have hlen := hl.len
 have hv2 := hv
 unfold testsS at hv2
 simp only [Bool.and_eq_true, decide_eq_true_eq, List.all_eq_true] at hv2
 intro d
 induction d with
 | zero =>
  intro i hi
  refine Ev.step (fun k => rfl) (Ev.iteF (by omega) ?_)
  rcases findV_spec s l 0 with ⟨j, hj, h1, h2⟩ | h1
  ·rw [Nat.zero_add] at h1
   rw [h1, rdT_nat _ _ hj]
   exact Ev.iteF (by omega) (Ev.iteT (by omega) (Ev.iteT (by omega) (Ev.bind (testId_ev _ (hl.one _ (List.getElem_mem hj)) (hv2.1 _ (List.getElem_mem hj))) (Ev.some_ (by rw [h2]; exact beq_self_eq_true _)))))
  ·rw [h1]
   exact Ev.iteT (by omega) (Ev.some_ rfl)
 | succ d ih =>
  intro i hi
  have hi2 : i < l.length := by omega
  have hf := implFind_ev l hl (idV l[i])
  rw [findS, if_pos hv, findV_at l 0 i hi2 hv2.2.1, Nat.zero_add] at hf
  refine Ev.step (fun k => rfl) (Ev.iteT (by omega) (Ev.iteT (by omega) ?_))
  rw [rdT_nat _ _ hi2, wrapN (by omega)]
  exact Ev.bind (testId_ev _ (hl.one _ (List.getElem_mem hi2)) (hv2.1 _ (List.getElem_mem hi2))) (Ev.bind hf (Ev.iteT rfl (ih (i + 1) (by omega))))
/-- Few texts, none of them long. -/
structure SmL (l : List ByteArray) : Prop where
 len : l.length ≤ 1000
 one : ∀ x ∈ l, x.size ≤ 1000
theorem SmL.nil : SmL [] := ⟨by simp, fun x hx => by cases hx⟩
structure SmT (q : S31) : Prop where
 s0 : q.f0.size ≤ 1000
 s1 : q.f1.size ≤ 1000
 r2 : SmL q.f2
 r3 : SmL q.f3
structure SmTS (l : List S31) : Prop where
 len : l.length ≤ 1000
 one : ∀ q ∈ l, SmT q
theorem SmL.sizes {l : List ByteArray} (h : SmL l) : l.length ≤ 1048576 ∧ SizesOk l := ⟨by have := h.len; omega, fun x hx => by have := h.one x hx; omega⟩
theorem SmT.sizes {q : S31} (h : SmT q) : TSz q := ⟨by have := h.s0; omega, by have := h.s1; omega, h.r2.sizes, h.r3.sizes⟩
theorem SmTS.sizes {l : List S31} (h : SmTS l) : TSzS l := ⟨by have := h.len; omega, fun q hq => (h.one q hq).sizes⟩
theorem predT {n : Nat} (h : n < 1000000) : wrap64 (((n + 1 : Nat) : Int) - 1) = (n : Int) := by rw [wrapI (by omega)]; omega
theorem sorted_l1 (l : List ByteArray) (hl : l.length ≤ 1000) (i : Nat) (hi : i < l.length) (x3 : List ByteArray) (hx : x3.length ≤ 1000) {P : List ByteArray → Prop}
  (hc : ∀ o : List ByteArray, o.length ≤ x3.length + 1 → (∀ y ∈ o, y ∈ x3 ∨ y ∈ l) → ∃ m, Ev (fun k => spec_sortedTexts.l0 k l o ((i + 1 : Nat) : Int)) m ∧ P m) : ∀ (d j : Nat), j + d = x3.length →
  ∃ m, Ev (fun k => spec_sortedTexts.l1 k l x3 (i : Int) (j : Int)) m ∧ P m := by
 have hins : ∀ j : Nat, j ≤ x3.length → ∃ m, Ev (fun k => spec_sortedTexts.l0 k l (([] ++ x3.take j) ++ [rdOf ByteArray.empty l (i : Int)] ++ x3.drop j) ((i + 1 : Nat) : Int)) m ∧ P m := by
  intro j hj
  refine hc _ ?_ ?_
  ·simp only [List.length_append, List.length_nil, List.length_take, List.length_drop, List.length_singleton]
   omega
  ·intro y hy
   rw [List.nil_append] at hy
   rcases List.mem_append.1 hy with hy | hy
   ·rcases List.mem_append.1 hy with hy | hy
    ·exact .inl (List.mem_of_mem_take hy)
    ·rw [List.mem_singleton.1 hy, rdOf_nat _ _ _ hi]
     exact .inr (List.getElem_mem hi)
   ·exact .inl (List.mem_of_mem_drop hy)
 have hw : wrap64 ((i : Int) + 1) = ((i + 1 : Nat) : Int) := wrapN (by omega)
 intro d
 induction d with
 | zero =>
  intro j hj
  obtain ⟨m, hm, hP⟩ := hins j (by omega)
  refine ⟨m, Ev.step (fun k => rfl) (Ev.iteF (by omega) (Ev.iteT (by omega) (Ev.bind0 rfl (Ev.iteT (by omega) (Ev.iteT (by omega) (Ev.bind0 rfl ?_)))))), hP⟩
  rw [Int.toNat_natCast, hw]
  exact Ev.iteT (by simp only [List.length_nil, List.length_take]; omega) (Ev.bind0 rfl (Ev.iteT (by omega) (Ev.iteT (by omega) (Ev.bind0 rfl (Ev.iteT (by simp only [List.length_append, List.length_nil, List.length_take, List.length_singleton]; omega) (Ev.bind0 rfl (Ev.bind0 rfl (Ev.iteT (by simp only [List.length_append, List.length_nil, List.length_take, List.length_singleton, List.length_drop]; omega) hm))))))))
 | succ d ih =>
  intro j hj
  by_cases c : Op.bytesLess ((rdOf ByteArray.empty x3 (j : Int)).toList) ((rdOf ByteArray.empty l (i : Int)).toList) = true
  ·obtain ⟨m, hm, hP⟩ := ih (j + 1) (by omega)
   refine ⟨m, Ev.step (fun k => rfl) (Ev.iteT (by omega) (Ev.iteT (by omega) (Ev.iteT (by omega) (Ev.iteT (by omega) (Ev.iteT c ?_))))), hP⟩
   rw [wrapN (by omega)]
   exact hm
  ·by_cases c2 : (rdOf ByteArray.empty x3 (j : Int)).toList = (rdOf ByteArray.empty l (i : Int)).toList
   ·obtain ⟨m, hm, hP⟩ := hc x3 (by omega) (fun y hy => .inl hy)
    refine ⟨m, Ev.step (fun k => rfl) (Ev.iteT (by omega) (Ev.iteT (by omega) (Ev.iteT (by omega) (Ev.iteT (by omega) (Ev.iteF c (Ev.iteF (by omega) (Ev.iteT c2 ?_))))))), hP⟩
    rw [hw]
    exact hm
   ·obtain ⟨m, hm, hP⟩ := hins j (by omega)
    refine ⟨m, Ev.step (fun k => rfl) (Ev.iteT (by omega) (Ev.iteT (by omega) (Ev.iteT (by omega) (Ev.iteT (by omega) (Ev.iteF c (Ev.iteF (by omega) (Ev.iteF c2 (Ev.bind0 rfl (Ev.iteT (by omega) (Ev.bind0 rfl ?_)))))))))), hP⟩
    rw [Int.toNat_natCast, hw]
    exact Ev.iteT (by simp only [List.length_nil, List.length_take]; omega) (Ev.bind0 rfl (Ev.bind0 rfl (Ev.iteT (by simp only [List.length_append, List.length_nil, List.length_take, List.length_singleton]; omega) (Ev.bind0 rfl (Ev.bind0 rfl (Ev.iteT (by simp only [List.length_append, List.length_nil, List.length_take, List.length_singleton, List.length_drop]; omega) hm))))))
theorem sorted_l0 (l : List ByteArray) (hl : l.length ≤ 900) : ∀ (d i : Nat) (x3 : List ByteArray), i + d = l.length → x3.length ≤ i → (∀ y ∈ x3, y ∈ l) →
  ∃ m, Ev (fun k => spec_sortedTexts.l0 k l x3 (i : Int)) m ∧ (m.length ≤ l.length ∧ ∀ y ∈ m, y ∈ l) := by
 intro d
 induction d with
 | zero =>
  intro i x3 hi hx hm
  exact ⟨x3, Ev.step (fun k => rfl) (Ev.iteF (by omega) (Ev.some_ rfl)), by omega, hm⟩
 | succ d ih =>
  intro i x3 hi hx hm
  obtain ⟨m, hm2, hP⟩ := sorted_l1 l (by omega) i (by omega) x3 (by omega) (P := fun m => m.length ≤ l.length ∧ ∀ y ∈ m, y ∈ l) (fun o ho hy => ih (i + 1) o (by omega) (by omega) (fun y h => (hy y h).elim (hm y) id)) x3.length 0 (by omega)
  exact ⟨m, Ev.step (fun k => rfl) (Ev.iteT (by omega) hm2), hP⟩
theorem sortedTexts_ev (l : List ByteArray) (h : SmL l) (hl : l.length ≤ 900) : ∃ m, Ev (fun k => spec_sortedTexts.f k l) m ∧ SmL m := by
 obtain ⟨m, hm, h1, h2⟩ := sorted_l0 l hl l.length 0 [] (by omega) (by simp) (fun y hy => by cases hy)
 exact ⟨m, hm, by omega, fun x hx => h.one x (h2 x hx)⟩
theorem someMarks_loop {b : List Int} (hb : Code_ b) : ∀ (n : Nat) (l : List ByteArray) (p : Int), l.length + n ≤ 100 → (∀ x ∈ l, x.size ≤ 1000) → 0 ≤ p → p + n ≤ 1000000 →
  ∃ m, Ev (fun k => spec_someMarks.l0 k l (n : Int) b p) (m, p + n) ∧ SmL m := by
 intro n
 induction n with
 | zero =>
  intro l p hl hz h0 h1
  obtain ⟨m, hm, hs⟩ := sortedTexts_ev l ⟨by omega, hz⟩ (by omega)
  exact ⟨m, Ev.step (fun k => rfl) (Ev.iteF (by omega) (Ev.bind hm (Ev.some_ (by simp)))), hs⟩
 | succ n ih =>
  intro l p hl hz h0 h1
  obtain ⟨s, hs, he⟩ := of_ev hb p h0 (by omega) [(⟨#[115, 108, 111, 119]⟩ : ByteArray), (⟨#[102, 97, 115, 116]⟩ : ByteArray), (⟨#[110, 101, 116]⟩ : ByteArray), (⟨#[115, 107, 105, 112]⟩ : ByteArray), (⟨#[120, 102, 97, 105, 108]⟩ : ByteArray), (⟨#[115, 108, 111, 119]⟩ : ByteArray)] (by decide) (by decide)
  have hs2 : s.size ≤ 1000 := by
   simp only [List.mem_cons, List.not_mem_nil, or_false] at hs
   rcases hs with rfl | rfl | rfl | rfl | rfl | rfl <;> (show _ ≤ 1000; decide)
  obtain ⟨m, hm, hm2⟩ := ih (l ++ [s]) (p + 1) (by simp; omega) (fun x hx => by
   rcases List.mem_append.1 hx with hx | hx
   ·exact hz x hx
   ·rw [List.mem_singleton.1 hx]; exact hs2) (by omega) (by omega)
  refine ⟨m, Ev.step (fun k => rfl) (Ev.iteT (by omega) (Ev.bind he (Ev.iteT (by omega) ?_))), hm2⟩
  rw [predT (by omega), show p + ((n + 1 : Nat) : Int) = p + 1 + n by omega]
  exact hm
theorem someMarks_ev {b : List Int} (hb : Code_ b) (p : Int) (h0 : 0 ≤ p) (h1 : p ≤ 900000) : ∃ m q, Ev (fun k => spec_someMarks.f k b p) (m, q) ∧ SmL m ∧ p ≤ q ∧ q ≤ p + 4 := by
 obtain ⟨y, hy, he⟩ := one_ev hb p h0 (by omega) [1, 0, 2, 0, 3] (by decide) (by decide)
 have hy2 : 0 ≤ y ∧ y ≤ 3 := by
  simp only [List.mem_cons, List.not_mem_nil, or_false] at hy
  omega
 obtain ⟨n, rfl⟩ := Int.eq_ofNat_of_zero_le hy2.1
 obtain ⟨m, hm, hs⟩ := someMarks_loop hb n [] (p + 1) (by simp; omega) (fun x hx => by cases hx) (by omega) (by omega)
 exact ⟨m, _, Ev.bind he hm, hs, by omega, by omega⟩
theorem addText2_ev (l : List ByteArray) (x : ByteArray) (hl : l.length ≤ 1000) : ∃ o, Ev (fun k => spec_addText.f k l x) o ∧ o.length ≤ l.length + 1 ∧ ∀ y ∈ o, y ∈ l ∨ y = x := by
 by_cases h : memB l x = true
 ·exact ⟨l, Ev.bind (hasText_ev l x (by omega)) (Ev.iteT h (Ev.some_ rfl)), by omega, fun y hy => .inl hy⟩
 ·refine ⟨l ++ [x], Ev.bind (hasText_ev l x (by omega)) (Ev.iteF h (Ev.iteT (by omega) (Ev.some_ rfl))), by simp, fun y hy => ?_⟩
  rcases List.mem_append.1 hy with hy | hy
  ·exact .inl hy
  ·exact .inr (List.mem_singleton.1 hy)
theorem someNeeds_loop {b : List Int} (hb : Code_ b) (x1 : List ByteArray) (h1l : 1 ≤ x1.length) (hx : SmL x1) : ∀ (n : Nat) (l : List ByteArray) (p : Int), l.length + n ≤ 100 → (∀ x ∈ l, x.size ≤ 1000) → 0 ≤ p → p + n ≤ 1000000 →
  ∃ m, Ev (fun k => spec_someNeeds.l0 k x1 l (n : Int) b p) (m, p + n) ∧ SmL m := by
 have hxl := hx.len
 intro n
 induction n with
 | zero =>
  intro l p hl hz h0 h1
  exact ⟨l, Ev.step (fun k => rfl) (Ev.iteF (by omega) (Ev.some_ (by simp))), by omega, hz⟩
 | succ n ih =>
  intro l p hl hz h0 h1
  obtain ⟨v, hv, v0, v1⟩ := pick_ev hb p (x1.length : Int) h0 (by omega) (by omega)
  have v2 := v1 (by omega)
  obtain ⟨j, rfl⟩ := Int.eq_ofNat_of_zero_le v0
  have hj : j < x1.length := by omega
  obtain ⟨o, ho, ho1, ho2⟩ := addText2_ev l (rdOf ByteArray.empty x1 (j : Int)) (by omega)
  obtain ⟨m, hm, hm2⟩ := ih o (p + 1) (by omega) (fun x hx2 => by
   rcases ho2 x hx2 with h | rfl
   ·exact hz x h
   ·rw [rdOf_nat _ _ _ hj]; exact hx.one _ (List.getElem_mem hj)) (by omega) (by omega)
  refine ⟨m, Ev.step (fun k => rfl) (Ev.iteT (by omega) (Ev.bind hv (Ev.iteT (by omega) (Ev.iteT (by omega) (Ev.bind ho ?_))))), hm2⟩
  rw [predT (by omega), show p + ((n + 1 : Nat) : Int) = p + 1 + n by omega]
  exact hm
theorem someNeeds_ev {b : List Int} (hb : Code_ b) (p : Int) (h0 : 0 ≤ p) (h1 : p ≤ 900000) (x1 : List ByteArray) (hx : SmL x1) : ∃ m q, Ev (fun k => spec_someNeeds.f k b p x1) (m, q) ∧ SmL m ∧ p ≤ q ∧ q ≤ p + 4 := by
 unfold spec_someNeeds.f
 by_cases c : (x1.length : Int) = 0
 ·exact ⟨[], p, Ev.bind0 rfl (Ev.iteT c (Ev.some_ rfl)), SmL.nil, by omega, by omega⟩
 ·obtain ⟨y, hy, he⟩ := one_ev hb p h0 (by omega) [1, 2, 0, 1, 3] (by decide) (by decide)
  have hy2 : 0 ≤ y ∧ y ≤ 3 := by
   simp only [List.mem_cons, List.not_mem_nil, or_false] at hy
   omega
  obtain ⟨n, rfl⟩ := Int.eq_ofNat_of_zero_le hy2.1
  obtain ⟨m, hm, hs⟩ := someNeeds_loop hb x1 (by omega) hx n [] (p + 1) (by simp; omega) (fun x hx => by cases hx) (by omega) (by omega)
  exact ⟨m, _, Ev.bind0 rfl (Ev.iteF c (Ev.bind he hm)), hs, by omega, by omega⟩
theorem aModT_ev {b : List Int} (hb : Code_ b) (p : Int) (h0 : 0 ≤ p) (h1 : p ≤ 900000) : ∃ s, Ev (fun k => spec_aModule.f k b p) (s, p + 1) ∧ s.size = 1 := by
 obtain ⟨s, hs, he⟩ := of_ev hb p h0 (by omega) [(⟨#[109]⟩ : ByteArray), (⟨#[110]⟩ : ByteArray), (⟨#[109]⟩ : ByteArray), (⟨#[107]⟩ : ByteArray)] (by decide) (by decide)
 refine ⟨s, Ev.bind he (Ev.some_ rfl), ?_⟩
 simp only [List.mem_cons, List.not_mem_nil, or_false] at hs
 rcases hs with rfl | rfl | rfl | rfl <;> rfl
theorem aName_ev {b : List Int} (hb : Code_ b) (p : Int) (h0 : 0 ≤ p) (h1 : p ≤ 900000) : ∃ s, Ev (fun k => spec_reader_of.f k b p ([(⟨#[97]⟩ : ByteArray), (⟨#[98]⟩ : ByteArray), (⟨#[99]⟩ : ByteArray), (⟨#[100]⟩ : ByteArray), (⟨#[101]⟩ : ByteArray)] : List ByteArray)) (s, p + 1) ∧ s.size = 1 := by
 obtain ⟨s, hs, he⟩ := of_ev hb p h0 (by omega) [(⟨#[97]⟩ : ByteArray), (⟨#[98]⟩ : ByteArray), (⟨#[99]⟩ : ByteArray), (⟨#[100]⟩ : ByteArray), (⟨#[101]⟩ : ByteArray)] (by decide) (by decide)
 refine ⟨s, he, ?_⟩
 simp only [List.mem_cons, List.not_mem_nil, or_false] at hs
 rcases hs with rfl | rfl | rfl | rfl | rfl <;> rfl
theorem goodTests_loop {b : List Int} (hb : Code_ b) (x1 : List ByteArray) (hx : SmL x1) : ∀ (n : Nat) (l : List S31) (p : Int), l.length + n ≤ 100 → (∀ q ∈ l, SmT q) → 0 ≤ p → p + 10 * n ≤ 800000 →
  ∃ m q, Ev (fun k => spec_goodTests.l0 k x1 l (n : Int) b p) (m, q) ∧ m.length ≤ 100 ∧ (∀ q ∈ m, SmT q) ∧ 0 ≤ q ∧ q ≤ p + 10 * n := by
 intro n
 induction n with
 | zero =>
  intro l p hl hz h0 h1
  exact ⟨l, p, Ev.step (fun k => rfl) (Ev.iteF (by omega) (Ev.some_ rfl)), by omega, hz, h0, by omega⟩
 | succ n ih =>
  intro l p hl hz h0 h1
  obtain ⟨s, hs, hs2⟩ := aModT_ev hb p h0 (by omega)
  obtain ⟨u, hu, hu2⟩ := aName_ev hb (p + 1) (by omega) (by omega)
  obtain ⟨ma, q1, hma, hma2, e1, e2⟩ := someMarks_ev hb (p + 1 + 1) (by omega) (by omega)
  obtain ⟨ne, q2, hne, hne2, e3, e4⟩ := someNeeds_ev hb q1 (by omega) (by omega) x1 hx
  have hT : SmT (⟨s, u, ma, ne⟩ : S31) := ⟨show s.size ≤ 1000 by omega, show u.size ≤ 1000 by omega, hma2, hne2⟩
  have hid := specIdOf_eq (⟨s, u, ma, ne⟩ : S31) hT.sizes
  obtain ⟨r, hr, _⟩ := findTest_loop l ⟨by omega, fun q hq => (hz q hq).sizes⟩ (idV (⟨s, u, ma, ne⟩ : S31)) l 0 rfl (Nat.zero_le _)
  by_cases c : r < 0
  ·obtain ⟨m, q, hm, g1, g2, g3, g4⟩ := ih (l ++ [(⟨s, u, ma, ne⟩ : S31)]) q2 (by simp; omega) (fun q hq => by
    rcases List.mem_append.1 hq with hq | hq
    ·exact hz q hq
    ·rw [List.mem_singleton.1 hq]; exact hT) (by omega) (by omega)
   refine ⟨m, q, Ev.step (fun k => rfl) (Ev.iteT (by omega) (Ev.bind hs (Ev.bind hu (Ev.bind hma (Ev.bind hne (Ev.bind0 hid (Ev.bind hr (Ev.iteT c (Ev.iteT (by omega) ?_))))))))), g1, g2, g3, by omega⟩
   rw [predT (by omega)]
   exact hm
  ·obtain ⟨m, q, hm, g1, g2, g3, g4⟩ := ih l q2 (by omega) hz (by omega) (by omega)
   refine ⟨m, q, Ev.step (fun k => rfl) (Ev.iteT (by omega) (Ev.bind hs (Ev.bind hu (Ev.bind hma (Ev.bind hne (Ev.bind0 hid (Ev.bind hr (Ev.iteF c ?_)))))))), g1, g2, g3, by omega⟩
   rw [predT (by omega)]
   exact hm
theorem goodTests_ev {b : List Int} (hb : Code_ b) (p : Int) (h0 : 0 ≤ p) (h1 : p ≤ 700000) (x1 : List ByteArray) (hx : SmL x1) :
  ∃ m q, Ev (fun k => spec_goodTests.f k b p x1) (m, q) ∧ m.length ≤ 100 ∧ (∀ q ∈ m, SmT q) ∧ 0 ≤ q ∧ q ≤ p + 101 := by
 obtain ⟨y, hy, he⟩ := one_ev hb p h0 (by omega) [5, 4, 6, 3, 2, 1, 0, 10] (by decide) (by decide)
 have hy2 : 0 ≤ y ∧ y ≤ 10 := by
  simp only [List.mem_cons, List.not_mem_nil, or_false] at hy
  omega
 obtain ⟨n, rfl⟩ := Int.eq_ofNat_of_zero_le hy2.1
 obtain ⟨m, q, hm, g1, g2, g3, g4⟩ := goodTests_loop hb x1 hx n [] (p + 1) (by simp; omega) (fun q hq => by cases hq) (by omega) (by omega)
 exact ⟨m, q, Ev.bind he hm, g1, g2, g3, by omega⟩
theorem small_lit (l : List ByteArray) (h : (decide (l.length ≤ 1000) && l.all fun x => decide (x.size ≤ 1000)) = true) : SmL l := by
 simp only [Bool.and_eq_true, decide_eq_true_eq, List.all_eq_true] at h
 exact ⟨h.1, h.2⟩
theorem someTests_ev {b : List Int} (hb : Code_ b) (p : Int) (h0 : 0 ≤ p) (h1 : p ≤ 600000) : ∃ m q, Ev (fun k => spec_someTests.f k b p) (m, q) ∧ SmTS m ∧ 0 ≤ q ∧ q ≤ p + 200 := by
 obtain ⟨m, q, hm, g1, g2, g3, g4⟩ := goodTests_ev hb p h0 (by omega) [(⟨#[100, 98]⟩ : ByteArray), (⟨#[116, 109, 112]⟩ : ByteArray)] (small_lit _ (by decide))
 have hset : ∀ (n : Nat) (x : S31), SmT x → SmTS (m.set n x) := fun n x hx => ⟨by rw [List.length_set]; omega, fun c hc => by
  rcases List.mem_or_eq_of_mem_set hc with hc | rfl
  ·exact g2 c hc
  ·exact hx⟩
 by_cases c : (m.length : Int) > 0
 ·obtain ⟨j, hj, j0, j1⟩ := pick_ev hb q (m.length : Int) g3 (by omega) (by omega)
  obtain ⟨v, hv, v0, v1⟩ := pick_ev hb (q + 1) 24 (by omega) (by omega) (by omega)
  have j2 := j1 (by omega)
  obtain ⟨n, rfl⟩ := Int.eq_ofNat_of_zero_le j0
  have hn : n < m.length := by omega
  have hz := g2 _ (List.getElem_mem hn)
  have er : rd_T31 m (n : Int) = m[n] := rdT_nat m n hn
  by_cases c0 : v = 0
  ·obtain ⟨s, hs, he⟩ := of_ev hb (q + 1 + 1) (by omega) (by omega) [(⟨#[]⟩ : ByteArray), (⟨#[65]⟩ : ByteArray), (⟨#[97, 110, 100]⟩ : ByteArray), (⟨#[116, 111, 111, 108, 111, 110, 103]⟩ : ByteArray)] (by decide) (by decide)
   have hs2 : s.size ≤ 1000 := by
    simp only [List.mem_cons, List.not_mem_nil, or_false] at hs
    rcases hs with rfl | rfl | rfl | rfl <;> (show _ ≤ 1000; decide)
   exact ⟨_, _, Ev.bind hm (Ev.iteT c (Ev.bind hj (Ev.bind hv (Ev.iteT c0 (Ev.bind he (Ev.iteT (by omega) (Ev.iteT (by omega) (Ev.some_ rfl)))))))), hset _ _ (by rw [er]; exact ⟨hz.s0, hs2, hz.r2, hz.r3⟩), by omega, by omega⟩
  ·by_cases c1 : v = 1
   ·exact ⟨_, _, Ev.bind hm (Ev.iteT c (Ev.bind hj (Ev.bind hv (Ev.iteF c0 (Ev.iteT c1 (Ev.iteT (by omega) (Ev.iteT (by omega) (Ev.some_ rfl)))))))), hset _ _ (by rw [er]; exact ⟨hz.s0, hz.s1, small_lit [(⟨#[115, 108, 111, 119]⟩ : ByteArray), (⟨#[102, 97, 115, 116]⟩ : ByteArray)] (by decide), hz.r3⟩), by omega, by omega⟩
   ·by_cases c2 : v = 2
    ·refine ⟨_, _, Ev.bind hm (Ev.iteT c (Ev.bind hj (Ev.bind hv (Ev.iteF c0 (Ev.iteF c1 (Ev.iteT c2 (Ev.iteT (by omega) (Ev.iteT (by omega) (Ev.iteT (show m.length < 1759218604441 by omega) (Ev.some_ rfl)))))))))), ⟨by simp; omega, fun x hx => ?_⟩, by omega, by omega⟩
     rcases List.mem_append.1 hx with hx | hx
     ·exact g2 x hx
     ·rw [List.mem_singleton.1 hx, er]
      exact hz
    ·by_cases c3 : v = 3
     ·exact ⟨_, _, Ev.bind hm (Ev.iteT c (Ev.bind hj (Ev.bind hv (Ev.iteF c0 (Ev.iteF c1 (Ev.iteF c2 (Ev.iteT c3 (Ev.iteT (by omega) (Ev.iteT (by omega) (Ev.some_ rfl)))))))))), hset _ _ (by rw [er]; exact ⟨hz.s0, hz.s1, hz.r2, small_lit [(⟨#[100, 98]⟩ : ByteArray), (⟨#[100, 98]⟩ : ByteArray)] (by decide)⟩), by omega, by omega⟩
     ·exact ⟨m, _, Ev.bind hm (Ev.iteT c (Ev.bind hj (Ev.bind hv (Ev.iteF c0 (Ev.iteF c1 (Ev.iteF c2 (Ev.iteF c3 (Ev.some_ rfl)))))))), ⟨show m.length ≤ 1000 by omega, g2⟩, by omega, by omega⟩
 ·exact ⟨m, q, Ev.bind hm (Ev.iteF c (Ev.some_ rfl)), ⟨by omega, g2⟩, g3, by omega⟩
theorem anIdT_ev {b : List Int} (hb : Code_ b) (p : Int) (h0 : 0 ≤ p) (h1 : p ≤ 800000) : ∃ s, Ev (fun k => spec_anId.f k b p) (s, p + 1 + 1) := by
 obtain ⟨s, hs, hs2⟩ := aModT_ev hb p h0 (by omega)
 obtain ⟨u, hu, hu2⟩ := aName_ev hb (p + 1) (by omega) (by omega)
 exact ⟨_, Ev.bind hs (Ev.iteT (by simp only [hs2]; omega) (Ev.bind hu (Ev.iteT (by simp only [hs2, hu2]; omega) (Ev.some_ rfl))))⟩
theorem drawFind_ev (c : List Int) (h : ∀ x ∈ c, 0 ≤ x ∧ x ≤ 255) : ∃ l s, Ev (fun k => spec_DrawFindTest.f k c) (l, s) ∧ SmTS l := by
 obtain ⟨b, hb, hb2⟩ := newReader_ev c h
 obtain ⟨l, q, hl, hs, q0, q1⟩ := someTests_ev hb2 0 (by omega) (by omega)
 obtain ⟨s1, hs1⟩ := anIdT_ev hb2 q q0 (by omega)
 obtain ⟨s2, hs2⟩ := anIdT_ev hb2 (q + 1 + 1) (by omega) (by omega)
 obtain ⟨s3, _, hs3⟩ := of_ev hb2 (q + 1 + 1 + 1 + 1) (by omega) (by omega) [s1, s2, (⟨#[109]⟩ : ByteArray), (⟨#[]⟩ : ByteArray)] (by simp) (by simp)
 exact ⟨l, s3, Ev.bind0 hb (Ev.bind hl (Ev.bind hs1 (Ev.bind hs2 (Ev.bind hs3 (Ev.some_ rfl))))), hs⟩
end Go.Proofs.Ytadhfpbkanobnaa.G
