/- Plain laws, without Go, that the law FnPlayCalls leans on. No condition. -/
import Derived.Test.YtcbkpdgbijdbbaaMx0
import Derived.Test.YtcbkpdgbijdbbaaMx1
import Derived.Test.YtcbkpdgbijdbbaaMx2
import Derived.Test.YtcbkpdgbijdbbaaMx3
import Derived.Test.YtcbkpdgbijdbbaaMx4
import Derived.Test.YtcbkpdgbijdbbaaMx5
import Derived.Test.YtcbkpdgbijdbbaaMx6
import Derived.Test.YtcbkpdgbijdbbaaMx7
import Derived.Test.YtcbkpdgbijdbbaaMx8
import Derived.Test.YtcbkpdgbijdbbaaMx9
import Derived.Test.YtcbkpdgbijdbbaaMx10
import Derived.Test.YtcbkpdgbijdbbaaMx11
import Derived.Test.YtcbkpdgbijdbbaaMx12
import Derived.Test.YtcbkpdgbijdbbaaWMore
import Derived.IntWalk
import Derived.Laws.BitsLemmas
import Derived.Lib.Bytealg
import Derived.Lib.Strings
import Derived.Sort.Walk0
set_option linter.unusedSimpArgs false
set_option linter.unusedVariables false
namespace Go.Proofs.Ytcbkpdgbijdbbaa.M
open Go.RowKit Go.Proofs.YtcbkpdgbijdbbaaW.PrintWords Go.Proofs.YtcbkpdgbijdbbaaW.PrintLast Go.Proofs.YtcbkpdgbijdbbaaW.PrintMore
theorem Ev.iteT {α : Type} {c : Prop} [Decidable c] {g f : Nat → Option α} {r : α} (h : c) (k : Ev g r) : Ev (fun n => if c then g n else f n) r := by
 simpa only [if_pos h] using k
theorem Ev.iteF {α : Type} {c : Prop} [Decidable c] {g f : Nat → Option α} {r : α} (h : ¬ c) (k : Ev f r) : Ev (fun n => if c then g n else f n) r := by
 simpa only [if_neg h] using k
/-- A callee without rounds. -/
theorem Ev.bind0 {α β : Type} {g : Option α} {f : Nat → α → Option β} {a : α} {r : β} (h : g = some a) (k : Ev (fun n => f n a) r) : Ev (fun n => g.bind (f n)) r := by
 subst h
 simpa only [Option.bind_some] using k
theorem Ev.some_ {α : Type} {x r : α} (h : x = r) : Ev (fun _ => some x) r := ⟨0, fun _ _ => by rw [h]⟩
theorem Ev.bool {b r : Bool} (h : b = r) : Ev (fun _ => some b) r := Ev.some_ h
theorem wrapN {i : Nat} (h : i < 4611686018427387904) : wrap64 ((i : Int) + 1) = ((i + 1 : Nat) : Int) := by
 unfold wrap64
 omega
theorem wrapI {x : Int} (h : -9223372036854775808 ≤ x ∧ x ≤ 9223372036854775807) : wrap64 x = x := by
 unfold wrap64
 omega
theorem rdOf_nat {α : Type} (d : α) (l : List α) (i : Nat) (h : i < l.length) : rdOf d l (i : Int) = l[i] := by
 simp [rdOf, List.getD_eq_getElem?_getD, List.getElem?_eq_getElem h]
theorem rd_nat (l : List Int) (i : Nat) (h : i < l.length) : rd l (i : Int) = l[i] := by
 simp [rd, List.getD_eq_getElem?_getD, List.getElem?_eq_getElem h]
theorem getD_nat {α : Type} (d : α) (l : List α) (i : Nat) (h : i < l.length) : l.getD (i : Int).toNat d = l[i] := by
 simp [List.getD_eq_getElem?_getD, List.getElem?_eq_getElem h]
theorem size_list (s : ByteArray) : s.data.toList.length = s.size := by rw [Array.length_toList]; rfl
theorem bt_nat (s : ByteArray) (i : Nat) (h : i < s.data.toList.length) : bt s (i : Int) = ((s.data.toList[i]).toNat : Int) := by
 have h' : i < s.size := by rw [← size_list]; exact h
 unfold bt
 rw [dif_pos (by simpa using h')]
 rfl
/-- A list seen from place i on. -/
theorem drop_cons {α : Type} {l : List α} {i : Nat} {b : α} {t : List α} (h : l.drop i = b :: t) : ∃ hi : i < l.length, l[i] = b ∧ l.drop (i + 1) = t := by
 have hi : i < l.length := by
  rcases Nat.lt_or_ge i l.length with h1 | h1
  ·exact h1
  ·rw [List.drop_of_length_le h1] at h
   cases h
 refine ⟨hi, ?_, ?_⟩
 ·rw [List.drop_eq_getElem_cons hi] at h
  exact (List.cons.inj h).1
 ·rw [List.drop_eq_getElem_cons hi] at h
  exact (List.cons.inj h).2
theorem drop_nil {α : Type} {l : List α} {i : Nat} (h : l.drop i = []) : l.length ≤ i := by
 have := congrArg List.length h
 rw [List.length_drop] at this
 simpa using Nat.sub_eq_zero_iff_le.1 this
theorem toList_inj {a b : ByteArray} (h : a.toList = b.toList) : a = b := by
 rw [Lib.toList_data, Lib.toList_data] at h
 cases a with
 | mk x => cases b with
  | mk y =>
   have : x = y := Array.ext' h
   rw [this]
theorem toList_iff {a b : ByteArray} : a.toList = b.toList ↔ a = b := ⟨toList_inj, fun h => by rw [h]⟩
def lowB (b : UInt8) : Bool := decide (97 ≤ (b.toNat : Int)) && decide ((b.toNat : Int) ≤ 122)
/-- What is asked of a name behind its letters. -/
def nameEnd (s : ByteArray) : Bool := decide (1 ≤ s.size) && (decide (s.size ≤ 6) && (s.toList != ([97, 110, 100] : List UInt8) && (s.toList != ([111, 114] : List UInt8) && s.toList != ([110, 111, 116] : List UInt8))))
def nameS (s : ByteArray) : Bool := s.data.toList.all lowB && nameEnd s
theorem nameOk_loop (s : ByteArray) (hs : s.size ≤ 4611686018427387903) : ∀ (t : List UInt8) (i : Nat), s.data.toList.drop i = t → i ≤ s.size →
  Ev (fun k => impl_nameOk.l0 k s (s.size : Int) (i : Int)) (t.all lowB && nameEnd s) := by
 intro t
 induction t with
 | nil =>
  intro i h hi
  have hl := drop_nil h
  rw [size_list] at hl
  refine Ev.step (fun k => rfl) (Ev.iteF (by omega) ?_)
  simp only [List.all_nil, Bool.true_and]
  unfold nameEnd
  by_cases h1 : 1 ≤ s.size
  ·refine Ev.iteT (by omega) ?_
   by_cases h2 : s.size ≤ 6
   ·refine Ev.iteT (by omega) ?_
    by_cases h3 : s.toList = ([97, 110, 100] : List UInt8)
    ·exact Ev.iteT h3 (Ev.bool (by simp [h3]))
    ·refine Ev.iteF h3 ?_
     by_cases h4 : s.toList = ([111, 114] : List UInt8)
     ·exact Ev.iteT h4 (Ev.bool (by simp [h4]))
     ·exact Ev.iteF h4 (Ev.bool (by simp [h1, h2, bne_iff_ne.2 h3, bne_iff_ne.2 h4]))
   ·exact Ev.iteF (by omega) (Ev.bool (by simp [h2]))
  ·exact Ev.iteF (by omega) (Ev.bool (by simp [h1]))
 | cons b t ih =>
  intro i h hi
  obtain ⟨hl, hb, ht⟩ := drop_cons h
  have hl' := hl
  rw [size_list] at hl'
  refine Ev.step (fun k => rfl) (Ev.iteT (by omega) (Ev.iteT (by omega) (Ev.iteT (by omega) ?_)))
  rw [bt_nat s i hl, hb]
  by_cases h1 : (b.toNat : Int) < 97
  ·exact Ev.iteT h1 (Ev.bool (by simp [lowB]; omega))
  ·refine Ev.iteF h1 ?_
   by_cases h2 : (b.toNat : Int) > 122
   ·exact Ev.iteT h2 (Ev.bool (by simp [lowB]; omega))
   ·refine Ev.iteF h2 ?_
    rw [wrapN (by omega)]
    have := ih (i + 1) ht (by omega)
    have e : lowB b = true := by simp [lowB]; omega
    simpa [List.all_cons, e] using this
theorem nameOk_ev (s : ByteArray) (hs : s.size ≤ 4611686018427387903) : Ev (fun k => impl_nameOk.f k s) (nameS s) :=
 nameOk_loop s hs _ 0 rfl (Nat.zero_le _)
theorem inRange_ev (a b c : Int) : spec_inRange.f a b c = some (decide (b ≤ a ∧ a ≤ c)) := by
 unfold spec_inRange.f
 by_cases h : b ≤ a
 ·rw [if_pos h]
  simp [h]
 ·rw [if_neg h]
  simp [h]
theorem validName_loop (s : ByteArray) (hs : s.size ≤ 4611686018427387903) : ∀ (t : List UInt8) (i : Nat), s.data.toList.drop i = t → i ≤ s.size →
  Ev (fun k => spec_validName.l0 k s (i : Int)) (t.all lowB && nameEnd s) := by
 intro t
 induction t with
 | nil =>
  intro i h hi
  have hl := drop_nil h
  rw [size_list] at hl
  refine Ev.step (fun k => rfl) (Ev.iteF (by omega) (Ev.bind0 (inRange_ev _ _ _) ?_))
  simp only [List.all_nil, Bool.true_and]
  unfold nameEnd
  by_cases h1 : 1 ≤ s.size
  ·by_cases h2 : s.size ≤ 6
   ·refine Ev.iteT (by simp; omega) ?_
    by_cases h3 : s.toList = ([97, 110, 100] : List UInt8)
    ·exact Ev.iteT h3 (Ev.bool (by simp [h3]))
    ·refine Ev.iteF h3 ?_
     by_cases h4 : s.toList = ([111, 114] : List UInt8)
     ·exact Ev.iteT h4 (Ev.bool (by simp [h4]))
     ·exact Ev.iteF h4 (Ev.bool (by simp [h1, h2, bne_iff_ne.2 h3, bne_iff_ne.2 h4]))
   ·exact Ev.iteF (by simp; omega) (Ev.bool (by simp [h2]))
  ·exact Ev.iteF (by simp; omega) (Ev.bool (by simp [h1]))
 | cons b t ih =>
  intro i h hi
  obtain ⟨hl, hb, ht⟩ := drop_cons h
  have hl' := hl
  rw [size_list] at hl'
  refine Ev.step (fun k => rfl) (Ev.iteT (by omega) (Ev.iteT (by omega) ?_))
  rw [bt_nat s i hl, hb]
  by_cases h1 : (b.toNat : Int) < 97
  ·exact Ev.iteT h1 (Ev.bool (by simp [lowB]; omega))
  ·refine Ev.iteF h1 ?_
   by_cases h2 : (b.toNat : Int) > 122
   ·exact Ev.iteT h2 (Ev.bool (by simp [lowB]; omega))
   ·refine Ev.iteF h2 ?_
    rw [wrapN (by omega)]
    have := ih (i + 1) ht (by omega)
    have e : lowB b = true := by simp [lowB]; omega
    simpa [List.all_cons, e] using this
theorem validName_ev (s : ByteArray) (hs : s.size ≤ 4611686018427387903) : Ev (fun k => spec_validName.f k s) (nameS s) :=
 validName_loop s hs _ 0 rfl (Nat.zero_le _)
def memB (l : List ByteArray) (x : ByteArray) : Bool := l.any fun y => decide (y = x)
theorem memB_iff {l : List ByteArray} {x : ByteArray} : memB l x = true ↔ x ∈ l := by
 simp [memB]
theorem memB_eq {l : List ByteArray} {x : ByteArray} {p : Prop} [Decidable p] (h : p ↔ x ∈ l) : decide p = memB l x := by
 rw [Bool.eq_iff_iff, memB_iff]
 simpa using h
theorem index_loop (l : List ByteArray) (x : ByteArray) (hl : l.length ≤ 4611686018427387903) : ∀ (t : List ByteArray) (i : Nat), l.drop i = t → i ≤ l.length →
  ∃ r : Int, Ev (fun k => slices_Index_string_string.l0 k l x (l.length : Int) (i : Int)) r ∧ (0 ≤ r ↔ x ∈ t) := by
 intro t
 induction t with
 | nil =>
  intro i h hi
  have hl2 := drop_nil h
  exact ⟨-1, Ev.step (fun k => rfl) (Ev.iteF (by omega) (Ev.some_ rfl)), by simp⟩
 | cons b t ih =>
  intro i h hi
  obtain ⟨hl2, hb, ht⟩ := drop_cons h
  by_cases h1 : x = b
  ·refine ⟨(i : Int), Ev.step (fun k => rfl) (Ev.iteT (by omega) (Ev.iteT (by omega) (Ev.iteT (by omega) (Ev.iteT ?_ (Ev.some_ rfl))))), by simp [h1]⟩
   rw [rdOf_nat _ _ _ hl2, hb, h1]
  ·obtain ⟨r, hr, hm⟩ := ih (i + 1) ht (by omega)
   refine ⟨r, Ev.step (fun k => rfl) (Ev.iteT (by omega) (Ev.iteT (by omega) (Ev.iteT (by omega) (Ev.iteF ?_ ?_)))), by simp [h1, hm]⟩
   ·rw [rdOf_nat _ _ _ hl2, hb, toList_iff]
    exact h1
   ·rw [wrapN (by omega)]
    exact hr
theorem contains_ev (l : List ByteArray) (x : ByteArray) (hl : l.length ≤ 4611686018427387903) : Ev (fun k => slices_Contains_string_string.f k l x) (memB l x) := by
 obtain ⟨r, hr, hm⟩ := index_loop l x hl l 0 rfl (Nat.zero_le _)
 exact Ev.bind hr (Ev.bool (memB_eq hm))
theorem nodup_take_succ {α : Type} (l : List α) (i : Nat) (h : i < l.length) : (l.take (i + 1)).Nodup ↔ (l.take i).Nodup ∧ l[i] ∉ l.take i := by
 rw [List.take_succ_eq_append_getElem h, List.nodup_append]
 simp only [List.nodup_cons, List.not_mem_nil, not_false_eq_true, List.nodup_nil, and_self, true_and, List.mem_singleton, forall_eq]
 exact ⟨fun ⟨a, b⟩ => ⟨a, fun hm => b _ hm rfl⟩, fun ⟨a, b⟩ => ⟨a, fun x hx e => b (e ▸ hx)⟩⟩
theorem nodup_of_take {α : Type} (l : List α) (i : Nat) (h : ¬ (l.take i).Nodup) : ¬ l.Nodup := fun hn => h (hn.sublist (List.take_sublist _ _))
/-- All in a list are of a size that numbers hold. -/
def SizesOk (l : List ByteArray) : Prop := ∀ x ∈ l, x.size ≤ 4611686018427387903
theorem xor_nat (a b : Nat) (ha : a < 2 ^ 62) (hb : b < 2 ^ 62) : bits .xor .i64 a b = ((a ^^^ b : Nat) : Int) := by
 have hk : IntKind.i64.bits = 64 := rfl
 have ha' : a % 2 ^ 64 = a := Nat.mod_eq_of_lt (by omega)
 have hb' : b % 2 ^ 64 = b := Nat.mod_eq_of_lt (by omega)
 have hx := Nat.xor_lt_two_pow ha hb
 simp only [bits, hk, BitVec.ofInt_natCast, BitVec.toNat_xor, BitVec.toNat_ofNat, ha', hb']
 rw [IntKind.wrap_i64]
 omega
theorem xor_nonneg (a b : Int) (ha : 0 ≤ a) (ha' : a < 4611686018427387904) (hb : 0 ≤ b) (hb' : b < 4611686018427387904) : 0 ≤ bits .xor .i64 a b := by
 obtain ⟨x, rfl⟩ := Int.eq_ofNat_of_zero_le ha
 obtain ⟨y, rfl⟩ := Int.eq_ofNat_of_zero_le hb
 rw [xor_nat x y (by omega) (by omega)]
 omega
/-- A code: what a reader reads. -/
structure Code_ (b : List Int) : Prop where
 len : b.length ≤ 2000
 byte : ∀ x ∈ b, 0 ≤ x ∧ x ≤ 255
theorem Code_.at_ {b : List Int} (h : Code_ b) (i : Int) (h0 : 0 ≤ i) (h1 : i < b.length) : 0 ≤ rd b i ∧ rd b i ≤ 255 := by
 obtain ⟨j, rfl⟩ := Int.eq_ofNat_of_zero_le h0
 rw [rd_nat b j (by omega)]
 exact h.byte _ (List.getElem_mem _)
theorem Code_.nil : Code_ [] := ⟨by simp, by simp⟩
theorem newReader_ev (l : List Int) (h : ∀ x ∈ l, 0 ≤ x ∧ x ≤ 255) : ∃ b, spec_newReader.f l = some (b, 0) ∧ Code_ b := by
 unfold spec_newReader.f
 by_cases h1 : (l.length : Int) > 2000
 ·rw [if_pos h1, if_pos (by omega)]
  exact ⟨_, rfl, ⟨by rw [List.length_take]; omega, fun x hx => h x (List.mem_of_mem_take hx)⟩⟩
 ·rw [if_neg h1]
  exact ⟨_, rfl, ⟨by omega, h⟩⟩
theorem pick_ev {b : List Int} (hb : Code_ b) (p n : Int) (h0 : 0 ≤ p) (h1 : p ≤ 1099511627776) (hn : n ≤ 1099511627776) :
  ∃ v, Ev (fun k => spec_reader_pick.f k b p n) (v, p + 1) ∧ 0 ≤ v ∧ (1 ≤ n → v < n) := by
 have w1 : wrap64 (p + 1) = p + 1 := wrapI (by omega)
 have w0 : wrap64 (p + 1 - 1) = p := by rw [wrapI (by omega)]; omega
 have hl := hb.len
 unfold spec_reader_pick.f
 rw [w1]
 by_cases c1 : n < 1
 ·exact ⟨0, ⟨1, fun k hk => by obtain ⟨m, rfl⟩ : ∃ m, k = m + 1 := ⟨k - 1, by omega⟩; exact (if_pos c1).trans rfl⟩, by omega, by omega⟩
 ·simp only [if_neg c1]
  by_cases c2 : b.length = 0
  ·exact ⟨0, Ev.step (fun k => rfl) (Ev.iteT (by simp [c2]) (Ev.some_ rfl)), by omega, by omega⟩
  ·by_cases c3 : p < (b.length : Int)
   ·have ha := hb.at_ p h0 c3
    have w2 : wrap64 (rd b p) = rd b p := wrapI (by omega)
    refine ⟨Int.tmod (rd b p) n, Ev.step (fun k => rfl) (Ev.iteF (by simp only [beq_iff_eq]; omega) (Ev.iteT (by rw [w0]; exact c3) (Ev.iteT (by rw [w0]; exact h0) (Ev.iteF (by omega) (Ev.some_ ?_))))), Int.tmod_nonneg _ ha.1, fun _ => Int.tmod_lt_of_pos _ (by omega)⟩
    rw [w0, w2]
   ·have hL : (0 : Int) < b.length := by omega
    have t1 : 0 ≤ Int.tmod p b.length := Int.tmod_nonneg _ h0
    have t2 : Int.tmod p b.length < b.length := Int.tmod_lt_of_pos _ hL
    have w3 : wrap64 (p * 7) = p * 7 := wrapI (by omega)
    have w4 : wrap64 (p * 7 + 3) = p * 7 + 3 := wrapI (by omega)
    have t3 : 0 ≤ Int.tmod (p * 7 + 3) b.length := Int.tmod_nonneg _ (by omega)
    have t4 : Int.tmod (p * 7 + 3) b.length < b.length := Int.tmod_lt_of_pos _ hL
    have a1 := hb.at_ _ t1 t2
    have a2 := hb.at_ _ t3 t4
    have d0 : 0 ≤ Int.tdiv p b.length := Int.tdiv_nonneg h0 (by omega)
    have d1 : Int.tdiv p b.length ≤ p := by
     rw [Int.tdiv_eq_ediv_of_nonneg h0]
     exact Int.ediv_le_self _ h0
    generalize hA : rd b (Int.tmod p b.length) = A at a1
    generalize hB : rd b (Int.tmod (p * 7 + 3) b.length) = B at a2
    generalize hQ : Int.tdiv p b.length = Q at d0 d1
    have v1 : wrap64 A = A := wrapI (by omega)
    have v2 : wrap64 (A * 131) = A * 131 := wrapI (by omega)
    have v3 : wrap64 B = B := wrapI (by omega)
    have v4 : wrap64 (B * 1117) = B * 1117 := wrapI (by omega)
    have v5 : wrap64 (A * 131 + B * 1117) = A * 131 + B * 1117 := wrapI (by omega)
    have v6 : wrap64 (p * 29) = p * 29 := wrapI (by omega)
    have v7 : wrap64 (A * 131 + B * 1117 + p * 29) = A * 131 + B * 1117 + p * 29 := wrapI (by omega)
    have v8 : wrap64 Q = Q := wrapI (by omega)
    have v9 : wrap64 (Q * 53) = Q * 53 := wrapI (by omega)
    have v10 : wrap64 (A * 131 + B * 1117 + p * 29 + Q * 53) = A * 131 + B * 1117 + p * 29 + Q * 53 := wrapI (by omega)
    have x0 : 0 ≤ A * 131 + B * 1117 + p * 29 + Q * 53 := by omega
    have x1 : A * 131 + B * 1117 + p * 29 + Q * 53 < 4611686018427387904 := by omega
    generalize hX : A * 131 + B * 1117 + p * 29 + Q * 53 = X at v10 x0 x1
    have e0 : 0 ≤ Int.tdiv X 64 := Int.tdiv_nonneg x0 (by omega)
    have e1 : Int.tdiv X 64 ≤ X := by
     rw [Int.tdiv_eq_ediv_of_nonneg x0]
     exact Int.ediv_le_self _ x0
    have v11 : wrap64 (Int.tdiv X 64) = Int.tdiv X 64 := wrapI (by omega)
    have hx := xor_nonneg X (Int.tdiv X 64) x0 x1 e0 (by omega)
    refine ⟨Int.tmod (bits .xor .i64 X (Int.tdiv X 64)) n, ?_, Int.tmod_nonneg _ hx, fun _ => Int.tmod_lt_of_pos _ (by omega)⟩
    refine Ev.step (fun k => rfl) (Ev.iteF (by simp only [beq_iff_eq]; omega) (Ev.iteF (by rw [w0]; exact c3) (Ev.iteF (by omega) ?_)))
    simp only [w0, w3, w4]
    refine Ev.iteT t1 (Ev.iteT t2 (Ev.iteT t3 (Ev.iteT t4 (Ev.iteF (by omega) (Ev.some_ ?_)))))
    simp only [hA, hB, hQ, v1, v2, v3, v4, v5, v6, v7, v8, v9, hX, v10, v11]
theorem of_ev {b : List Int} (hb : Code_ b) (p : Int) (h0 : 0 ≤ p) (h1 : p ≤ 1099511627776) (l : List ByteArray) (hl : 1 ≤ l.length) (hl' : l.length ≤ 1000) :
  ∃ x, x ∈ l ∧ Ev (fun k => spec_reader_of.f k b p l) (x, p + 1) := by
 obtain ⟨v, hv, v0, v1⟩ := pick_ev hb p (l.length : Int) h0 h1 (by omega)
 have v1 := v1 (by omega)
 obtain ⟨j, rfl⟩ := Int.eq_ofNat_of_zero_le v0
 refine ⟨l[j]'(by omega), List.getElem_mem _, ?_⟩
 unfold spec_reader_of.f
 exact Ev.bind hv (Ev.iteT v0 (Ev.iteT v1 (Ev.some_ (by rw [rdOf_nat _ _ _ (by omega)]))))
theorem one_ev {b : List Int} (hb : Code_ b) (p : Int) (h0 : 0 ≤ p) (h1 : p ≤ 1099511627776) (l : List Int) (hl : 1 ≤ l.length) (hl' : l.length ≤ 1000) :
  ∃ x, x ∈ l ∧ Ev (fun k => spec_reader_one.f k b p l) (x, p + 1) := by
 obtain ⟨v, hv, v0, v1⟩ := pick_ev hb p (l.length : Int) h0 h1 (by omega)
 have v1 := v1 (by omega)
 obtain ⟨j, rfl⟩ := Int.eq_ofNat_of_zero_le v0
 refine ⟨l[j]'(by omega), List.getElem_mem _, ?_⟩
 unfold spec_reader_one.f
 exact Ev.bind hv (Ev.iteT v0 (Ev.iteT v1 (Ev.some_ (by rw [rd_nat _ _ (by omega)]))))
theorem wfByte {x : Int} (h : (Lit.int .u8 x).wf = true) : 0 ≤ x ∧ x ≤ 255 := by
 simp [Lit.wf, IntKind.min, IntKind.max, IntKind.signed, IntKind.bits] at h
 omega
def numS (n : Int) : Bool := decide (-99 ≤ n) && decide (n ≤ 99)
def callV (s : ByteArray) (l : List Int) : Bool := nameS s && (decide ((l.length : Int) ≤ 3) && l.all numS)
def callS (c : S33) : Bool := callV c.f0 c.f1
def callsS (l : List S33) : Bool := l.all callS && decide ((l.length : Int) ≤ 12)
structure CSz (c : S33) : Prop where
 s0 : c.f0.size ≤ 4194304
 s1 : c.f1.length ≤ 4194304
structure CSzS (l : List S33) : Prop where
 len : l.length ≤ 4194304
 one : ∀ c ∈ l, CSz c
theorem rdCall_nat (l : List S33) (i : Nat) (h : i < l.length) : rd_T33 l (i : Int) = l[i] := by
 unfold rd_T33
 exact getD_nat _ _ _ h
theorem numbersOk_loop (l : List Int) (hl : l.length ≤ 4611686018427387903) : ∀ (t : List Int) (i : Nat), l.drop i = t → i ≤ l.length → Ev (fun k => impl_numbersOk.l0 k l (l.length : Int) (i : Int)) (t.all numS) := by
 intro t
 induction t with
 | nil =>
  intro i h hi
  have hl2 := drop_nil h
  exact Ev.step (fun k => rfl) (Ev.iteF (by omega) (Ev.some_ rfl))
 | cons b t ih =>
  intro i h hi
  obtain ⟨hl2, hb, ht⟩ := drop_cons h
  refine Ev.step (fun k => rfl) (Ev.iteT (by omega) (Ev.iteT (by omega) (Ev.iteT (by omega) ?_)))
  rw [rd_nat _ _ hl2, hb, List.all_cons]
  by_cases h1 : b < -99
  ·exact Ev.iteT h1 (Ev.some_ (by rw [show numS b = false by simp [numS]; omega]; rfl))
  ·by_cases h2 : b > 99
   ·exact Ev.iteF h1 (Ev.iteT h2 (Ev.some_ (by rw [show numS b = false by simp [numS]; omega]; rfl)))
   ·refine Ev.iteF h1 (Ev.iteF h2 ?_)
    rw [wrapN (by omega), show numS b = true by simp [numS]; omega, Bool.true_and]
    exact ih (i + 1) ht (by omega)
theorem callOk_ev (s : ByteArray) (l : List Int) (hs : s.size ≤ 4611686018427387903) (hl : l.length ≤ 4611686018427387903) : Ev (fun k => impl_callOk.f k s l) (callV s l) := by
 unfold impl_callOk.f callV
 refine Ev.bind (nameOk_ev s hs) ?_
 cases c0 : nameS s with
 | false => exact Ev.iteF (by simp) (Ev.bool (by simp))
 | true =>
  refine Ev.iteT rfl ?_
  by_cases c1 : (l.length : Int) ≤ 3
  ·exact Ev.iteT c1 (Ev.bind (numbersOk_loop l hl l 0 rfl (Nat.zero_le _)) (Ev.bool (by simp [c1])))
  ·exact Ev.iteF c1 (Ev.bool (by simp [c1]))
theorem validCallsI_loop (l : List S33) (hl : CSzS l) : ∀ (t : List S33) (i : Nat), l.drop i = t → i ≤ l.length → Ev (fun k => impl_ValidCalls.l0 k l l (l.length : Int) (i : Int)) (t.all callS && decide ((l.length : Int) ≤ 12)) := by
 have hlen := hl.len
 intro t
 induction t with
 | nil =>
  intro i h hi
  have hl2 := drop_nil h
  exact Ev.step (fun k => rfl) (Ev.iteF (by omega) (Ev.some_ (by simp)))
 | cons b t ih =>
  intro i h hi
  obtain ⟨hl2, hb, ht⟩ := drop_cons h
  have hs : CSz b := hl.one b (hb ▸ List.getElem_mem hl2)
  have h0 := hs.s0
  have h1 := hs.s1
  refine Ev.step (fun k => rfl) (Ev.iteT (by omega) (Ev.iteT (by omega) (Ev.iteT (by omega) ?_)))
  rw [rdCall_nat _ _ hl2, hb]
  refine Ev.bind (callOk_ev b.f0 b.f1 (by omega) (by omega)) ?_
  rw [List.all_cons, show callS b = callV b.f0 b.f1 from rfl]
  cases c : callV b.f0 b.f1 with
  | false => exact Ev.iteF (by simp) (Ev.bool (by simp))
  | true =>
   refine Ev.iteT rfl ?_
   rw [wrapN (by omega)]
   exact ih (i + 1) ht (by omega)
theorem validCallsI_ev (l : List S33) (hl : CSzS l) : Ev (fun k => impl_ValidCalls.f k l) (callsS l) :=
 validCallsI_loop l hl l 0 rfl (Nat.zero_le _)
theorem specCalls_nums (l : List S33) (hl : CSzS l) (i : Nat) (hi : i < l.length) (r : Bool) (hc : Ev (fun k => spec_validCalls.l0 k l ((i + 1 : Nat) : Int)) r) : ∀ (t : List Int) (j : Nat), (l[i]).f1.drop j = t → j ≤ (l[i]).f1.length →
  Ev (fun k => spec_validCalls.l1 k l (i : Int) (j : Int)) (t.all numS && r) := by
 have hlen := hl.len
 have hs := (hl.one _ (List.getElem_mem hi)).s1
 intro t
 induction t with
 | nil =>
  intro j h hj
  have hl2 := drop_nil h
  refine Ev.step (fun k => rfl) (Ev.iteT (by omega) (Ev.iteT (by omega) ?_))
  rw [rdCall_nat _ _ hi, wrapN (i := i) (by omega)]
  exact Ev.iteF (by omega) (by simpa only [List.all_nil, Bool.true_and] using hc)
 | cons b t ih =>
  intro j h hj
  obtain ⟨hl2, hb, ht⟩ := drop_cons h
  refine Ev.step (fun k => rfl) (Ev.iteT (by omega) (Ev.iteT (by omega) ?_))
  rw [rdCall_nat _ _ hi, rd_nat _ _ hl2, hb, List.all_cons, wrapN (by omega)]
  refine Ev.iteT (by omega) (Ev.iteT (by omega) (Ev.bind0 (inRange_ev _ _ _) ?_))
  by_cases h1 : -99 ≤ b ∧ b ≤ 99
  ·rw [show numS b = true by simp [numS]; omega, Bool.true_and]
   exact Ev.iteT (by simpa using h1) (ih (j + 1) ht (by omega))
  ·rw [show numS b = false by simp [numS]; omega]
   exact Ev.iteF (by simpa using h1) (Ev.bool (by simp))
theorem validCallsS_loop (l : List S33) (hl : CSzS l) : ∀ (t : List S33) (i : Nat), l.drop i = t → i ≤ l.length → Ev (fun k => spec_validCalls.l0 k l (i : Int)) (t.all callS && decide ((l.length : Int) ≤ 12)) := by
 have hlen := hl.len
 intro t
 induction t with
 | nil =>
  intro i h hi
  have hl2 := drop_nil h
  exact Ev.step (fun k => rfl) (Ev.iteF (by omega) (Ev.some_ (by simp)))
 | cons b t ih =>
  intro i h hi
  obtain ⟨hl2, hb, ht⟩ := drop_cons h
  have hs : CSz b := hl.one b (hb ▸ List.getElem_mem hl2)
  have h0 := hs.s0
  have hnums := specCalls_nums l hl i hl2 _ (ih (i + 1) ht (by omega)) (l[i]).f1 0 rfl (Nat.zero_le _)
  rw [hb] at hnums
  refine Ev.step (fun k => rfl) (Ev.iteT (by omega) (Ev.iteT (by omega) ?_))
  rw [rdCall_nat _ _ hl2, hb]
  refine Ev.bind (validName_ev b.f0 (by omega)) ?_
  rw [List.all_cons, show callS b = (nameS b.f0 && (decide ((b.f1.length : Int) ≤ 3) && b.f1.all numS)) from rfl]
  cases c0 : nameS b.f0 with
  | false =>
   refine Ev.iteF (by simp) ?_
   refine Ev.step (fun k => by rw [spec_validCalls.j1]) ?_
   exact Ev.iteT rfl (Ev.bool (by simp))
  | true =>
   refine Ev.iteT rfl ?_
   by_cases c1 : (b.f1.length : Int) ≤ 3
   ·refine Ev.step (fun k => by rw [spec_validCalls.j1]) ?_
    refine Ev.iteF (by simp; omega) ?_
    simpa [c1, Bool.and_assoc] using hnums
   ·refine Ev.step (fun k => by rw [spec_validCalls.j1]) ?_
    exact Ev.iteT (by simp; omega) (Ev.bool (by simp [c1]))
theorem validCallsS_ev (l : List S33) (hl : CSzS l) : Ev (fun k => spec_validCalls.f k l) (callsS l) :=
 validCallsS_loop l hl l 0 rfl (Nat.zero_le _)
structure SmallCalls (l : List S33) : Prop where
 len : l.length ≤ 1000
 one : ∀ c ∈ l, c.f0.size ≤ 1000 ∧ c.f1.length ≤ 1000
theorem SmallCalls.sizes {l : List S33} (h : SmallCalls l) : CSzS l := ⟨by have := h.len; omega, fun c hc => by have := h.one c hc; exact ⟨by omega, by omega⟩⟩
theorem predN {n : Nat} (h : n < 1000000) : wrap64 (((n + 1 : Nat) : Int) - 1) = (n : Int) := by rw [wrapI (by omega)]; omega
theorem aCall_loop {b : List Int} (hb : Code_ b) (s : ByteArray) : ∀ (n : Nat) (l : List Int) (p : Int), l.length + n ≤ 100 → 0 ≤ p → p + n ≤ 1000000 →
  ∃ m, Ev (fun k => spec_aCall.l0 k (n : Int) b p s l) (s, m, p + n) ∧ m.length = l.length + n := by
 intro n
 induction n with
 | zero =>
  intro l p hl h0 h1
  exact ⟨l, Ev.step (fun k => rfl) (Ev.iteF (by omega) (Ev.some_ (by simp))), rfl⟩
 | succ n ih =>
  intro l p hl h0 h1
  obtain ⟨y, hy, he⟩ := one_ev hb p h0 (by omega) [1, 2, 1] (by decide) (by decide)
  obtain ⟨m, hm, hm2⟩ := ih (l ++ [y]) (p + 1) (by simp; omega) (by omega) (by omega)
  refine ⟨m, Ev.step (fun k => rfl) (Ev.iteT (by omega) (Ev.bind he (Ev.iteT (by omega) ?_))), by rw [hm2]; simp; omega⟩
  rw [predN (by omega), show p + ((n + 1 : Nat) : Int) = p + 1 + n by omega]
  exact hm
theorem aCall_ev {b : List Int} (hb : Code_ b) (p : Int) (h0 : 0 ≤ p) (h1 : p ≤ 900000) :
  ∃ s l q, Ev (fun k => spec_aCall.f k b p) (s, l, q) ∧ s.size ≤ 1000 ∧ l.length ≤ 1000 ∧ p ≤ q ∧ q ≤ p + 5 := by
 obtain ⟨s, hs, he⟩ := of_ev hb p h0 (by omega) [(⟨#[103, 101, 116]⟩ : ByteArray), (⟨#[112, 117, 116]⟩ : ByteArray), (⟨#[103, 101, 116]⟩ : ByteArray), (⟨#[100, 101, 108]⟩ : ByteArray)] (by decide) (by decide)
 obtain ⟨y, hy, he2⟩ := one_ev hb (p + 1) (by omega) (by omega) [1, 0, 1, 2] (by decide) (by decide)
 have hs2 : s.size = 3 := by
  simp only [List.mem_cons, List.not_mem_nil, or_false] at hs
  rcases hs with rfl | rfl | rfl | rfl <;> rfl
 have hy2 : 0 ≤ y ∧ y ≤ 2 := by
  simp only [List.mem_cons, List.not_mem_nil, or_false] at hy
  omega
 obtain ⟨n, rfl⟩ := Int.eq_ofNat_of_zero_le hy2.1
 obtain ⟨m, hm, hm2⟩ := aCall_loop hb s n [] (p + 1 + 1) (by simp; omega) (by omega) (by omega)
 simp only [List.length_nil] at hm2
 exact ⟨s, m, _, Ev.bind he (Ev.bind he2 hm), by omega, by omega, by omega, by omega⟩
theorem goodCalls_loop {b : List Int} (hb : Code_ b) : ∀ (n : Nat) (l : List S33) (p : Int), l.length + n ≤ 100 → (∀ c ∈ l, c.f0.size ≤ 1000 ∧ c.f1.length ≤ 1000) → 0 ≤ p → p + 5 * n ≤ 800000 →
  ∃ m q, Ev (fun k => spec_goodCalls.l0 k l (n : Int) b p) (m, q) ∧ m.length ≤ 100 ∧ (∀ c ∈ m, c.f0.size ≤ 1000 ∧ c.f1.length ≤ 1000) ∧ 0 ≤ q ∧ q ≤ p + 5 * n := by
 intro n
 induction n with
 | zero =>
  intro l p hl hz h0 h1
  exact ⟨l, p, Ev.step (fun k => rfl) (Ev.iteF (by omega) (Ev.some_ rfl)), by omega, hz, h0, by omega⟩
 | succ n ih =>
  intro l p hl hz h0 h1
  obtain ⟨s, a, q, he, e1, e2, e3, e4⟩ := aCall_ev hb p h0 (by omega)
  obtain ⟨m, q2, hm, g1, g2, g3, g4⟩ := ih (l ++ [(⟨s, a⟩ : S33)]) q (by simp; omega) (fun c hc => by
   rcases List.mem_append.1 hc with hc | hc
   ·exact hz c hc
   ·rw [List.mem_singleton.1 hc]; exact ⟨e1, e2⟩) (by omega) (by omega)
  refine ⟨m, q2, Ev.step (fun k => rfl) (Ev.iteT (by omega) (Ev.bind he (Ev.iteT (by omega) ?_))), g1, g2, g3, by omega⟩
  rw [predN (by omega)]
  exact hm
theorem goodCalls_ev {b : List Int} (hb : Code_ b) (p : Int) (h0 : 0 ≤ p) (h1 : p ≤ 700000) :
  ∃ m q, Ev (fun k => spec_goodCalls.f k b p) (m, q) ∧ m.length ≤ 100 ∧ (∀ c ∈ m, c.f0.size ≤ 1000 ∧ c.f1.length ≤ 1000) ∧ 0 ≤ q ∧ q ≤ p + 61 := by
 obtain ⟨y, hy, he⟩ := one_ev hb p h0 (by omega) [4, 3, 5, 6, 2, 1, 0, 12] (by decide) (by decide)
 have hy2 : 0 ≤ y ∧ y ≤ 12 := by
  simp only [List.mem_cons, List.not_mem_nil, or_false] at hy
  omega
 obtain ⟨n, rfl⟩ := Int.eq_ofNat_of_zero_le hy2.1
 obtain ⟨m, q2, hm, g1, g2, g3, g4⟩ := goodCalls_loop hb n [] (p + 1) (by simp; omega) (fun c hc => by cases hc) (by omega) (by omega)
 exact ⟨m, q2, Ev.bind he hm, g1, g2, g3, by omega⟩
theorem oneCall_ev {b : List Int} (hb : Code_ b) (p : Int) (h0 : 0 ≤ p) (h1 : p ≤ 900000) :
  ∃ s l, Ev (fun k => spec_reader_oneCall.f k b p) (s, l, p + 1) ∧ s.size ≤ 1000 ∧ l.length ≤ 1000 := by
 obtain ⟨v, hv, v0, v1⟩ := pick_ev hb p 2 h0 (by omega) (by omega)
 by_cases c : v = 0
 ·exact ⟨_, _, Ev.bind hv (Ev.iteT c (Ev.some_ rfl)), by show 1 ≤ 1000; omega, by simp⟩
 ·exact ⟨_, _, Ev.bind hv (Ev.iteF c (Ev.some_ rfl)), by show 3 ≤ 1000; omega, by simp⟩
theorem someCalls_ev {b : List Int} (hb : Code_ b) (p : Int) (h0 : 0 ≤ p) (h1 : p ≤ 600000) :
  ∃ m q, Ev (fun k => spec_someCalls.f k b p) (m, q) ∧ SmallCalls m ∧ 0 ≤ q ∧ q ≤ p + 100 := by
 obtain ⟨m, q, hm, g1, g2, g3, g4⟩ := goodCalls_ev hb p h0 (by omega)
 by_cases c : (m.length : Int) > 0
 ·obtain ⟨v, hv, v0, v1⟩ := pick_ev hb q 20 g3 (by omega) (by omega)
  by_cases c2 : v = 0
  ·obtain ⟨j, hj, j0, j1⟩ := pick_ev hb (q + 1) (m.length : Int) (by omega) (by omega) (by omega)
   obtain ⟨s, l, he, e1, e2⟩ := oneCall_ev hb (q + 1 + 1) (by omega) (by omega)
   have j2 := j1 (by omega)
   obtain ⟨n, rfl⟩ := Int.eq_ofNat_of_zero_le j0
   refine ⟨m.set n ⟨s, l⟩, q + 1 + 1 + 1, ?_, ⟨by rw [List.length_set]; omega, fun c hc => ?_⟩, by omega, by omega⟩
   ·unfold spec_someCalls.f
    refine Ev.bind hm (Ev.iteT c (Ev.bind hv ?_))
    refine Ev.step (fun k => by rw [spec_someCalls.j0]) ?_
    exact Ev.iteT (by simpa using c2) (Ev.bind hj (Ev.bind he (Ev.iteT (by omega) (Ev.iteT (by omega) (Ev.some_ (by rw [Int.toNat_natCast]))))))
   ·rcases List.mem_or_eq_of_mem_set hc with hc | rfl
    ·exact g2 c hc
    ·exact ⟨e1, e2⟩
  ·refine ⟨m, q + 1, ?_, ⟨by omega, g2⟩, by omega, by omega⟩
   unfold spec_someCalls.f
   refine Ev.bind hm (Ev.iteT c (Ev.bind hv ?_))
   refine Ev.step (fun k => by rw [spec_someCalls.j0]) ?_
   exact Ev.iteF (by simpa using c2) (Ev.some_ rfl)
 ·refine ⟨m, q, ?_, ⟨by omega, g2⟩, g3, by omega⟩
  unfold spec_someCalls.f
  refine Ev.bind hm (Ev.iteF c ?_)
  refine Ev.step (fun k => by rw [spec_someCalls.j0]) ?_
  exact Ev.iteF (by simp) (Ev.some_ rfl)
theorem equalInts_loop (a : List Int) (ha : a.length ≤ 4611686018427387903) : ∀ (d i : Nat), i + d = a.length → Ev (fun k => laws_equalInts.l0 k a a (i : Int)) true := by
 intro d
 induction d with
 | zero =>
  intro i hd
  exact Ev.step (fun k => rfl) (Ev.iteF (by omega) (Ev.some_ rfl))
 | succ d ih =>
  intro i hd
  refine Ev.step (fun k => rfl) (Ev.iteT (by omega) (Ev.iteT (by omega) (Ev.iteT (by omega) (Ev.iteT rfl ?_))))
  rw [wrapN (by omega)]
  exact ih (i + 1) (by omega)
theorem equalIntsR_ev (a : List Int) (ha : a.length ≤ 4611686018427387903) : Ev (fun k => laws_equalInts.f k a a) true := by
 unfold laws_equalInts.f
 exact Ev.iteT rfl (equalInts_loop a ha a.length 0 (by omega))
theorem clone_eq (l : List Int) (h : l.length < 17592186044416) : slices_Clone_int_int.f l = some l := by
 unfold slices_Clone_int_int.f
 simp [h]
def namesS (l : List ByteArray) (m : Int) : Bool := l.all nameS && (decide l.Nodup && decide ((l.length : Int) ≤ m))
theorem namesOk_loop (l : List ByteArray) (m : Int) (hl : l.length ≤ 4611686018427387903) (hz : SizesOk l) : ∀ (t : List ByteArray) (i : Nat), l.drop i = t → i ≤ l.length → (l.take i).Nodup →
  Ev (fun k => impl_namesOk.l0 k l m l (l.length : Int) (i : Int)) (t.all nameS && (decide l.Nodup && decide ((l.length : Int) ≤ m))) := by
 intro t
 induction t with
 | nil =>
  intro i h hi hn
  have hl2 := drop_nil h
  rw [List.take_of_length_le hl2] at hn
  exact Ev.step (fun k => rfl) (Ev.iteF (by omega) (Ev.some_ (by simp [hn])))
 | cons b t ih =>
  intro i h hi hn
  obtain ⟨hl2, hb, ht⟩ := drop_cons h
  have hs : b.size ≤ 4611686018427387903 := hz b (hb ▸ List.getElem_mem hl2)
  refine Ev.step (fun k => rfl) (Ev.iteT (by omega) (Ev.iteT (by omega) (Ev.iteT (by omega) ?_)))
  rw [rdOf_nat _ _ _ hl2, hb, Int.toNat_natCast]
  refine Ev.bind (nameOk_ev b hs) ?_
  cases hnm : nameS b with
  | false => exact Ev.iteF (by simp) (Ev.bool (by simp [hnm]))
  | true =>
   refine Ev.iteT rfl (Ev.iteT (by omega) (Ev.bind (contains_ev (l.take i) b (by rw [List.length_take]; omega)) ?_))
   by_cases hm : b ∈ l.take i
   ·refine Ev.iteT (memB_iff.2 hm) (Ev.bool ?_)
    have : ¬ l.Nodup := nodup_of_take l (i + 1) (fun h => ((nodup_take_succ l i hl2).1 h).2 (hb ▸ hm))
    simp [this]
   ·refine Ev.iteF (by rw [memB_iff]; exact hm) ?_
    rw [wrapN (by omega)]
    simpa [List.all_cons, hnm] using ih (i + 1) ht (by omega) ((nodup_take_succ l i hl2).2 ⟨hn, hb ▸ hm⟩)
theorem namesOk_ev (l : List ByteArray) (m : Int) (hl : l.length ≤ 4611686018427387903) (hz : SizesOk l) : Ev (fun k => impl_namesOk.f k l m) (namesS l m) :=
 namesOk_loop l m hl hz l 0 rfl (Nat.zero_le _) (by simp)
structure RSz (c : S44) : Prop where
 s0 : c.f0.size ≤ 4194304
 s1 : c.f1.length ≤ 4194304
structure RSzS (l : List S44) : Prop where
 len : l.length ≤ 4194304
 one : ∀ c ∈ l, RSz c
theorem rdReply_nat (l : List S44) (i : Nat) (h : i < l.length) : rd_T44 l (i : Int) = l[i] := by
 unfold rd_T44
 exact getD_nat _ _ _ h
def valuesS (l : List Int) : Bool := decide (1 ≤ (l.length : Int)) && (decide ((l.length : Int) ≤ 4) && l.all numS)
def doubleS (l : List S44) : Bool := (l.all fun r => valuesS r.f1) && namesS (l.map fun r => r.f0) 4
theorem implDouble_loop (l : List S44) (hl : RSzS l) : ∀ (t : List S44) (i : Nat), l.drop i = t → i ≤ l.length →
  Ev (fun k => impl_ValidDouble.l0 k ((l.take i).map fun r => r.f0) l (l.length : Int) (i : Int)) ((t.all fun r => valuesS r.f1) && namesS (l.map fun r => r.f0) 4) := by
 have hlen := hl.len
 intro t
 induction t with
 | nil =>
  intro i h hi
  have hl2 := drop_nil h
  rw [List.take_of_length_le hl2]
  refine Ev.step (fun k => rfl) (Ev.iteF (by omega) (Ev.bind (namesOk_ev (l.map fun r => r.f0) 4 (by rw [List.length_map]; omega) ?_) (Ev.bool (by simp))))
  intro x hx
  obtain ⟨r, hr, rfl⟩ := List.mem_map.1 hx
  have := (hl.one r hr).s0
  omega
 | cons b t ih =>
  intro i h hi
  obtain ⟨hl2, hb, ht⟩ := drop_cons h
  have hs : RSz b := hl.one b (hb ▸ List.getElem_mem hl2)
  have h1 := hs.s1
  have hnext := ih (i + 1) ht (by omega)
  have e : (l.take (i + 1)).map (fun r => r.f0) = (l.take i).map (fun r => r.f0) ++ [b.f0] := by rw [List.take_succ_eq_append_getElem hl2, List.map_append, hb]; rfl
  rw [e] at hnext
  refine Ev.step (fun k => rfl) (Ev.iteT (by omega) (Ev.iteT (by omega) (Ev.iteT (by omega) ?_)))
  rw [rdReply_nat _ _ hl2, hb, List.all_cons, wrapN (by omega)]
  by_cases c1 : (b.f1.length : Int) < 1
  ·exact Ev.iteT c1 (Ev.bool (by rw [show valuesS b.f1 = false by unfold valuesS; rw [decide_eq_false (by omega), Bool.false_and]]; rfl))
  ·by_cases c2 : (b.f1.length : Int) > 4
   ·exact Ev.iteF c1 (Ev.iteT c2 (Ev.bool (by rw [show valuesS b.f1 = false by unfold valuesS; rw [show decide ((b.f1.length : Int) ≤ 4) = false from decide_eq_false (by omega), Bool.false_and, Bool.and_false]]; rfl)))
   ·refine Ev.iteF c1 (Ev.iteF c2 (Ev.bind (numbersOk_loop b.f1 (by omega) b.f1 0 rfl (Nat.zero_le _)) ?_))
    have ev : valuesS b.f1 = b.f1.all numS := by unfold valuesS; rw [decide_eq_true (by omega), show decide ((b.f1.length : Int) ≤ 4) = true from decide_eq_true (by omega), Bool.true_and, Bool.true_and]
    rw [ev]
    cases c3 : b.f1.all numS with
    | false => exact Ev.iteF (by simp) (Ev.bool (by simp))
    | true => exact Ev.iteT rfl (Ev.iteT (by rw [List.length_map, List.length_take]; omega) (by simpa using hnext))
theorem implDouble_ev (l : List S44) (hl : RSzS l) : Ev (fun k => impl_ValidDouble.f k l) (doubleS l) := implDouble_loop l hl l 0 rfl (Nat.zero_le _)
theorem validReply_loop (s : ByteArray) (hs : s.size ≤ 4611686018427387903) (l : List Int) (hl : l.length ≤ 4611686018427387903) : ∀ (t : List Int) (i : Nat), l.drop i = t → i ≤ l.length →
  Ev (fun k => spec_validReply.l0 k (i : Int) s l) (t.all numS && (nameS s && decide (1 ≤ (l.length : Int) ∧ (l.length : Int) ≤ 4))) := by
 intro t
 induction t with
 | nil =>
  intro i h hi
  have hl2 := drop_nil h
  refine Ev.step (fun k => rfl) (Ev.iteF (by omega) (Ev.bind (validName_ev s hs) ?_))
  cases c : nameS s with
  | false => exact Ev.iteF (by simp) (Ev.bool (by simp))
  | true => exact Ev.iteT rfl (Ev.bind0 (inRange_ev _ _ _) (Ev.bool (by simp)))
 | cons b t ih =>
  intro i h hi
  obtain ⟨hl2, hb, ht⟩ := drop_cons h
  refine Ev.step (fun k => rfl) (Ev.iteT (by omega) (Ev.iteT (by omega) ?_))
  rw [rd_nat _ _ hl2, hb, wrapN (by omega), List.all_cons]
  refine Ev.bind0 (inRange_ev _ _ _) ?_
  by_cases h1 : -99 ≤ b ∧ b ≤ 99
  ·rw [show numS b = true by simp [numS]; omega, Bool.true_and]
   exact Ev.iteT (by simpa using h1) (ih (i + 1) ht (by omega))
  ·rw [show numS b = false by simp [numS]; omega]
   exact Ev.iteF (by simpa using h1) (Ev.bool (by simp))
theorem validReply_ev (b : S44) (hs : RSz b) : Ev (fun k => spec_validReply.f k b.f0 b.f1) (valuesS b.f1 && nameS b.f0) := by
 have h0 := hs.s0
 have h1 := hs.s1
 have h := validReply_loop b.f0 (by omega) b.f1 (by omega) b.f1 0 rfl (Nat.zero_le _)
 have e : (b.f1.all numS && (nameS b.f0 && decide (1 ≤ (b.f1.length : Int) ∧ (b.f1.length : Int) ≤ 4))) = (valuesS b.f1 && nameS b.f0) := by
  unfold valuesS
  rw [Bool.decide_and]
  generalize b.f1.all numS = x
  generalize nameS b.f0 = y
  generalize decide (1 ≤ (b.f1.length : Int)) = z
  generalize decide ((b.f1.length : Int) ≤ 4) = u
  cases x <;> cases y <;> cases z <;> cases u <;> rfl
 rw [e] at h
 exact h
theorem find_spec (s : ByteArray) : ∀ (l : List S44) (i : Nat), (∃ j, ∃ h : j < l.length, impl_replyPred.find s l i = ((i + j : Nat) : Int) ∧ l[j].f0 = s) ∨ (impl_replyPred.find s l i = -1 ∧ ∀ r ∈ l, r.f0 ≠ s)
 | [], i => .inr ⟨rfl, fun r hr => by cases hr⟩
 | x :: t, i => by
  unfold impl_replyPred.find
  by_cases c : x.f0.toList = s.toList
  ·rw [if_pos c]
   exact .inl ⟨0, by simp, by simp, toList_inj c⟩
  ·rw [if_neg c]
   rcases find_spec s t (i + 1) with ⟨j, hj, h1, h2⟩ | ⟨h1, h2⟩
   ·exact .inl ⟨j + 1, by simpa using hj, by rw [h1]; congr 1; omega, by simpa using h2⟩
   ·refine .inr ⟨h1, fun r hr => ?_⟩
    rcases List.mem_cons.1 hr with rfl | hr
    ·exact fun e => c (by rw [e])
    ·exact h2 r hr
theorem replyAt_loop (l : List S44) (s : ByteArray) (hl : l.length ≤ 4611686018427387903) : ∀ (t : List S44) (i : Nat), l.drop i = t → i ≤ l.length → Ev (fun k => spec_replyAt.l0 k l s (i : Int)) (impl_replyPred.find s t i) := by
 intro t
 induction t with
 | nil =>
  intro i h hi
  have hl2 := drop_nil h
  exact Ev.step (fun k => rfl) (Ev.iteF (by omega) (Ev.some_ rfl))
 | cons b t ih =>
  intro i h hi
  obtain ⟨hl2, hb, ht⟩ := drop_cons h
  refine Ev.step (fun k => rfl) (Ev.iteT (by omega) (Ev.iteT (by omega) ?_))
  rw [rdReply_nat _ _ hl2, hb, wrapN (by omega), impl_replyPred.find]
  by_cases c : b.f0.toList = s.toList
  ·rw [if_pos c]
   exact Ev.iteT c (Ev.some_ rfl)
  ·rw [if_neg c]
   exact Ev.iteF c (ih (i + 1) ht (by omega))
theorem replyAt_ev (l : List S44) (s : ByteArray) (hl : l.length ≤ 4611686018427387903) : Ev (fun k => spec_replyAt.f k l s) (impl_replyPred.find s l 0) := replyAt_loop l s hl l 0 rfl (Nat.zero_le _)
theorem specDouble_loop (l : List S44) (hl : RSzS l) : ∀ (t : List S44) (i : Nat), l.drop i = t → i ≤ l.length → ((l.take i).map fun r => r.f0).Nodup →
  Ev (fun k => spec_validDouble.l0 k (i : Int) l) ((t.all fun r => valuesS r.f1 && nameS r.f0) && (decide (l.map fun r => r.f0).Nodup && decide ((l.length : Int) ≤ 4))) := by
 have hlen := hl.len
 intro t
 induction t with
 | nil =>
  intro i h hi hn
  have hl2 := drop_nil h
  rw [List.take_of_length_le hl2] at hn
  exact Ev.step (fun k => rfl) (Ev.iteF (by omega) (Ev.bool (by rw [decide_eq_true hn]; rfl)))
 | cons b t ih =>
  intro i h hi hn
  obtain ⟨hl2, hb, ht⟩ := drop_cons h
  have hs : RSz b := hl.one b (hb ▸ List.getElem_mem hl2)
  have hl3 : i < (l.map fun r => r.f0).length := by rw [List.length_map]; exact hl2
  have hnn := nodup_take_succ (l.map fun r => r.f0) i hl3
  rw [← List.map_take, ← List.map_take] at hnn
  have hbi : (l.map fun r => r.f0)[i] = b.f0 := by rw [List.getElem_map, hb]
  rw [hbi] at hnn
  refine Ev.step (fun k => rfl) (Ev.iteT (by omega) (Ev.iteT (by omega) ?_))
  rw [rdReply_nat _ _ hl2, hb, Int.toNat_natCast, List.all_cons, wrapN (by omega)]
  refine Ev.bind (validReply_ev b hs) ?_
  cases c1 : (valuesS b.f1 && nameS b.f0) with
  | false => exact Ev.iteF (by simp) (Ev.bool (by simp))
  | true =>
   refine Ev.iteT rfl (Ev.iteT (by omega) (Ev.bind (replyAt_ev (l.take i) b.f0 (by rw [List.length_take]; omega)) ?_))
   rcases find_spec b.f0 (l.take i) 0 with ⟨j, hj, h1, h2⟩ | ⟨h1, h2⟩
   ·rw [h1]
    refine Ev.iteT (by omega) (Ev.bool ?_)
    have hmem : b.f0 ∈ (l.take i).map fun r => r.f0 := List.mem_map.2 ⟨_, List.getElem_mem hj, h2⟩
    have hbad : ¬ (l.map fun r => r.f0).Nodup := fun hall => (hnn.1 (by rw [List.map_take]; exact hall.sublist (List.take_sublist _ _))).2 hmem
    rw [decide_eq_false hbad]
    simp
   ·rw [h1]
    refine Ev.iteF (by omega) ?_
    rw [Bool.true_and]
    refine ih (i + 1) ht (by omega) (hnn.2 ⟨hn, fun hm => ?_⟩)
    obtain ⟨r, hr, e⟩ := List.mem_map.1 hm
    exact h2 r hr e
theorem all_both {α : Type} (p q : α → Bool) : ∀ l : List α, (l.all fun r => p r && q r) = (l.all p && l.all q)
 | [] => rfl
 | x :: t => by
  rw [List.all_cons, List.all_cons, List.all_cons, all_both p q t]
  generalize p x = a
  generalize q x = b
  generalize t.all p = c
  generalize t.all q = d
  cases a <;> cases b <;> cases c <;> cases d <;> rfl
theorem specDouble_ev (l : List S44) (hl : RSzS l) : Ev (fun k => spec_validDouble.f k l) (doubleS l) := by
 have h := specDouble_loop l hl l 0 rfl (Nat.zero_le _) (by simp)
 have e : ((l.all fun r => valuesS r.f1 && nameS r.f0) && (decide (l.map fun r => r.f0).Nodup && decide ((l.length : Int) ≤ 4))) = doubleS l := by
  unfold doubleS namesS
  rw [all_both (fun r : S44 => valuesS r.f1) (fun r => nameS r.f0), List.length_map, List.all_map, Bool.and_assoc]
  rfl
 rw [e] at h
 exact h
def cntM (s : ByteArray) (l : List S33) : Nat := l.countP fun c => decide (c.f0 = s)
def repV (rs : List S44) (s : ByteArray) : Int := impl_replyPred.find s rs 0
def atV (rs : List S44) (s : ByteArray) (n : Nat) : Int := mn (n : Int) (wrap64 ((((rd_T44 rs (repV rs s)).f1).length : Int) - 1))
def valV (rs : List S44) (s : ByteArray) (n : Nat) : Int := rd ((rd_T44 rs (repV rs s)).f1) (atV rs s n)
def playL (rs : List S44) : List S33 → List S33 → List Int
 | _, [] => []
 | d, c :: t => valV rs c.f0 (cntM c.f0 d) :: playL rs (d ++ [c]) t
def hasR (rs : List S44) (c : S33) : Bool := decide (0 ≤ repV rs c.f0)
def playV (rs : List S44) (l : List S33) : List Int × Bool := if doubleS rs = true ∧ callsS l = true ∧ l.all (hasR rs) = true then (playL rs [] l, true) else ([], false)
theorem playL_length (rs : List S44) : ∀ t d, (playL rs d t).length = t.length
 | [], _ => rfl
 | c :: t, d => by rw [playL, List.length_cons, List.length_cons, playL_length rs t]
theorem cntM_take (s : ByteArray) (l : List S33) (i : Nat) (h : i < l.length) : cntM s (l.take (i + 1)) = cntM s (l.take i) + if l[i].f0 = s then 1 else 0 := by
 unfold cntM
 rw [List.take_succ_eq_append_getElem h, List.countP_append, List.countP_singleton]
 simp only [decide_eq_true_eq]
theorem cntM_le (s : ByteArray) (l : List S33) (i : Nat) : cntM s (l.take i) ≤ i := by
 unfold cntM
 have := List.countP_le_length (p := fun c : S33 => decide (c.f0 = s)) (l := l.take i)
 rw [List.length_take] at this
 omega
/-- Where a reply is: its place, and that what is asked of it is there. -/
theorem rep_at (rs : List S44) (hl : rs.length ≤ 4194304) (hd : doubleS rs = true) (s : ByteArray) (n : Nat) (h : 0 ≤ repV rs s) (hn : n ≤ 4194304) :
  repV rs s < (rs.length : Int) ∧ 0 ≤ atV rs s n ∧ atV rs s n < (((rd_T44 rs (repV rs s)).f1).length : Int) := by
 unfold atV repV at *
 rcases find_spec s rs 0 with ⟨j, hj, h1, h2⟩ | ⟨h1, h2⟩
 ·rw [Nat.zero_add] at h1
  rw [h1, rdReply_nat _ _ hj]
  have hv : valuesS rs[j].f1 = true := by
   unfold doubleS at hd
   simp only [Bool.and_eq_true, List.all_eq_true] at hd
   exact hd.1 _ (List.getElem_mem hj)
  unfold valuesS at hv
  simp only [Bool.and_eq_true, decide_eq_true_eq] at hv
  obtain ⟨v1, v2, _⟩ := hv
  have ew : wrap64 ((rs[j].f1.length : Int) - 1) = (rs[j].f1.length : Int) - 1 := wrapI (by omega)
  rw [ew]
  unfold mn
  refine ⟨by omega, ?_, ?_⟩ <;> split <;> omega
 ·rw [h1] at h
  exact absurd h (by omega)
theorem count_loop (l : List S33) (s : ByteArray) (hl : l.length ≤ 4194304) : ∀ (t : List S33) (i n : Nat), l.drop i = t → i ≤ l.length → n ≤ i → Ev (fun k => spec_countMethod.l0 k l s (n : Int) (i : Int)) ((n + cntM s t : Nat) : Int) := by
 intro t
 induction t with
 | nil =>
  intro i n h hi hn
  have hl2 := drop_nil h
  exact Ev.step (fun k => rfl) (Ev.iteF (by omega) (Ev.some_ (by simp [cntM])))
 | cons b t ih =>
  intro i n h hi hn
  obtain ⟨hl2, hb, ht⟩ := drop_cons h
  refine Ev.step (fun k => rfl) (Ev.iteT (by omega) (Ev.iteT (by omega) ?_))
  rw [rdCall_nat _ _ hl2, hb, wrapN (i := i) (by omega), wrapN (i := n) (by omega)]
  by_cases c : b.f0.toList = s.toList
  ·have := ih (i + 1) (n + 1) ht (by omega) (by omega)
   rw [show n + 1 + cntM s t = n + cntM s (b :: t) by unfold cntM; rw [List.countP_cons_of_pos (by simp [toList_inj c])]; omega] at this
   exact Ev.iteT c this
  ·have := ih (i + 1) n ht (by omega) (by omega)
   rw [show n + cntM s t = n + cntM s (b :: t) by unfold cntM; rw [List.countP_cons_of_neg (by simp; exact fun e => c (by rw [e]))]] at this
   exact Ev.iteF c this
theorem count_ev (l : List S33) (s : ByteArray) (hl : l.length ≤ 4194304) : Ev (fun k => spec_countMethod.f k l s) ((cntM s l : Nat) : Int) := by
 have h := count_loop l s hl l 0 0 rfl (Nat.zero_le _) (Nat.le_refl _)
 rw [Nat.zero_add] at h
 exact h
def ends (rs : List S44) (a : List Int) (d t : List S33) : List Int × Bool := if t.all (hasR rs) = true then (a ++ playL rs d t, true) else ([], false)
theorem ends_cons (rs : List S44) (a : List Int) (d : List S33) (b : S33) (t : List S33) (h : 0 ≤ repV rs b.f0) : ends rs (a ++ [valV rs b.f0 (cntM b.f0 d)]) (d ++ [b]) t = ends rs a d (b :: t) := by
 unfold ends
 rw [List.all_cons, show hasR rs b = true from decide_eq_true h, Bool.true_and, playL, List.append_assoc, List.singleton_append]
theorem specPlay_loop (rs : List S44) (hr : RSzS rs) (hd : doubleS rs = true) (l : List S33) (hl : CSzS l) : ∀ (t : List S33) (i : Nat) (a : List Int), l.drop i = t → i ≤ l.length → a.length ≤ i →
  Ev (fun k => spec_PlayCalls.l0 k l a (i : Int) rs) (ends rs a (l.take i) t) := by
 have hlen := hl.len
 have hlen2 := hr.len
 intro t
 induction t with
 | nil =>
  intro i a h hi ha
  have hl2 := drop_nil h
  exact Ev.step (fun k => rfl) (Ev.iteF (by omega) (Ev.some_ (by simp [ends, playL])))
 | cons b t ih =>
  intro i a h hi ha
  obtain ⟨hl2, hb, ht⟩ := drop_cons h
  have htk : l.take (i + 1) = l.take i ++ [b] := by rw [List.take_succ_eq_append_getElem hl2, hb]
  refine Ev.step (fun k => rfl) (Ev.iteT (by omega) (Ev.iteT (by omega) ?_))
  rw [rdCall_nat _ _ hl2, hb, Int.toNat_natCast, wrapN (by omega)]
  refine Ev.bind (replyAt_ev rs b.f0 (by omega)) ?_
  change Ev (fun k => if repV rs b.f0 < 0 then _ else _) _
  by_cases c : repV rs b.f0 < 0
  ·exact Ev.iteT c (Ev.some_ (by unfold ends; rw [List.all_cons, show hasR rs b = false from decide_eq_false (by omega)]; rfl))
  ·have hn := cntM_le b.f0 l i
   obtain ⟨r1, r2, r3⟩ := rep_at rs hlen2 hd b.f0 (cntM b.f0 (l.take i)) (by omega) (by omega)
   have hnext := ih (i + 1) (a ++ [valV rs b.f0 (cntM b.f0 (l.take i))]) ht (by omega) (by simp; omega)
   rw [htk, ends_cons rs a _ b t (by omega)] at hnext
   exact Ev.iteF c (Ev.iteT (show 0 ≤ repV rs b.f0 by omega) (Ev.iteT r1 (Ev.iteT (by omega) (Ev.bind (count_ev (l.take i) b.f0 (by rw [List.length_take]; omega)) (Ev.iteT r2 (Ev.iteT r3 (Ev.iteT (by omega) hnext)))))))
theorem specPlay_ev (rs : List S44) (hr : RSzS rs) (l : List S33) (hl : CSzS l) : Ev (fun k => spec_PlayCalls.f k rs l) (playV rs l) := by
 unfold spec_PlayCalls.f playV
 refine Ev.bind (specDouble_ev rs hr) ?_
 by_cases c : doubleS rs = true
 ·refine Ev.iteT c (Ev.bind (validCallsS_ev l hl) ?_)
  refine Ev.step (fun k => by rw [spec_PlayCalls.j0]) ?_
  by_cases d : callsS l = true
  ·refine Ev.iteF (by simp [d]) ?_
   have h := specPlay_loop rs hr c l hl l 0 [] rfl (Nat.zero_le _) (Nat.le_refl _)
   unfold ends at h
   rw [List.take_zero, List.nil_append] at h
   simpa [c, d] using h
  ·rw [if_neg (fun h => d h.2.1)]
   exact Ev.iteT (by simpa using d) (Ev.some_ rfl)
 ·rw [if_neg (fun h => c h.1)]
  refine Ev.iteF c ?_
  refine Ev.step (fun k => by rw [spec_PlayCalls.j0]) ?_
  exact Ev.iteT rfl (Ev.some_ rfl)
theorem look_some (m : List (ByteArray × Int)) (s : ByteArray) (n : Int) (hs : s.size ≤ 4194304) (h : mget m s = n) : impl_mapLook.f m s = some n := by
 unfold impl_mapLook.f
 rw [if_pos (by omega), h]
theorem put_some (m : List (ByteArray × Int)) (s : ByteArray) (n : Int) (hs : s.size ≤ 4194304) (hm : m.length ≤ 4194304) : impl_mapPut.f m s n = some ((s, n) :: m) := by
 unfold impl_mapPut.f
 rw [if_pos ⟨by omega, by omega⟩]
theorem implPlay_loop (rs : List S44) (hr : RSzS rs) (hd : doubleS rs = true) (l : List S33) (hl : CSzS l) : ∀ (t : List S33) (i : Nat) (a : List Int) (m : List (ByteArray × Int)), l.drop i = t → i ≤ l.length → a.length ≤ i → m.length ≤ i → (∀ s, mget m s = (cntM s (l.take i) : Nat)) →
  Ev (fun k => impl_PlayCalls.l0 k a m l (l.length : Int) (i : Int) rs) (ends rs a (l.take i) t) := by
 have hlen := hl.len
 have hlen2 := hr.len
 intro t
 induction t with
 | nil =>
  intro i a m h hi ha hm hg
  have hl2 := drop_nil h
  exact Ev.step (fun k => rfl) (Ev.iteF (by omega) (Ev.some_ (by simp [ends, playL])))
 | cons b t ih =>
  intro i a m h hi ha hm hg
  obtain ⟨hl2, hb, ht⟩ := drop_cons h
  have hz : CSz b := hl.one b (hb ▸ List.getElem_mem hl2)
  have h0 := hz.s0
  have htk : l.take (i + 1) = l.take i ++ [b] := by rw [List.take_succ_eq_append_getElem hl2, hb]
  refine Ev.step (fun k => rfl) (Ev.iteT (by omega) (Ev.iteT (by omega) (Ev.iteT (by omega) ?_)))
  rw [rdCall_nat _ _ hl2, hb, wrapN (by omega)]
  refine Ev.bind0 (show impl_replyPred.f rs b.f0 b.f1 = some (repV rs b.f0) from rfl) ?_
  by_cases c : repV rs b.f0 < 0
  ·exact Ev.iteT c (Ev.some_ (by unfold ends; rw [List.all_cons, show hasR rs b = false from decide_eq_false (by omega)]; rfl))
  ·have hn := cntM_le b.f0 l i
   obtain ⟨r1, r2, r3⟩ := rep_at rs hlen2 hd b.f0 (cntM b.f0 (l.take i)) (by omega) (by omega)
   have hnext := ih (i + 1) (a ++ [valV rs b.f0 (cntM b.f0 (l.take i))]) ((b.f0, wrap64 (((cntM b.f0 (l.take i) : Nat) : Int) + 1)) :: m) ht (by omega) (by simp; omega) (by simp; omega) (fun s => by
    rw [cntM_take s l i hl2, hb, mget, wrapN (by omega)]
    by_cases e : b.f0.toList = s.toList
    ·have e2 := toList_inj e
     subst e2
     rw [if_pos e, if_pos rfl]
    ·rw [if_neg e, if_neg (fun q => e (by rw [q])), hg s, Nat.add_zero])
   rw [htk, ends_cons rs a _ b t (by omega)] at hnext
   have hlk := look_some m b.f0 _ h0 (hg b.f0)
   have hput := put_some m b.f0 (wrap64 (((cntM b.f0 (l.take i) : Nat) : Int) + 1)) h0 (by omega)
   exact Ev.iteF c (Ev.iteT (by omega) (Ev.iteT r1 (Ev.bind0 hlk (Ev.iteT r2 (Ev.iteT r3 (Ev.iteT (by omega) (Ev.bind0 hlk (Ev.bind0 hput hnext))))))))
theorem implPlay_ev (rs : List S44) (hr : RSzS rs) (l : List S33) (hl : CSzS l) : Ev (fun k => impl_PlayCalls.f k rs l) (playV rs l) := by
 unfold impl_PlayCalls.f playV
 refine Ev.bind (implDouble_ev rs hr) ?_
 by_cases c : doubleS rs = true
 ·refine Ev.iteT c (Ev.bind (validCallsI_ev l hl) ?_)
  refine Ev.step (fun k => by rw [impl_PlayCalls.j0]) ?_
  by_cases d : callsS l = true
  ·refine Ev.iteF (by simp [d]) ?_
   have h := implPlay_loop rs hr c l hl l 0 [] [] rfl (Nat.zero_le _) (Nat.le_refl _) (Nat.le_refl _) (fun s => rfl)
   unfold ends at h
   rw [List.take_zero, List.nil_append] at h
   simpa [c, d] using h
  ·rw [if_neg (fun h => d h.2.1)]
   exact Ev.iteT (by simpa using d) (Ev.some_ rfl)
 ·rw [if_neg (fun h => c h.1)]
  refine Ev.iteF c ?_
  refine Ev.step (fun k => by rw [impl_PlayCalls.j0]) ?_
  exact Ev.iteT rfl (Ev.some_ rfl)
structure SmallDouble (l : List S44) : Prop where
 len : l.length ≤ 1000
 one : ∀ c ∈ l, c.f0.size ≤ 1000 ∧ c.f1.length ≤ 1000
theorem SmallDouble.sizes {l : List S44} (h : SmallDouble l) : RSzS l := ⟨by have := h.len; omega, fun c hc => by have := h.one c hc; exact ⟨by omega, by omega⟩⟩
theorem goodDouble_l1 {b : List Int} (hb : Code_ b) (x4 : List ByteArray) (x5 x6 : Int) (L : List S44) (hL : L.length ≤ 100) (s : ByteArray) : ∀ (n : Nat) (a : List Int) (p : Int), a.length + n ≤ 100 → 0 ≤ p → p + n ≤ 1000000 →
  ∃ m, m.length = a.length + n ∧ ∀ r, Ev (fun k => spec_goodDouble.l0 k x4 x5 (wrap64 (x6 + 1)) b (p + n) (L ++ [(⟨s, m⟩ : S44)])) r → Ev (fun k => spec_goodDouble.l1 k x4 x5 x6 (n : Int) b p L s a) r := by
 intro n
 induction n with
 | zero =>
  intro a p hl h0 h1
  refine ⟨a, rfl, fun r h => Ev.step (fun k => rfl) (Ev.iteF (by omega) (Ev.iteT (by omega) ?_))⟩
  simpa using h
 | succ n ih =>
  intro a p hl h0 h1
  obtain ⟨y, hy, he⟩ := one_ev hb p h0 (by omega) [1, 2, 3, 0, (-1), 99] (by decide) (by decide)
  obtain ⟨m, hm, hgo⟩ := ih (a ++ [y]) (p + 1) (by simp; omega) (by omega) (by omega)
  refine ⟨m, by rw [hm]; simp; omega, fun r h => Ev.step (fun k => rfl) (Ev.iteT (by omega) (Ev.bind he (Ev.iteT (by omega) ?_)))⟩
  rw [predN (by omega)]
  rw [show p + ((n + 1 : Nat) : Int) = p + 1 + n by omega] at h
  exact hgo r h
theorem goodDouble_l0 {b : List Int} (hb : Code_ b) (x4 : List ByteArray) (hx : ∀ x ∈ x4, x.size ≤ 1000) (n : Nat) (hn : n ≤ x4.length) (hn4 : n ≤ 4) : ∀ (d i : Nat) (L : List S44) (p : Int), i + d = n → L.length ≤ i → (∀ c ∈ L, c.f0.size ≤ 1000 ∧ c.f1.length ≤ 1000 ∧ 1 ≤ c.f1.length) → 0 ≤ p → p + 5 * d ≤ 900000 →
  ∃ m q, Ev (fun k => spec_goodDouble.l0 k x4 (n : Int) (i : Int) b p L) (m, q) ∧ m.length ≤ 100 ∧ (∀ c ∈ m, c.f0.size ≤ 1000 ∧ c.f1.length ≤ 1000 ∧ 1 ≤ c.f1.length) ∧ 0 ≤ q ∧ q ≤ p + 5 * d := by
 intro d
 induction d with
 | zero =>
  intro i L p hi hL hz h0 h1
  exact ⟨L, p, Ev.step (fun k => rfl) (Ev.iteF (by omega) (Ev.some_ rfl)), by omega, hz, h0, by omega⟩
 | succ d ih =>
  intro i L p hi hL hz h0 h1
  obtain ⟨y, hy, he⟩ := one_ev hb p h0 (by omega) [1, 2, 3, 4] (by decide) (by decide)
  have hy2 : 1 ≤ y ∧ y ≤ 4 := by
   simp only [List.mem_cons, List.not_mem_nil, or_false] at hy
   omega
  obtain ⟨c, rfl⟩ := Int.eq_ofNat_of_zero_le (show 0 ≤ y by omega)
  obtain ⟨m1, hm1, hgo⟩ := goodDouble_l1 hb x4 (n : Int) (i : Int) L (by omega) (rdOf ByteArray.empty x4 (i : Int)) c [] (p + 1) (by simp; omega) (by omega) (by omega)
  rw [List.length_nil, Nat.zero_add] at hm1
  have hs : (rdOf ByteArray.empty x4 (i : Int)).size ≤ 1000 := by
   rw [rdOf_nat _ _ i (by omega)]
   exact hx _ (List.getElem_mem _)
  obtain ⟨m, q, hm, g1, g2, g3, g4⟩ := ih (i + 1) (L ++ [(⟨rdOf ByteArray.empty x4 (i : Int), m1⟩ : S44)]) (p + 1 + c) (by omega) (by simp; omega) (fun x hx2 => by
   rcases List.mem_append.1 hx2 with hx2 | hx2
   ·exact hz x hx2
   ·rw [List.mem_singleton.1 hx2]; exact ⟨hs, show m1.length ≤ 1000 by omega, show 1 ≤ m1.length by omega⟩) (by omega) (by omega)
  refine ⟨m, q, Ev.step (fun k => rfl) (Ev.iteT (by omega) (Ev.iteT (by omega) (Ev.iteT (by omega) (Ev.bind he (hgo _ ?_))))), g1, g2, g3, by omega⟩
  rw [wrapN (by omega)]
  exact hm
theorem goodDouble_ev {b : List Int} (hb : Code_ b) (p : Int) (h0 : 0 ≤ p) (h1 : p ≤ 700000) :
  ∃ m q, Ev (fun k => spec_goodDouble.f k b p) (m, q) ∧ m.length ≤ 100 ∧ (∀ c ∈ m, c.f0.size ≤ 1000 ∧ c.f1.length ≤ 1000 ∧ 1 ≤ c.f1.length) ∧ 0 ≤ q ∧ q ≤ p + 100 := by
 obtain ⟨y, hy, he⟩ := one_ev hb p h0 (by omega) [2, 3, 1, 4, 0] (by decide) (by decide)
 have hy2 : 0 ≤ y ∧ y ≤ 4 := by
  simp only [List.mem_cons, List.not_mem_nil, or_false] at hy
  omega
 obtain ⟨n, rfl⟩ := Int.eq_ofNat_of_zero_le hy2.1
 obtain ⟨m, q, hm, g1, g2, g3, g4⟩ := goodDouble_l0 hb ([(⟨#[103, 101, 116]⟩ : ByteArray), (⟨#[112, 117, 116]⟩ : ByteArray), (⟨#[100, 101, 108]⟩ : ByteArray), (⟨#[112, 105, 110, 103]⟩ : ByteArray)]) (by
  intro x hx
  simp only [List.mem_cons, List.not_mem_nil, or_false] at hx
  rcases hx with rfl | rfl | rfl | rfl <;> (show _ ≤ 1000; decide)) n (by simp; omega) (by omega) n 0 [] (p + 1) (by omega) (by simp) (fun c hc => by cases hc) (by omega) (by omega)
 exact ⟨m, q, Ev.bind he hm, g1, g2, g3, by omega⟩
theorem someDouble_ev {b : List Int} (hb : Code_ b) (p : Int) (h0 : 0 ≤ p) (h1 : p ≤ 600000) :
  ∃ m q, Ev (fun k => spec_someDouble.f k b p) (m, q) ∧ SmallDouble m ∧ 0 ≤ q ∧ q ≤ p + 200 := by
 obtain ⟨m, q, hm, g1, g2, g3, g4⟩ := goodDouble_ev hb p h0 (by omega)
 have hset : ∀ (n : Nat) (x : S44), x.f0.size ≤ 1000 ∧ x.f1.length ≤ 1000 → SmallDouble (m.set n x) := fun n x hx => ⟨by rw [List.length_set]; omega, fun c hc => by
  rcases List.mem_or_eq_of_mem_set hc with hc | rfl
  ·exact ⟨(g2 c hc).1, (g2 c hc).2.1⟩
  ·exact hx⟩
 by_cases c : (m.length : Int) > 0
 ·obtain ⟨j, hj, j0, j1⟩ := pick_ev hb q (m.length : Int) g3 (by omega) (by omega)
  obtain ⟨v, hv, v0, v1⟩ := pick_ev hb (q + 1) 20 (by omega) (by omega) (by omega)
  have j2 := j1 (by omega)
  obtain ⟨n, rfl⟩ := Int.eq_ofNat_of_zero_le j0
  have hn : n < m.length := by omega
  have hz := g2 _ (List.getElem_mem hn)
  have er : rd_T44 m (n : Int) = m[n] := rdReply_nat m n hn
  by_cases c0 : v = 0
  ·exact ⟨_, _, Ev.bind hm (Ev.iteT c (Ev.bind hj (Ev.bind hv (Ev.iteT c0 (Ev.iteT (by omega) (Ev.iteT (by omega) (Ev.some_ rfl))))))), hset _ _ ⟨by rw [er]; exact hz.1, by simp⟩, by omega, by omega⟩
  ·by_cases c1 : v = 1
   ·obtain ⟨s, hs, he⟩ := of_ev hb (q + 1 + 1) (by omega) (by omega) [(⟨#[103, 101, 116]⟩ : ByteArray), (⟨#[88]⟩ : ByteArray)] (by decide) (by decide)
    have hs2 : s.size ≤ 1000 := by
     simp only [List.mem_cons, List.not_mem_nil, or_false] at hs
     rcases hs with rfl | rfl <;> (show _ ≤ 1000; decide)
    exact ⟨_, _, Ev.bind hm (Ev.iteT c (Ev.bind hj (Ev.bind hv (Ev.iteF c0 (Ev.iteT c1 (Ev.bind he (Ev.iteT (by omega) (Ev.iteT (by omega) (Ev.some_ rfl))))))))), hset _ _ ⟨hs2, by rw [er]; exact hz.2.1⟩, by omega, by omega⟩
   ·by_cases c2 : v = 2
    ·exact ⟨_, _, Ev.bind hm (Ev.iteT c (Ev.bind hj (Ev.bind hv (Ev.iteF c0 (Ev.iteF c1 (Ev.iteT c2 (Ev.iteT (by omega) (Ev.iteT (by omega) (Ev.iteT (by rw [er]; have := hz.2.2; omega) (Ev.some_ rfl)))))))))), hset _ _ ⟨by rw [er]; exact hz.1, by rw [er, List.length_set]; exact hz.2.1⟩, by omega, by omega⟩
    ·exact ⟨_, _, Ev.bind hm (Ev.iteT c (Ev.bind hj (Ev.bind hv (Ev.iteF c0 (Ev.iteF c1 (Ev.iteF c2 (Ev.some_ rfl))))))), ⟨show m.length ≤ 1000 by omega, fun c hc => ⟨(g2 c hc).1, (g2 c hc).2.1⟩⟩, by omega, by omega⟩
 ·exact ⟨m, q, Ev.bind hm (Ev.iteF c (Ev.some_ rfl)), ⟨by omega, fun c hc => ⟨(g2 c hc).1, (g2 c hc).2.1⟩⟩, g3, by omega⟩
theorem drawPlay_ev (c : List Int) (h : ∀ x ∈ c, 0 ≤ x ∧ x ≤ 255) : ∃ rs l, Ev (fun k => spec_DrawPlayCalls.f k c) (rs, l) ∧ SmallDouble rs ∧ SmallCalls l := by
 obtain ⟨b, hb, hb2⟩ := newReader_ev c h
 obtain ⟨rs, q, hr, hs, q0, q1⟩ := someDouble_ev hb2 0 (by omega) (by omega)
 obtain ⟨l, q2, hl, hs2, _, _⟩ := someCalls_ev hb2 q q0 (by omega)
 refine ⟨rs, l, ?_, hs, hs2⟩
 unfold spec_DrawPlayCalls.f
 exact Ev.bind0 hb (Ev.bind hr (Ev.bind hl (Ev.some_ rfl)))
theorem playL_append (rs : List S44) : ∀ (a d b : List S33), playL rs d (a ++ b) = playL rs d a ++ playL rs (d ++ a) b
 | [], d, b => by rw [List.nil_append, playL, List.nil_append, List.append_nil]
 | c :: t, d, b => by
  rw [List.cons_append, playL, playL, List.cons_append, playL_append rs t (d ++ [c]) b, List.append_assoc, List.singleton_append]
theorem playL_take (rs : List S44) (l : List S33) (i : Nat) (hi : i ≤ l.length) : playL rs [] (l.take i) = (playL rs [] l).take i := by
 have h := playL_append rs (l.take i) [] (l.drop i)
 rw [List.take_append_drop] at h
 have hl : (playL rs [] (l.take i)).length = i := by rw [playL_length, List.length_take]; omega
 rw [h]
 exact (List.take_left' hl).symm
def sel (s : ByteArray) : List S33 → List Int → List Int
 | c :: t, v :: r => if c.f0 = s then v :: sel s t r else sel s t r
 | _, _ => []
theorem sel_length (s : ByteArray) : ∀ t r, (sel s t r).length ≤ t.length
 | [], _ => by simp [sel]
 | _ :: _, [] => by simp [sel]
 | c :: t, v :: r => by
  have := sel_length s t r
  unfold sel
  split <;> simp <;> omega
theorem playL_sel (rs : List S44) (s : ByteArray) : ∀ (t d e : List S33), cntM s e = cntM s d → playL rs e (t.filter fun c => decide (c.f0 = s)) = sel s t (playL rs d t)
 | [], d, e, _ => rfl
 | c :: t, d, e, h => by
  by_cases q : c.f0 = s
  ·rw [List.filter_cons_of_pos (by simp [q]), playL, playL, sel, if_pos q]
   subst q
   rw [h, playL_sel rs c.f0 t (d ++ [c]) (e ++ [c]) (by unfold cntM at *; rw [List.countP_append, List.countP_append, h])]
  ·rw [List.filter_cons_of_neg (by simp [q]), playL, sel, if_neg q]
   exact playL_sel rs s t (d ++ [c]) e (by unfold cntM at *; rw [List.countP_append, h, List.countP_singleton, if_neg (by simp [q]), Nat.add_zero])
theorem callsS_take (l : List S33) (h : callsS l = true) (i : Nat) : callsS (l.take i) = true := by
 unfold callsS at h ⊢
 simp only [Bool.and_eq_true, decide_eq_true_eq, List.all_eq_true] at h ⊢
 refine ⟨fun c hc => h.1 c (List.mem_of_mem_take hc), ?_⟩
 rw [List.length_take]
 omega
theorem callsS_filt (p : S33 → Bool) (l : List S33) (h : callsS l = true) : callsS (l.filter p) = true := by
 unfold callsS at h ⊢
 simp only [Bool.and_eq_true, decide_eq_true_eq, List.all_eq_true] at h ⊢
 refine ⟨fun c hc => h.1 c ((List.mem_filter.1 hc).1), ?_⟩
 have := List.length_filter_le p l
 omega
theorem callsOf_loop (s : ByteArray) (l : List S33) (hl : CSzS l) : ∀ (t : List S33) (i : Nat) (a : List S33), l.drop i = t → i ≤ l.length → a.length ≤ i →
  Ev (fun k => impl_CallsOf.l0 k s a l (l.length : Int) (i : Int)) (a ++ t.filter fun c => decide (c.f0 = s)) := by
 have hlen := hl.len
 intro t
 induction t with
 | nil =>
  intro i a h hi ha
  have hl2 := drop_nil h
  exact Ev.step (fun k => rfl) (Ev.iteF (by omega) (Ev.some_ (by simp)))
 | cons b t ih =>
  intro i a h hi ha
  obtain ⟨hl2, hb, ht⟩ := drop_cons h
  have hz := (hl.one b (hb ▸ List.getElem_mem hl2)).s1
  refine Ev.step (fun k => rfl) (Ev.iteT (by omega) (Ev.iteT (by omega) (Ev.iteT (by omega) ?_)))
  rw [rdCall_nat _ _ hl2, hb, wrapN (by omega)]
  by_cases c : b.f0.toList = s.toList
  ·refine Ev.iteT c (Ev.bind0 (clone_eq b.f1 (by omega)) (Ev.iteT (by omega) ?_))
   rw [List.filter_cons_of_pos (by simp [toList_inj c])]
   have := ih (i + 1) (a ++ [b]) ht (by omega) (by simp; omega)
   rw [List.append_assoc] at this
   exact this
  ·refine Ev.iteF c ?_
   rw [List.filter_cons_of_neg (by simp; exact fun e => c (by rw [e]))]
   exact ih (i + 1) a ht (by omega) (by omega)
theorem callsOf_ev (s : ByteArray) (l : List S33) (hl : CSzS l) (hc : callsS l = true) : Ev (fun k => impl_CallsOf.f k l s) (l.filter fun c => decide (c.f0 = s)) := by
 have h := callsOf_loop s l hl l 0 [] rfl (Nat.zero_le _) (Nat.le_refl _)
 rw [List.nil_append] at h
 have hv := validCallsI_ev l hl
 rw [hc] at hv
 unfold impl_CallsOf.f
 exact Ev.bind hv (Ev.iteT rfl h)
theorem play_true (rs : List S44) (l : List S33) (h1 : doubleS rs = true) (h2 : callsS l = true) (h3 : l.all (hasR rs) = true) : playV rs l = (playL rs [] l, true) := by
 unfold playV
 rw [if_pos ⟨h1, h2, h3⟩]
theorem law_l2 (l : List S33) (out : List Int) (rs : List S44) (j : Nat) (hj : j < rs.length) (ho : out.length = l.length) (hl : l.length ≤ 1000) (hrl : rs.length ≤ 1000) (r : Bool)
  (hc : Ev (fun k => (impl_CallsOf.f k l (rs[j]).f0).bind fun t361 => (impl_PlayCalls.f k rs t361).bind fun bt364 => if bt364.2 = true then (laws_equalInts.f k bt364.1 (sel (rs[j]).f0 l out)).bind fun t368 => if t368 = true then laws_FnPlayCalls.l1 k l out ((j + 1 : Nat) : Int) rs else some false else some false) r) : ∀ (t : List S33) (i : Nat) (a : List Int), l.drop i = t → i ≤ l.length → a.length ≤ i → a ++ sel (rs[j]).f0 t (out.drop i) = sel (rs[j]).f0 l out →
  Ev (fun k => laws_FnPlayCalls.l2 k l out (j : Int) a (i : Int) rs) r := by
 intro t
 induction t with
 | nil =>
  intro i a h hi ha he
  have hl2 := drop_nil h
  rw [show sel (rs[j]).f0 [] (out.drop i) = [] by simp [sel], List.append_nil] at he
  subst he
  refine Ev.step (fun k => rfl) (Ev.iteF (by omega) (Ev.iteT (by omega) (Ev.iteT (by omega) ?_)))
  rw [rdReply_nat _ _ hj, wrapN (by omega)]
  exact hc
 | cons b t ih =>
  intro i a h hi ha he
  obtain ⟨hl2, hb, ht⟩ := drop_cons h
  have ho2 : i < out.length := by omega
  rw [List.drop_eq_getElem_cons ho2, sel] at he
  refine Ev.step (fun k => rfl) (Ev.iteT (by omega) (Ev.iteT (by omega) (Ev.iteT (by omega) (Ev.iteT (by omega) ?_))))
  rw [rdCall_nat _ _ hl2, hb, rdReply_nat _ _ hj, rd_nat _ _ ho2, wrapN (by omega)]
  by_cases c : b.f0.toList = (rs[j]).f0.toList
  ·rw [if_pos (toList_inj c)] at he
   refine Ev.iteT c (Ev.iteT (by omega) (Ev.iteT (by omega) (ih (i + 1) (a ++ [out[i]]) ht (by omega) (by simp; omega) ?_)))
   rw [List.append_assoc]
   exact he
  ·rw [if_neg (fun e => c (by rw [e]))] at he
   exact Ev.iteF c (ih (i + 1) a ht (by omega) (by omega) he)
theorem law_l1 (l : List S33) (hl : SmallCalls l) (rs : List S44) (hr : SmallDouble rs) (h1 : doubleS rs = true) (h2 : callsS l = true) (h3 : l.all (hasR rs) = true) : ∀ (d j : Nat), j + d = rs.length → Ev (fun k => laws_FnPlayCalls.l1 k l (playL rs [] l) (j : Int) rs) true := by
 have hrl := hr.len
 have hll := hl.len
 have ho := playL_length rs l []
 intro d
 induction d with
 | zero =>
  intro j hj
  exact Ev.step (fun k => rfl) (Ev.iteF (by omega) (Ev.some_ rfl))
 | succ d ih =>
  intro j hj
  have hj2 : j < rs.length := by omega
  refine Ev.step (fun k => rfl) (Ev.iteT (by omega) ?_)
  refine law_l2 l _ rs j hj2 ho hll hrl true ?_ l 0 [] rfl (Nat.zero_le _) (Nat.le_refl _) (by simp)
  have hf : CSzS (l.filter fun c => decide (c.f0 = (rs[j]).f0)) := ⟨by have := List.length_filter_le (fun c : S33 => decide (c.f0 = (rs[j]).f0)) l; omega, fun c hc => hl.sizes.one c ((List.mem_filter.1 hc).1)⟩
  have hp := implPlay_ev rs hr.sizes _ hf
  rw [play_true rs _ h1 (callsS_filt _ l h2) (by rw [List.all_eq_true] at h3 ⊢; exact fun c hc => h3 c ((List.mem_filter.1 hc).1)), playL_sel rs (rs[j]).f0 l [] [] rfl] at hp
  have hsl := sel_length (rs[j]).f0 l (playL rs [] l)
  exact Ev.bind (callsOf_ev (rs[j]).f0 l hl.sizes h2) (Ev.bind hp (Ev.iteT rfl (Ev.bind (equalIntsR_ev _ (show (sel (rs[j]).f0 l (playL rs [] l)).length ≤ 4611686018427387903 by omega)) (Ev.iteT rfl (ih (j + 1) (by omega))))))
theorem law_l0 (l : List S33) (hl : SmallCalls l) (rs : List S44) (hr : SmallDouble rs) (h1 : doubleS rs = true) (h2 : callsS l = true) (h3 : l.all (hasR rs) = true) : ∀ (d i : Nat), i + d = l.length + 1 → Ev (fun k => laws_FnPlayCalls.l0 k l (playL rs [] l) (i : Int) rs) true := by
 have hrl := hr.len
 have hll := hl.len
 have ho := playL_length rs l []
 intro d
 induction d with
 | zero =>
  intro i hi
  exact Ev.step (fun k => rfl) (Ev.iteF (by omega) (law_l1 l hl rs hr h1 h2 h3 rs.length 0 (by omega)))
 | succ d ih =>
  intro i hi
  have hf : CSzS (l.take i) := ⟨by rw [List.length_take]; omega, fun c hc => hl.sizes.one c (List.mem_of_mem_take hc)⟩
  have hp := implPlay_ev rs hr.sizes _ hf
  rw [play_true rs _ h1 (callsS_take l h2 i) (by rw [List.all_eq_true] at h3 ⊢; exact fun c hc => h3 c (List.mem_of_mem_take hc)), playL_take rs l i (by omega)] at hp
  refine Ev.step (fun k => rfl) (Ev.iteT (by omega) (Ev.iteT (by omega) ?_))
  rw [Int.toNat_natCast, wrapN (by omega)]
  exact Ev.bind hp (Ev.iteT rfl (Ev.iteT (by omega) (Ev.bind (equalIntsR_ev _ (by rw [List.length_take]; omega)) (Ev.iteT rfl (ih (i + 1) (by omega))))))
end Go.Proofs.Ytcbkpdgbijdbbaa.M
