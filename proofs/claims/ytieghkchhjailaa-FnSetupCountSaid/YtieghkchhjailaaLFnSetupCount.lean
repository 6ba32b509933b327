/- Plain laws, without Go, that the law FnSetupCount leans on. No condition. -/
import Derived.Test.YtieghkchhjailaaSx0
import Derived.Test.YtieghkchhjailaaSx1
import Derived.Test.YtieghkchhjailaaSx2
import Derived.Test.YtieghkchhjailaaSx3
import Derived.Test.YtieghkchhjailaaSx4
import Derived.Test.YtieghkchhjailaaSx5
import Derived.Test.YtieghkchhjailaaSx6
import Derived.Test.YtieghkchhjailaaSx7
import Derived.Test.YtieghkchhjailaaSx8
import Derived.Test.YtieghkchhjailaaSx9
import Derived.Test.YtieghkchhjailaaSx10
import Derived.Test.YtieghkchhjailaaSx11
import Derived.Test.YtieghkchhjailaaSx12
import Derived.Test.YtieghkchhjailaaSx13
import Derived.Test.YtieghkchhjailaaSx14
import Derived.Test.YtieghkchhjailaaSx15
import Derived.Test.YtieghkchhjailaaSx16
import Derived.Test.YtieghkchhjailaaSx18
import Derived.Test.YtieghkchhjailaaSx22
import Derived.Test.YtieghkchhjailaaSwMore
import Derived.IntWalk
import Derived.Laws.BitsLemmas
import Derived.Lib.Bytealg
import Derived.Lib.Strings
import Derived.Sort.Walk0
set_option linter.unusedSimpArgs false
set_option linter.unusedVariables false
namespace Go.Proofs.Ytieghkchhjailaa.S
open Go.RowKit Go.Proofs.YtieghkchhjailaaW.PrintWords Go.Proofs.YtieghkchhjailaaW.PrintLast Go.Proofs.YtieghkchhjailaaW.PrintMore
theorem Ev.iteT {α : Type} {c : Prop} [Decidable c] {g f : Nat → Option α} {r : α} (h : c) (k : Ev g r) : Ev (fun n => if c then g n else f n) r := by
 simpa only [if_pos h] using k
theorem Ev.iteF {α : Type} {c : Prop} [Decidable c] {g f : Nat → Option α} {r : α} (h : ¬ c) (k : Ev f r) : Ev (fun n => if c then g n else f n) r := by
 simpa only [if_neg h] using k
/-- A callee without rounds. -/
theorem Ev.bind0 {α β : Type} {g : Option α} {f : Nat → α → Option β} {a : α} {r : β} (h : g = some a) (k : Ev (fun n => f n a) r) : Ev (fun n => g.bind (f n)) r := by
 subst h
 simpa only [Option.bind_some] using k
theorem Ev.some_ {α : Type} {x r : α} (h : x = r) : Ev (fun _ => some x) r := ⟨0, fun _ _ => by rw [h]⟩
theorem Ev.bool {b r : Bool} (h : b = r) : Ev (fun _ => some b) r := Ev.some_ h
theorem wrapN {i : Nat} (h : i < 4611686018427387904) : wrap64 ((i : Int) + 1) = ((i + 1 : Nat) : Int) := by
 unfold wrap64
 omega
theorem wrapI {x : Int} (h : -9223372036854775808 ≤ x ∧ x ≤ 9223372036854775807) : wrap64 x = x := by
 unfold wrap64
 omega
theorem rdOf_nat {α : Type} (d : α) (l : List α) (i : Nat) (h : i < l.length) : rdOf d l (i : Int) = l[i] := by
 simp [rdOf, List.getD_eq_getElem?_getD, List.getElem?_eq_getElem h]
theorem rd_nat (l : List Int) (i : Nat) (h : i < l.length) : rd l (i : Int) = l[i] := by
 simp [rd, List.getD_eq_getElem?_getD, List.getElem?_eq_getElem h]
theorem getD_nat {α : Type} (d : α) (l : List α) (i : Nat) (h : i < l.length) : l.getD (i : Int).toNat d = l[i] := by
 simp [List.getD_eq_getElem?_getD, List.getElem?_eq_getElem h]
theorem size_list (s : ByteArray) : s.data.toList.length = s.size := by rw [Array.length_toList]; rfl
theorem bt_nat (s : ByteArray) (i : Nat) (h : i < s.data.toList.length) : bt s (i : Int) = ((s.data.toList[i]).toNat : Int) := by
 have h' : i < s.size := by rw [← size_list]; exact h
 unfold bt
 rw [dif_pos (by simpa using h')]
 rfl
/-- A list seen from place i on. -/
theorem drop_cons {α : Type} {l : List α} {i : Nat} {b : α} {t : List α} (h : l.drop i = b :: t) : ∃ hi : i < l.length, l[i] = b ∧ l.drop (i + 1) = t := by
 have hi : i < l.length := by
  rcases Nat.lt_or_ge i l.length with h1 | h1
  ·exact h1
  ·rw [List.drop_of_length_le h1] at h
   cases h
 refine ⟨hi, ?_, ?_⟩
 ·rw [List.drop_eq_getElem_cons hi] at h
  exact (List.cons.inj h).1
 ·rw [List.drop_eq_getElem_cons hi] at h
  exact (List.cons.inj h).2
theorem drop_nil {α : Type} {l : List α} {i : Nat} (h : l.drop i = []) : l.length ≤ i := by
 have := congrArg List.length h
 rw [List.length_drop] at this
 simpa using Nat.sub_eq_zero_iff_le.1 this
theorem toList_inj {a b : ByteArray} (h : a.toList = b.toList) : a = b := by
 rw [Lib.toList_data, Lib.toList_data] at h
 cases a with
 | mk x => cases b with
  | mk y =>
   have : x = y := Array.ext' h
   rw [this]
theorem toList_iff {a b : ByteArray} : a.toList = b.toList ↔ a = b := ⟨toList_inj, fun h => by rw [h]⟩
def lowB (b : UInt8) : Bool := decide (97 ≤ (b.toNat : Int)) && decide ((b.toNat : Int) ≤ 122)
/-- What is asked of a name behind its letters. -/
def nameEnd (s : ByteArray) : Bool := decide (1 ≤ s.size) && (decide (s.size ≤ 6) && (s.toList != ([97, 110, 100] : List UInt8) && (s.toList != ([111, 114] : List UInt8) && s.toList != ([110, 111, 116] : List UInt8))))
def nameS (s : ByteArray) : Bool := s.data.toList.all lowB && nameEnd s
theorem inRange_ev (a b c : Int) : spec_inRange.f a b c = some (decide (b ≤ a ∧ a ≤ c)) := by
 unfold spec_inRange.f
 by_cases h : b ≤ a
 ·rw [if_pos h]
  simp [h]
 ·rw [if_neg h]
  simp [h]
theorem validName_loop (s : ByteArray) (hs : s.size ≤ 4611686018427387903) : ∀ (t : List UInt8) (i : Nat), s.data.toList.drop i = t → i ≤ s.size →
  Ev (fun k => spec_validName.l0 k s (i : Int)) (t.all lowB && nameEnd s) := by
 intro t
 induction t with
 | nil =>
  intro i h hi
  have hl := drop_nil h
  rw [size_list] at hl
  refine Ev.step (fun k => rfl) (Ev.iteF (by omega) (Ev.bind0 (inRange_ev _ _ _) ?_))
  simp only [List.all_nil, Bool.true_and]
  unfold nameEnd
  by_cases h1 : 1 ≤ s.size
  ·by_cases h2 : s.size ≤ 6
   ·refine Ev.iteT (by simp; omega) ?_
    by_cases h3 : s.toList = ([97, 110, 100] : List UInt8)
    ·exact Ev.iteT h3 (Ev.bool (by simp [h3]))
    ·refine Ev.iteF h3 ?_
     by_cases h4 : s.toList = ([111, 114] : List UInt8)
     ·exact Ev.iteT h4 (Ev.bool (by simp [h4]))
     ·exact Ev.iteF h4 (Ev.bool (by simp [h1, h2, bne_iff_ne.2 h3, bne_iff_ne.2 h4]))
   ·exact Ev.iteF (by simp; omega) (Ev.bool (by simp [h2]))
  ·exact Ev.iteF (by simp; omega) (Ev.bool (by simp [h1]))
 | cons b t ih =>
  intro i h hi
  obtain ⟨hl, hb, ht⟩ := drop_cons h
  have hl' := hl
  rw [size_list] at hl'
  refine Ev.step (fun k => rfl) (Ev.iteT (by omega) (Ev.iteT (by omega) ?_))
  rw [bt_nat s i hl, hb]
  by_cases h1 : (b.toNat : Int) < 97
  ·exact Ev.iteT h1 (Ev.bool (by simp [lowB]; omega))
  ·refine Ev.iteF h1 ?_
   by_cases h2 : (b.toNat : Int) > 122
   ·exact Ev.iteT h2 (Ev.bool (by simp [lowB]; omega))
   ·refine Ev.iteF h2 ?_
    rw [wrapN (by omega)]
    have := ih (i + 1) ht (by omega)
    have e : lowB b = true := by simp [lowB]; omega
    simpa [List.all_cons, e] using this
theorem validName_ev (s : ByteArray) (hs : s.size ≤ 4611686018427387903) : Ev (fun k => spec_validName.f k s) (nameS s) :=
 validName_loop s hs _ 0 rfl (Nat.zero_le _)
def memB (l : List ByteArray) (x : ByteArray) : Bool := l.any fun y => decide (y = x)
theorem memB_iff {l : List ByteArray} {x : ByteArray} : memB l x = true ↔ x ∈ l := by
 simp [memB]
theorem memB_not {l : List ByteArray} {x : ByteArray} : memB l x = false ↔ x ∉ l := by
 rw [← memB_iff]
 simp
theorem nodup_take_succ {α : Type} (l : List α) (i : Nat) (h : i < l.length) : (l.take (i + 1)).Nodup ↔ (l.take i).Nodup ∧ l[i] ∉ l.take i := by
 rw [List.take_succ_eq_append_getElem h, List.nodup_append]
 simp only [List.nodup_cons, List.not_mem_nil, not_false_eq_true, List.nodup_nil, and_self, true_and, List.mem_singleton, forall_eq]
 exact ⟨fun ⟨a, b⟩ => ⟨a, fun hm => b _ hm rfl⟩, fun ⟨a, b⟩ => ⟨a, fun x hx e => b (e ▸ hx)⟩⟩
theorem nodup_of_take {α : Type} (l : List α) (i : Nat) (h : ¬ (l.take i).Nodup) : ¬ l.Nodup := fun hn => h (hn.sublist (List.take_sublist _ _))
/-- All in a list are of a size that numbers hold. -/
def SizesOk (l : List ByteArray) : Prop := ∀ x ∈ l, x.size ≤ 4611686018427387903
theorem xor_nat (a b : Nat) (ha : a < 2 ^ 62) (hb : b < 2 ^ 62) : bits .xor .i64 a b = ((a ^^^ b : Nat) : Int) := by
 have hk : IntKind.i64.bits = 64 := rfl
 have ha' : a % 2 ^ 64 = a := Nat.mod_eq_of_lt (by omega)
 have hb' : b % 2 ^ 64 = b := Nat.mod_eq_of_lt (by omega)
 have hx := Nat.xor_lt_two_pow ha hb
 simp only [bits, hk, BitVec.ofInt_natCast, BitVec.toNat_xor, BitVec.toNat_ofNat, ha', hb']
 rw [IntKind.wrap_i64]
 omega
theorem xor_nonneg (a b : Int) (ha : 0 ≤ a) (ha' : a < 4611686018427387904) (hb : 0 ≤ b) (hb' : b < 4611686018427387904) : 0 ≤ bits .xor .i64 a b := by
 obtain ⟨x, rfl⟩ := Int.eq_ofNat_of_zero_le ha
 obtain ⟨y, rfl⟩ := Int.eq_ofNat_of_zero_le hb
 rw [xor_nat x y (by omega) (by omega)]
 omega
/-- A code: what a reader reads. -/
structure Code_ (b : List Int) : Prop where
 len : b.length ≤ 2000
 byte : ∀ x ∈ b, 0 ≤ x ∧ x ≤ 255
theorem Code_.at_ {b : List Int} (h : Code_ b) (i : Int) (h0 : 0 ≤ i) (h1 : i < b.length) : 0 ≤ rd b i ∧ rd b i ≤ 255 := by
 obtain ⟨j, rfl⟩ := Int.eq_ofNat_of_zero_le h0
 rw [rd_nat b j (by omega)]
 exact h.byte _ (List.getElem_mem _)
theorem Code_.nil : Code_ [] := ⟨by simp, by simp⟩
theorem newReader_ev (l : List Int) (h : ∀ x ∈ l, 0 ≤ x ∧ x ≤ 255) : ∃ b, spec_newReader.f l = some (b, 0) ∧ Code_ b := by
 unfold spec_newReader.f
 by_cases h1 : (l.length : Int) > 2000
 ·rw [if_pos h1, if_pos (by omega)]
  exact ⟨_, rfl, ⟨by rw [List.length_take]; omega, fun x hx => h x (List.mem_of_mem_take hx)⟩⟩
 ·rw [if_neg h1]
  exact ⟨_, rfl, ⟨by omega, h⟩⟩
theorem pick_ev {b : List Int} (hb : Code_ b) (p n : Int) (h0 : 0 ≤ p) (h1 : p ≤ 1099511627776) (hn : n ≤ 1099511627776) :
  ∃ v, Ev (fun k => spec_reader_pick.f k b p n) (v, p + 1) ∧ 0 ≤ v ∧ (1 ≤ n → v < n) := by
 have w1 : wrap64 (p + 1) = p + 1 := wrapI (by omega)
 have w0 : wrap64 (p + 1 - 1) = p := by rw [wrapI (by omega)]; omega
 have hl := hb.len
 unfold spec_reader_pick.f
 rw [w1]
 by_cases c1 : n < 1
 ·exact ⟨0, ⟨1, fun k hk => by obtain ⟨m, rfl⟩ : ∃ m, k = m + 1 := ⟨k - 1, by omega⟩; exact (if_pos c1).trans rfl⟩, by omega, by omega⟩
 ·simp only [if_neg c1]
  by_cases c2 : b.length = 0
  ·exact ⟨0, Ev.step (fun k => rfl) (Ev.iteT (by simp [c2]) (Ev.some_ rfl)), by omega, by omega⟩
  ·by_cases c3 : p < (b.length : Int)
   ·have ha := hb.at_ p h0 c3
    have w2 : wrap64 (rd b p) = rd b p := wrapI (by omega)
    refine ⟨Int.tmod (rd b p) n, Ev.step (fun k => rfl) (Ev.iteF (by simp only [beq_iff_eq]; omega) (Ev.iteT (by rw [w0]; exact c3) (Ev.iteT (by rw [w0]; exact h0) (Ev.iteF (by omega) (Ev.some_ ?_))))), Int.tmod_nonneg _ ha.1, fun _ => Int.tmod_lt_of_pos _ (by omega)⟩
    rw [w0, w2]
   ·have hL : (0 : Int) < b.length := by omega
    have t1 : 0 ≤ Int.tmod p b.length := Int.tmod_nonneg _ h0
    have t2 : Int.tmod p b.length < b.length := Int.tmod_lt_of_pos _ hL
    have w3 : wrap64 (p * 7) = p * 7 := wrapI (by omega)
    have w4 : wrap64 (p * 7 + 3) = p * 7 + 3 := wrapI (by omega)
    have t3 : 0 ≤ Int.tmod (p * 7 + 3) b.length := Int.tmod_nonneg _ (by omega)
    have t4 : Int.tmod (p * 7 + 3) b.length < b.length := Int.tmod_lt_of_pos _ hL
    have a1 := hb.at_ _ t1 t2
    have a2 := hb.at_ _ t3 t4
    have d0 : 0 ≤ Int.tdiv p b.length := Int.tdiv_nonneg h0 (by omega)
    have d1 : Int.tdiv p b.length ≤ p := by
     rw [Int.tdiv_eq_ediv_of_nonneg h0]
     exact Int.ediv_le_self _ h0
    generalize hA : rd b (Int.tmod p b.length) = A at a1
    generalize hB : rd b (Int.tmod (p * 7 + 3) b.length) = B at a2
    generalize hQ : Int.tdiv p b.length = Q at d0 d1
    have v1 : wrap64 A = A := wrapI (by omega)
    have v2 : wrap64 (A * 131) = A * 131 := wrapI (by omega)
    have v3 : wrap64 B = B := wrapI (by omega)
    have v4 : wrap64 (B * 1117) = B * 1117 := wrapI (by omega)
    have v5 : wrap64 (A * 131 + B * 1117) = A * 131 + B * 1117 := wrapI (by omega)
    have v6 : wrap64 (p * 29) = p * 29 := wrapI (by omega)
    have v7 : wrap64 (A * 131 + B * 1117 + p * 29) = A * 131 + B * 1117 + p * 29 := wrapI (by omega)
    have v8 : wrap64 Q = Q := wrapI (by omega)
    have v9 : wrap64 (Q * 53) = Q * 53 := wrapI (by omega)
    have v10 : wrap64 (A * 131 + B * 1117 + p * 29 + Q * 53) = A * 131 + B * 1117 + p * 29 + Q * 53 := wrapI (by omega)
    have x0 : 0 ≤ A * 131 + B * 1117 + p * 29 + Q * 53 := by omega
    have x1 : A * 131 + B * 1117 + p * 29 + Q * 53 < 4611686018427387904 := by omega
    generalize hX : A * 131 + B * 1117 + p * 29 + Q * 53 = X at v10 x0 x1
    have e0 : 0 ≤ Int.tdiv X 64 := Int.tdiv_nonneg x0 (by omega)
    have e1 : Int.tdiv X 64 ≤ X := by
     rw [Int.tdiv_eq_ediv_of_nonneg x0]
     exact Int.ediv_le_self _ x0
    have v11 : wrap64 (Int.tdiv X 64) = Int.tdiv X 64 := wrapI (by omega)
    have hx := xor_nonneg X (Int.tdiv X 64) x0 x1 e0 (by omega)
    refine ⟨Int.tmod (bits .xor .i64 X (Int.tdiv X 64)) n, ?_, Int.tmod_nonneg _ hx, fun _ => Int.tmod_lt_of_pos _ (by omega)⟩
    refine Ev.step (fun k => rfl) (Ev.iteF (by simp only [beq_iff_eq]; omega) (Ev.iteF (by rw [w0]; exact c3) (Ev.iteF (by omega) ?_)))
    simp only [w0, w3, w4]
    refine Ev.iteT t1 (Ev.iteT t2 (Ev.iteT t3 (Ev.iteT t4 (Ev.iteF (by omega) (Ev.some_ ?_)))))
    simp only [hA, hB, hQ, v1, v2, v3, v4, v5, v6, v7, v8, v9, hX, v10, v11]
theorem of_ev {b : List Int} (hb : Code_ b) (p : Int) (h0 : 0 ≤ p) (h1 : p ≤ 1099511627776) (l : List ByteArray) (hl : 1 ≤ l.length) (hl' : l.length ≤ 1000) :
  ∃ x, x ∈ l ∧ Ev (fun k => spec_reader_of.f k b p l) (x, p + 1) := by
 obtain ⟨v, hv, v0, v1⟩ := pick_ev hb p (l.length : Int) h0 h1 (by omega)
 have v1 := v1 (by omega)
 obtain ⟨j, rfl⟩ := Int.eq_ofNat_of_zero_le v0
 refine ⟨l[j]'(by omega), List.getElem_mem _, ?_⟩
 unfold spec_reader_of.f
 exact Ev.bind hv (Ev.iteT v0 (Ev.iteT v1 (Ev.some_ (by rw [rdOf_nat _ _ _ (by omega)]))))
theorem one_ev {b : List Int} (hb : Code_ b) (p : Int) (h0 : 0 ≤ p) (h1 : p ≤ 1099511627776) (l : List Int) (hl : 1 ≤ l.length) (hl' : l.length ≤ 1000) :
  ∃ x, x ∈ l ∧ Ev (fun k => spec_reader_one.f k b p l) (x, p + 1) := by
 obtain ⟨v, hv, v0, v1⟩ := pick_ev hb p (l.length : Int) h0 h1 (by omega)
 have v1 := v1 (by omega)
 obtain ⟨j, rfl⟩ := Int.eq_ofNat_of_zero_le v0
 refine ⟨l[j]'(by omega), List.getElem_mem _, ?_⟩
 unfold spec_reader_one.f
 exact Ev.bind hv (Ev.iteT v0 (Ev.iteT v1 (Ev.some_ (by rw [rd_nat _ _ (by omega)]))))
theorem wfByte {x : Int} (h : (Lit.int .u8 x).wf = true) : 0 ≤ x ∧ x ≤ 255 := by
 simp [Lit.wf, IntKind.min, IntKind.max, IntKind.signed, IntKind.bits] at h
 omega
theorem lawHasText_loop (l : List ByteArray) (x : ByteArray) (hl : l.length ≤ 4611686018427387903) : ∀ (t : List ByteArray) (i : Nat), l.drop i = t → i ≤ l.length →
  Ev (fun k => laws_hasText.l0 k l x (i : Int)) (memB t x) := by
 intro t
 induction t with
 | nil =>
  intro i h hi
  have hl2 := drop_nil h
  exact Ev.step (fun k => rfl) (Ev.iteF (by omega) (Ev.some_ rfl))
 | cons b t ih =>
  intro i h hi
  obtain ⟨hl2, hb, ht⟩ := drop_cons h
  refine Ev.step (fun k => rfl) (Ev.iteT (by omega) (Ev.iteT (by omega) ?_))
  rw [rdOf_nat _ _ _ hl2, hb]
  by_cases h1 : b = x
  ·exact Ev.iteT (by rw [h1]) (Ev.some_ (by simp [memB, h1]))
  ·refine Ev.iteF (by rw [toList_iff]; exact h1) ?_
   rw [wrapN (by omega)]
   have e : memB (b :: t) x = memB t x := by simp [memB, h1]
   rw [e]
   exact ih (i + 1) ht (by omega)
theorem lawHasText_ev (l : List ByteArray) (x : ByteArray) (hl : l.length ≤ 4611686018427387903) : Ev (fun k => laws_hasText.f k l x) (memB l x) :=
 lawHasText_loop l x hl l 0 rfl (Nat.zero_le _)
theorem hasText_loop (l : List ByteArray) (x : ByteArray) (hl : l.length ≤ 4611686018427387903) : ∀ (t : List ByteArray) (i : Nat), l.drop i = t → i ≤ l.length →
  Ev (fun k => spec_hasText.l0 k l x (i : Int)) (memB t x) := by
 intro t
 induction t with
 | nil =>
  intro i h hi
  have hl2 := drop_nil h
  exact Ev.step (fun k => rfl) (Ev.iteF (by omega) (Ev.some_ rfl))
 | cons b t ih =>
  intro i h hi
  obtain ⟨hl2, hb, ht⟩ := drop_cons h
  refine Ev.step (fun k => rfl) (Ev.iteT (by omega) (Ev.iteT (by omega) ?_))
  rw [rdOf_nat _ _ _ hl2, hb]
  by_cases h1 : b = x
  ·exact Ev.iteT (by rw [h1]) (Ev.some_ (by simp [memB, h1]))
  ·refine Ev.iteF (by rw [toList_iff]; exact h1) ?_
   rw [wrapN (by omega)]
   have e : memB (b :: t) x = memB t x := by simp [memB, h1]
   rw [e]
   exact ih (i + 1) ht (by omega)
theorem hasText_ev (l : List ByteArray) (x : ByteArray) (hl : l.length ≤ 4611686018427387903) : Ev (fun k => spec_hasText.f k l x) (memB l x) :=
 hasText_loop l x hl l 0 rfl (Nat.zero_le _)
def namesS (l : List ByteArray) (m : Int) : Bool := l.all nameS && (decide l.Nodup && decide ((l.length : Int) ≤ m))
theorem validNames_loop (l : List ByteArray) (m : Int) (hl : l.length ≤ 4611686018427387903) (hz : SizesOk l) : ∀ (t : List ByteArray) (i : Nat), l.drop i = t → i ≤ l.length → (l.take i).Nodup →
  Ev (fun k => spec_validNames.l0 k l m (i : Int)) (t.all nameS && (decide l.Nodup && decide ((l.length : Int) ≤ m))) := by
 intro t
 induction t with
 | nil =>
  intro i h hi hn
  have hl2 := drop_nil h
  rw [List.take_of_length_le hl2] at hn
  exact Ev.step (fun k => rfl) (Ev.iteF (by omega) (Ev.some_ (by simp [hn])))
 | cons b t ih =>
  intro i h hi hn
  obtain ⟨hl2, hb, ht⟩ := drop_cons h
  have hs : b.size ≤ 4611686018427387903 := hz b (hb ▸ List.getElem_mem hl2)
  refine Ev.step (fun k => rfl) (Ev.iteT (by omega) (Ev.iteT (by omega) ?_))
  rw [rdOf_nat _ _ _ hl2, hb, Int.toNat_natCast]
  refine Ev.bind (validName_ev b hs) ?_
  cases hnm : nameS b with
  | false => exact Ev.iteF (by simp) (Ev.bool (by simp [hnm]))
  | true =>
   refine Ev.iteT rfl (Ev.iteT (by omega) (Ev.bind (hasText_ev (l.take i) b (by rw [List.length_take]; omega)) ?_))
   by_cases hm : b ∈ l.take i
   ·refine Ev.iteT (memB_iff.2 hm) (Ev.bool ?_)
    have : ¬ l.Nodup := nodup_of_take l (i + 1) (fun h => ((nodup_take_succ l i hl2).1 h).2 (hb ▸ hm))
    simp [this]
   ·refine Ev.iteF (by rw [memB_iff]; exact hm) ?_
    rw [wrapN (by omega)]
    simpa [List.all_cons, hnm] using ih (i + 1) ht (by omega) ((nodup_take_succ l i hl2).2 ⟨hn, hb ▸ hm⟩)
theorem validNames_ev (l : List ByteArray) (m : Int) (hl : l.length ≤ 4611686018427387903) (hz : SizesOk l) : Ev (fun k => spec_validNames.f k l m) (namesS l m) :=
 validNames_loop l m hl hz l 0 rfl (Nat.zero_le _) (by simp)
def pairS (l : List ByteArray) (i : Nat) : Bool := Op.bytesLess (l.getD i ByteArray.empty).toList (l.getD (i + 1) ByteArray.empty).toList
def ascS (l : List ByteArray) : Bool := (List.range (l.length - 1)).all (pairS l)
theorem pairS_at (l : List ByteArray) (i : Nat) (h : i + 1 < l.length) : pairS l i = Op.bytesLess (l[i]).toList (l[i + 1]).toList := by
 unfold pairS
 rw [List.getD_eq_getElem?_getD, List.getD_eq_getElem?_getD, List.getElem?_eq_getElem h, List.getElem?_eq_getElem (by omega)]
 rfl
theorem ascending_loop (l : List ByteArray) (hl : l.length ≤ 4611686018427387903) : ∀ (d i : Nat), i + 1 + d = l.length →
  Ev (fun k => spec_ascending.l0 k l ((i + 1 : Nat) : Int)) ((List.range' i d).all (pairS l)) := by
 intro d
 induction d with
 | zero =>
  intro i hd
  exact Ev.step (fun k => rfl) (Ev.iteF (by omega) (Ev.some_ (by simp)))
 | succ d ih =>
  intro i hd
  have e : wrap64 (((i + 1 : Nat) : Int) - 1) = (i : Int) := by rw [wrapI (by omega)]; omega
  refine Ev.step (fun k => rfl) (Ev.iteT (by omega) (Ev.iteT (by omega) ?_))
  rw [e, rdOf_nat _ _ i (by omega), rdOf_nat _ _ (i + 1) (by omega), wrapN (by omega), List.range'_succ, List.all_cons, pairS_at l i (by omega)]
  refine Ev.iteT (by omega) (Ev.iteT (by omega) ?_)
  cases hp : Op.bytesLess (l[i]).toList (l[i + 1]).toList with
  | true => exact Ev.iteT rfl (by simpa using ih (i + 1) (by omega))
  | false => exact Ev.iteF (by simp) (Ev.bool (by simp))
theorem ascending_ev (l : List ByteArray) (hl : l.length ≤ 4611686018427387903) : Ev (fun k => spec_ascending.f k l) (ascS l) := by
 unfold spec_ascending.f ascS
 by_cases h : l.length = 0
 ·refine Ev.step (fun k => rfl) (Ev.iteF (by omega) (Ev.some_ ?_))
  rw [h]
  rfl
 ·have := ascending_loop l hl (l.length - 1) 0 (by omega)
  rw [List.range_eq_range']
  exact this
structure TSz (q : S137) : Prop where
 s0 : q.f0.size ≤ 1048576
 s1 : q.f1.size ≤ 1048576
 r2 : q.f2.length ≤ 1048576 ∧ SizesOk q.f2
 r3 : q.f3.length ≤ 1048576 ∧ SizesOk q.f3
def testS (q : S137) : Bool := nameS q.f0 && (nameS q.f1 && (namesS q.f2 3 && (ascS q.f2 && namesS q.f3 4)))
theorem validTest_ev (q : S137) (h : TSz q) : Ev (fun k => spec_validTest.f k q.f0 q.f1 q.f2 q.f3) (testS q) := by
 unfold spec_validTest.f testS
 have h0 := h.s0
 have h1 := h.s1
 have h2 := h.r2.1
 have h3 := h.r3.1
 refine Ev.bind (validName_ev q.f0 (by omega)) ?_
 cases c0 : nameS q.f0 with
 | false => exact Ev.iteF (by simp) (Ev.bool (by simp))
 | true =>
  refine Ev.iteT rfl (Ev.bind (validName_ev q.f1 (by omega)) ?_)
  cases c1 : nameS q.f1 with
  | false => exact Ev.iteF (by simp) (Ev.bool (by simp))
  | true =>
   refine Ev.iteT rfl (Ev.bind (validNames_ev q.f2 3 (by omega) h.r2.2) ?_)
   cases c2 : namesS q.f2 3 with
   | false => exact Ev.iteF (by simp) (Ev.bool (by simp))
   | true =>
    refine Ev.iteT rfl (Ev.bind (ascending_ev q.f2 (by omega)) ?_)
    cases c3 : ascS q.f2 with
    | false => exact Ev.iteF (by simp) (Ev.bool (by simp))
    | true => exact Ev.iteT rfl (Ev.bind (validNames_ev q.f3 4 (by omega) h.r3.2) (Ev.bool (by simp)))
theorem rdT_nat (l : List S137) (i : Nat) (h : i < l.length) : rd_T137 l (i : Int) = l[i] := by
 unfold rd_T137
 exact getD_nat _ _ _ h
def idV (q : S137) : ByteArray := (q.f0 ++ (⟨#[46]⟩ : ByteArray)) ++ q.f1
theorem specIdOf_eq (q : S137) (h : TSz q) : spec_idOf.f q.f0 q.f1 q.f2 q.f3 = some (idV q) := by
 have h0 := h.s0
 have h1 := h.s1
 unfold spec_idOf.f idV
 rw [if_pos (by omega), if_pos (by omega)]
structure TSzS (l : List S137) : Prop where
 len : l.length ≤ 1048576
 one : ∀ q ∈ l, TSz q
def testsS (l : List S137) : Bool := l.all testS && (decide (l.map idV).Nodup && decide ((l.length : Int) ≤ 10))
theorem map_take_get (l : List S137) (i : Nat) (h : i < l.length) : (l.map idV)[i]'(by rw [List.length_map]; exact h) = idV l[i] := List.getElem_map ..
theorem findTest_loop (l : List S137) (hl : TSzS l) (x : ByteArray) : ∀ (t : List S137) (i : Nat), l.drop i = t → i ≤ l.length →
  ∃ r : Int, Ev (fun k => spec_findTest.l0 k l x (i : Int)) r ∧ (0 ≤ r ↔ x ∈ t.map idV) := by
 have hlen := hl.len
 intro t
 induction t with
 | nil =>
  intro i h hi
  have hl2 := drop_nil h
  exact ⟨-1, Ev.step (fun k => rfl) (Ev.iteF (by omega) (Ev.some_ rfl)), by simp⟩
 | cons b t ih =>
  intro i h hi
  obtain ⟨hl2, hb, ht⟩ := drop_cons h
  have hs : TSz b := hl.one b (hb ▸ List.getElem_mem hl2)
  by_cases h1 : idV b = x
  ·refine ⟨(i : Int), Ev.step (fun k => rfl) (Ev.iteT (by omega) (Ev.iteT (by omega) ?_)), by simp [h1]⟩
   rw [rdT_nat _ _ hl2, hb]
   exact Ev.bind0 (specIdOf_eq b hs) (Ev.iteT (by rw [h1]) (Ev.some_ rfl))
  ·obtain ⟨r, hr, hm⟩ := ih (i + 1) ht (by omega)
   refine ⟨r, Ev.step (fun k => rfl) (Ev.iteT (by omega) (Ev.iteT (by omega) ?_)), by rw [List.map_cons, List.mem_cons]; exact ⟨fun h => Or.inr (hm.1 h), fun h => h.elim (fun e => absurd e.symm h1) hm.2⟩⟩
   rw [rdT_nat _ _ hl2, hb]
   refine Ev.bind0 (specIdOf_eq b hs) (Ev.iteF (by rw [toList_iff]; exact h1) ?_)
   rw [wrapN (by omega)]
   exact hr
theorem TSzS.take {l : List S137} (h : TSzS l) (n : Nat) : TSzS (l.take n) := ⟨by have := h.len; rw [List.length_take]; omega, fun q hq => h.one q (List.mem_of_mem_take hq)⟩
theorem validTestsS_loop (l : List S137) (hl : TSzS l) : ∀ (t : List S137) (i : Nat), l.drop i = t → i ≤ l.length → ((l.map idV).take i).Nodup →
  Ev (fun k => spec_validTests.l0 k l (i : Int)) (t.all testS && (decide (l.map idV).Nodup && decide ((l.length : Int) ≤ 10))) := by
 have hlen := hl.len
 have hml : (l.map idV).length = l.length := List.length_map ..
 intro t
 induction t with
 | nil =>
  intro i h hi hn
  have hl2 := drop_nil h
  rw [List.take_of_length_le (by omega)] at hn
  exact Ev.step (fun k => rfl) (Ev.iteF (by omega) (Ev.some_ (by simp [hn])))
 | cons b t ih =>
  intro i h hi hn
  obtain ⟨hl2, hb, ht⟩ := drop_cons h
  have hs : TSz b := hl.one b (hb ▸ List.getElem_mem hl2)
  have hg : (l.map idV)[i]'(by omega) = idV b := by rw [map_take_get l i hl2, hb]
  refine Ev.step (fun k => rfl) (Ev.iteT (by omega) (Ev.iteT (by omega) ?_))
  rw [rdT_nat _ _ hl2, hb, Int.toNat_natCast]
  refine Ev.bind (validTest_ev b hs) ?_
  cases hnm : testS b with
  | false => exact Ev.iteF (by simp) (Ev.bool (by simp [hnm]))
  | true =>
   obtain ⟨r, hr, hm⟩ := findTest_loop (l.take i) (hl.take i) (idV b) (l.take i) 0 rfl (Nat.zero_le _)
   rw [List.map_take] at hm
   refine Ev.iteT rfl (Ev.iteT (by omega) (Ev.bind0 (specIdOf_eq b hs) (Ev.bind hr ?_)))
   by_cases hm2 : idV b ∈ (l.map idV).take i
   ·refine Ev.iteT (hm.2 hm2) (Ev.bool ?_)
    have : ¬ (l.map idV).Nodup := nodup_of_take _ (i + 1) (fun h => ((nodup_take_succ _ i (by omega)).1 h).2 (by rw [hg]; exact hm2))
    simp [this]
   ·refine Ev.iteF (fun h => hm2 (hm.1 h)) ?_
    rw [wrapN (by omega)]
    simpa [List.all_cons, hnm] using ih (i + 1) ht (by omega) ((nodup_take_succ _ i (by omega)).2 ⟨hn, by rw [hg]; exact hm2⟩)
theorem validTestsS_ev (l : List S137) (hl : TSzS l) : Ev (fun k => spec_validTests.f k l) (testsS l) := by
 have := validTestsS_loop l hl l 0 rfl (Nat.zero_le _) (by simp)
 exact this
/-- Few texts, none of them long. -/
structure SmL (l : List ByteArray) : Prop where
 len : l.length ≤ 1000
 one : ∀ x ∈ l, x.size ≤ 1000
theorem SmL.nil : SmL [] := ⟨by simp, fun x hx => by cases hx⟩
structure SmT (q : S137) : Prop where
 s0 : q.f0.size ≤ 1000
 s1 : q.f1.size ≤ 1000
 r2 : SmL q.f2
 r3 : SmL q.f3
structure SmTS (l : List S137) : Prop where
 len : l.length ≤ 1000
 one : ∀ q ∈ l, SmT q
theorem SmL.sizes {l : List ByteArray} (h : SmL l) : l.length ≤ 1048576 ∧ SizesOk l := ⟨by have := h.len; omega, fun x hx => by have := h.one x hx; omega⟩
theorem SmT.sizes {q : S137} (h : SmT q) : TSz q := ⟨by have := h.s0; omega, by have := h.s1; omega, h.r2.sizes, h.r3.sizes⟩
theorem SmTS.sizes {l : List S137} (h : SmTS l) : TSzS l := ⟨by have := h.len; omega, fun q hq => (h.one q hq).sizes⟩
theorem predT {n : Nat} (h : n < 1000000) : wrap64 (((n + 1 : Nat) : Int) - 1) = (n : Int) := by rw [wrapI (by omega)]; omega
theorem sorted_l1 (l : List ByteArray) (hl : l.length ≤ 1000) (i : Nat) (hi : i < l.length) (x3 : List ByteArray) (hx : x3.length ≤ 1000) {P : List ByteArray → Prop}
  (hc : ∀ o : List ByteArray, o.length ≤ x3.length + 1 → (∀ y ∈ o, y ∈ x3 ∨ y ∈ l) → ∃ m, Ev (fun k => spec_sortedTexts.l0 k l o ((i + 1 : Nat) : Int)) m ∧ P m) : ∀ (d j : Nat), j + d = x3.length →
  ∃ m, Ev (fun k => spec_sortedTexts.l1 k l x3 (i : Int) (j : Int)) m ∧ P m := by
 have hins : ∀ j : Nat, j ≤ x3.length → ∃ m, Ev (fun k => spec_sortedTexts.l0 k l (([] ++ x3.take j) ++ [rdOf ByteArray.empty l (i : Int)] ++ x3.drop j) ((i + 1 : Nat) : Int)) m ∧ P m := by
  intro j hj
  refine hc _ ?_ ?_
  ·simp only [List.length_append, List.length_nil, List.length_take, List.length_drop, List.length_singleton]
   omega
  ·intro y hy
   rw [List.nil_append] at hy
   rcases List.mem_append.1 hy with hy | hy
   ·rcases List.mem_append.1 hy with hy | hy
    ·exact .inl (List.mem_of_mem_take hy)
    ·rw [List.mem_singleton.1 hy, rdOf_nat _ _ _ hi]
     exact .inr (List.getElem_mem hi)
   ·exact .inl (List.mem_of_mem_drop hy)
 have hw : wrap64 ((i : Int) + 1) = ((i + 1 : Nat) : Int) := wrapN (by omega)
 intro d
 induction d with
 | zero =>
  intro j hj
  obtain ⟨m, hm, hP⟩ := hins j (by omega)
  refine ⟨m, Ev.step (fun k => rfl) (Ev.iteF (by omega) (Ev.iteT (by omega) (Ev.bind0 rfl (Ev.iteT (by omega) (Ev.iteT (by omega) (Ev.bind0 rfl ?_)))))), hP⟩
  rw [Int.toNat_natCast, hw]
  exact Ev.iteT (by simp only [List.length_nil, List.length_take]; omega) (Ev.bind0 rfl (Ev.iteT (by omega) (Ev.iteT (by omega) (Ev.bind0 rfl (Ev.iteT (by simp only [List.length_append, List.length_nil, List.length_take, List.length_singleton]; omega) (Ev.bind0 rfl (Ev.bind0 rfl (Ev.iteT (by simp only [List.length_append, List.length_nil, List.length_take, List.length_singleton, List.length_drop]; omega) hm))))))))
 | succ d ih =>
  intro j hj
  by_cases c : Op.bytesLess ((rdOf ByteArray.empty x3 (j : Int)).toList) ((rdOf ByteArray.empty l (i : Int)).toList) = true
  ·obtain ⟨m, hm, hP⟩ := ih (j + 1) (by omega)
   refine ⟨m, Ev.step (fun k => rfl) (Ev.iteT (by omega) (Ev.iteT (by omega) (Ev.iteT (by omega) (Ev.iteT (by omega) (Ev.iteT c ?_))))), hP⟩
   rw [wrapN (by omega)]
   exact hm
  ·by_cases c2 : (rdOf ByteArray.empty x3 (j : Int)).toList = (rdOf ByteArray.empty l (i : Int)).toList
   ·obtain ⟨m, hm, hP⟩ := hc x3 (by omega) (fun y hy => .inl hy)
    refine ⟨m, Ev.step (fun k => rfl) (Ev.iteT (by omega) (Ev.iteT (by omega) (Ev.iteT (by omega) (Ev.iteT (by omega) (Ev.iteF c (Ev.iteF (by omega) (Ev.iteT c2 ?_))))))), hP⟩
    rw [hw]
    exact hm
   ·obtain ⟨m, hm, hP⟩ := hins j (by omega)
    refine ⟨m, Ev.step (fun k => rfl) (Ev.iteT (by omega) (Ev.iteT (by omega) (Ev.iteT (by omega) (Ev.iteT (by omega) (Ev.iteF c (Ev.iteF (by omega) (Ev.iteF c2 (Ev.bind0 rfl (Ev.iteT (by omega) (Ev.bind0 rfl ?_)))))))))), hP⟩
    rw [Int.toNat_natCast, hw]
    exact Ev.iteT (by simp only [List.length_nil, List.length_take]; omega) (Ev.bind0 rfl (Ev.bind0 rfl (Ev.iteT (by simp only [List.length_append, List.length_nil, List.length_take, List.length_singleton]; omega) (Ev.bind0 rfl (Ev.bind0 rfl (Ev.iteT (by simp only [List.length_append, List.length_nil, List.length_take, List.length_singleton, List.length_drop]; omega) hm))))))
theorem sorted_l0 (l : List ByteArray) (hl : l.length ≤ 900) : ∀ (d i : Nat) (x3 : List ByteArray), i + d = l.length → x3.length ≤ i → (∀ y ∈ x3, y ∈ l) →
  ∃ m, Ev (fun k => spec_sortedTexts.l0 k l x3 (i : Int)) m ∧ (m.length ≤ l.length ∧ ∀ y ∈ m, y ∈ l) := by
 intro d
 induction d with
 | zero =>
  intro i x3 hi hx hm
  exact ⟨x3, Ev.step (fun k => rfl) (Ev.iteF (by omega) (Ev.some_ rfl)), by omega, hm⟩
 | succ d ih =>
  intro i x3 hi hx hm
  obtain ⟨m, hm2, hP⟩ := sorted_l1 l (by omega) i (by omega) x3 (by omega) (P := fun m => m.length ≤ l.length ∧ ∀ y ∈ m, y ∈ l) (fun o ho hy => ih (i + 1) o (by omega) (by omega) (fun y h => (hy y h).elim (hm y) id)) x3.length 0 (by omega)
  exact ⟨m, Ev.step (fun k => rfl) (Ev.iteT (by omega) hm2), hP⟩
theorem sortedTexts_ev (l : List ByteArray) (h : SmL l) (hl : l.length ≤ 900) : ∃ m, Ev (fun k => spec_sortedTexts.f k l) m ∧ SmL m := by
 obtain ⟨m, hm, h1, h2⟩ := sorted_l0 l hl l.length 0 [] (by omega) (by simp) (fun y hy => by cases hy)
 exact ⟨m, hm, by omega, fun x hx => h.one x (h2 x hx)⟩
theorem someMarks_loop {b : List Int} (hb : Code_ b) : ∀ (n : Nat) (l : List ByteArray) (p : Int), l.length + n ≤ 100 → (∀ x ∈ l, x.size ≤ 1000) → 0 ≤ p → p + n ≤ 1000000 →
  ∃ m, Ev (fun k => spec_someMarks.l0 k l (n : Int) b p) (m, p + n) ∧ SmL m := by
 intro n
 induction n with
 | zero =>
  intro l p hl hz h0 h1
  obtain ⟨m, hm, hs⟩ := sortedTexts_ev l ⟨by omega, hz⟩ (by omega)
  exact ⟨m, Ev.step (fun k => rfl) (Ev.iteF (by omega) (Ev.bind hm (Ev.some_ (by simp)))), hs⟩
 | succ n ih =>
  intro l p hl hz h0 h1
  obtain ⟨s, hs, he⟩ := of_ev hb p h0 (by omega) [(⟨#[115, 108, 111, 119]⟩ : ByteArray), (⟨#[102, 97, 115, 116]⟩ : ByteArray), (⟨#[110, 101, 116]⟩ : ByteArray), (⟨#[115, 107, 105, 112]⟩ : ByteArray), (⟨#[120, 102, 97, 105, 108]⟩ : ByteArray), (⟨#[115, 108, 111, 119]⟩ : ByteArray)] (by decide) (by decide)
  have hs2 : s.size ≤ 1000 := by
   simp only [List.mem_cons, List.not_mem_nil, or_false] at hs
   rcases hs with rfl | rfl | rfl | rfl | rfl | rfl <;> (show _ ≤ 1000; decide)
  obtain ⟨m, hm, hm2⟩ := ih (l ++ [s]) (p + 1) (by simp; omega) (fun x hx => by
   rcases List.mem_append.1 hx with hx | hx
   ·exact hz x hx
   ·rw [List.mem_singleton.1 hx]; exact hs2) (by omega) (by omega)
  refine ⟨m, Ev.step (fun k => rfl) (Ev.iteT (by omega) (Ev.bind he (Ev.iteT (by omega) ?_))), hm2⟩
  rw [predT (by omega), show p + ((n + 1 : Nat) : Int) = p + 1 + n by omega]
  exact hm
theorem someMarks_ev {b : List Int} (hb : Code_ b) (p : Int) (h0 : 0 ≤ p) (h1 : p ≤ 900000) : ∃ m q, Ev (fun k => spec_someMarks.f k b p) (m, q) ∧ SmL m ∧ p ≤ q ∧ q ≤ p + 4 := by
 obtain ⟨y, hy, he⟩ := one_ev hb p h0 (by omega) [1, 0, 2, 0, 3] (by decide) (by decide)
 have hy2 : 0 ≤ y ∧ y ≤ 3 := by
  simp only [List.mem_cons, List.not_mem_nil, or_false] at hy
  omega
 obtain ⟨n, rfl⟩ := Int.eq_ofNat_of_zero_le hy2.1
 obtain ⟨m, hm, hs⟩ := someMarks_loop hb n [] (p + 1) (by simp; omega) (fun x hx => by cases hx) (by omega) (by omega)
 exact ⟨m, _, Ev.bind he hm, hs, by omega, by omega⟩
theorem addText2_ev (l : List ByteArray) (x : ByteArray) (hl : l.length ≤ 1000) : ∃ o, Ev (fun k => spec_addText.f k l x) o ∧ o.length ≤ l.length + 1 ∧ ∀ y ∈ o, y ∈ l ∨ y = x := by
 by_cases h : memB l x = true
 ·exact ⟨l, Ev.bind (hasText_ev l x (by omega)) (Ev.iteT h (Ev.some_ rfl)), by omega, fun y hy => .inl hy⟩
 ·refine ⟨l ++ [x], Ev.bind (hasText_ev l x (by omega)) (Ev.iteF h (Ev.iteT (by omega) (Ev.some_ rfl))), by simp, fun y hy => ?_⟩
  rcases List.mem_append.1 hy with hy | hy
  ·exact .inl hy
  ·exact .inr (List.mem_singleton.1 hy)
theorem someNeeds_loop {b : List Int} (hb : Code_ b) (x1 : List ByteArray) (h1l : 1 ≤ x1.length) (hx : SmL x1) : ∀ (n : Nat) (l : List ByteArray) (p : Int), l.length + n ≤ 100 → (∀ x ∈ l, x.size ≤ 1000) → 0 ≤ p → p + n ≤ 1000000 →
  ∃ m, Ev (fun k => spec_someNeeds.l0 k x1 l (n : Int) b p) (m, p + n) ∧ SmL m := by
 have hxl := hx.len
 intro n
 induction n with
 | zero =>
  intro l p hl hz h0 h1
  exact ⟨l, Ev.step (fun k => rfl) (Ev.iteF (by omega) (Ev.some_ (by simp))), by omega, hz⟩
 | succ n ih =>
  intro l p hl hz h0 h1
  obtain ⟨v, hv, v0, v1⟩ := pick_ev hb p (x1.length : Int) h0 (by omega) (by omega)
  have v2 := v1 (by omega)
  obtain ⟨j, rfl⟩ := Int.eq_ofNat_of_zero_le v0
  have hj : j < x1.length := by omega
  obtain ⟨o, ho, ho1, ho2⟩ := addText2_ev l (rdOf ByteArray.empty x1 (j : Int)) (by omega)
  obtain ⟨m, hm, hm2⟩ := ih o (p + 1) (by omega) (fun x hx2 => by
   rcases ho2 x hx2 with h | rfl
   ·exact hz x h
   ·rw [rdOf_nat _ _ _ hj]; exact hx.one _ (List.getElem_mem hj)) (by omega) (by omega)
  refine ⟨m, Ev.step (fun k => rfl) (Ev.iteT (by omega) (Ev.bind hv (Ev.iteT (by omega) (Ev.iteT (by omega) (Ev.bind ho ?_))))), hm2⟩
  rw [predT (by omega), show p + ((n + 1 : Nat) : Int) = p + 1 + n by omega]
  exact hm
theorem someNeeds_ev {b : List Int} (hb : Code_ b) (p : Int) (h0 : 0 ≤ p) (h1 : p ≤ 900000) (x1 : List ByteArray) (hx : SmL x1) : ∃ m q, Ev (fun k => spec_someNeeds.f k b p x1) (m, q) ∧ SmL m ∧ p ≤ q ∧ q ≤ p + 4 := by
 unfold spec_someNeeds.f
 by_cases c : (x1.length : Int) = 0
 ·exact ⟨[], p, Ev.bind0 rfl (Ev.iteT c (Ev.some_ rfl)), SmL.nil, by omega, by omega⟩
 ·obtain ⟨y, hy, he⟩ := one_ev hb p h0 (by omega) [1, 2, 0, 1, 3] (by decide) (by decide)
  have hy2 : 0 ≤ y ∧ y ≤ 3 := by
   simp only [List.mem_cons, List.not_mem_nil, or_false] at hy
   omega
  obtain ⟨n, rfl⟩ := Int.eq_ofNat_of_zero_le hy2.1
  obtain ⟨m, hm, hs⟩ := someNeeds_loop hb x1 (by omega) hx n [] (p + 1) (by simp; omega) (fun x hx => by cases hx) (by omega) (by omega)
  exact ⟨m, _, Ev.bind0 rfl (Ev.iteF c (Ev.bind he hm)), hs, by omega, by omega⟩
theorem aModT_ev {b : List Int} (hb : Code_ b) (p : Int) (h0 : 0 ≤ p) (h1 : p ≤ 900000) : ∃ s, Ev (fun k => spec_aModule.f k b p) (s, p + 1) ∧ s.size = 1 := by
 obtain ⟨s, hs, he⟩ := of_ev hb p h0 (by omega) [(⟨#[109]⟩ : ByteArray), (⟨#[110]⟩ : ByteArray), (⟨#[109]⟩ : ByteArray), (⟨#[107]⟩ : ByteArray)] (by decide) (by decide)
 refine ⟨s, Ev.bind he (Ev.some_ rfl), ?_⟩
 simp only [List.mem_cons, List.not_mem_nil, or_false] at hs
 rcases hs with rfl | rfl | rfl | rfl <;> rfl
theorem aName_ev {b : List Int} (hb : Code_ b) (p : Int) (h0 : 0 ≤ p) (h1 : p ≤ 900000) : ∃ s, Ev (fun k => spec_reader_of.f k b p ([(⟨#[97]⟩ : ByteArray), (⟨#[98]⟩ : ByteArray), (⟨#[99]⟩ : ByteArray), (⟨#[100]⟩ : ByteArray), (⟨#[101]⟩ : ByteArray)] : List ByteArray)) (s, p + 1) ∧ s.size = 1 := by
 obtain ⟨s, hs, he⟩ := of_ev hb p h0 (by omega) [(⟨#[97]⟩ : ByteArray), (⟨#[98]⟩ : ByteArray), (⟨#[99]⟩ : ByteArray), (⟨#[100]⟩ : ByteArray), (⟨#[101]⟩ : ByteArray)] (by decide) (by decide)
 refine ⟨s, he, ?_⟩
 simp only [List.mem_cons, List.not_mem_nil, or_false] at hs
 rcases hs with rfl | rfl | rfl | rfl | rfl <;> rfl
theorem goodTests_loop {b : List Int} (hb : Code_ b) (x1 : List ByteArray) (hx : SmL x1) : ∀ (n : Nat) (l : List S137) (p : Int), l.length + n ≤ 100 → (∀ q ∈ l, SmT q) → 0 ≤ p → p + 10 * n ≤ 800000 →
  ∃ m q, Ev (fun k => spec_goodTests.l0 k x1 l (n : Int) b p) (m, q) ∧ m.length ≤ 100 ∧ (∀ q ∈ m, SmT q) ∧ 0 ≤ q ∧ q ≤ p + 10 * n := by
 intro n
 induction n with
 | zero =>
  intro l p hl hz h0 h1
  exact ⟨l, p, Ev.step (fun k => rfl) (Ev.iteF (by omega) (Ev.some_ rfl)), by omega, hz, h0, by omega⟩
 | succ n ih =>
  intro l p hl hz h0 h1
  obtain ⟨s, hs, hs2⟩ := aModT_ev hb p h0 (by omega)
  obtain ⟨u, hu, hu2⟩ := aName_ev hb (p + 1) (by omega) (by omega)
  obtain ⟨ma, q1, hma, hma2, e1, e2⟩ := someMarks_ev hb (p + 1 + 1) (by omega) (by omega)
  obtain ⟨ne, q2, hne, hne2, e3, e4⟩ := someNeeds_ev hb q1 (by omega) (by omega) x1 hx
  have hT : SmT (⟨s, u, ma, ne⟩ : S137) := ⟨show s.size ≤ 1000 by omega, show u.size ≤ 1000 by omega, hma2, hne2⟩
  have hid := specIdOf_eq (⟨s, u, ma, ne⟩ : S137) hT.sizes
  obtain ⟨r, hr, _⟩ := findTest_loop l ⟨by omega, fun q hq => (hz q hq).sizes⟩ (idV (⟨s, u, ma, ne⟩ : S137)) l 0 rfl (Nat.zero_le _)
  by_cases c : r < 0
  ·obtain ⟨m, q, hm, g1, g2, g3, g4⟩ := ih (l ++ [(⟨s, u, ma, ne⟩ : S137)]) q2 (by simp; omega) (fun q hq => by
    rcases List.mem_append.1 hq with hq | hq
    ·exact hz q hq
    ·rw [List.mem_singleton.1 hq]; exact hT) (by omega) (by omega)
   refine ⟨m, q, Ev.step (fun k => rfl) (Ev.iteT (by omega) (Ev.bind hs (Ev.bind hu (Ev.bind hma (Ev.bind hne (Ev.bind0 hid (Ev.bind hr (Ev.iteT c (Ev.iteT (by omega) ?_))))))))), g1, g2, g3, by omega⟩
   rw [predT (by omega)]
   exact hm
  ·obtain ⟨m, q, hm, g1, g2, g3, g4⟩ := ih l q2 (by omega) hz (by omega) (by omega)
   refine ⟨m, q, Ev.step (fun k => rfl) (Ev.iteT (by omega) (Ev.bind hs (Ev.bind hu (Ev.bind hma (Ev.bind hne (Ev.bind0 hid (Ev.bind hr (Ev.iteF c ?_)))))))), g1, g2, g3, by omega⟩
   rw [predT (by omega)]
   exact hm
theorem goodTests_ev {b : List Int} (hb : Code_ b) (p : Int) (h0 : 0 ≤ p) (h1 : p ≤ 700000) (x1 : List ByteArray) (hx : SmL x1) :
  ∃ m q, Ev (fun k => spec_goodTests.f k b p x1) (m, q) ∧ m.length ≤ 100 ∧ (∀ q ∈ m, SmT q) ∧ 0 ≤ q ∧ q ≤ p + 101 := by
 obtain ⟨y, hy, he⟩ := one_ev hb p h0 (by omega) [5, 4, 6, 3, 2, 1, 0, 10] (by decide) (by decide)
 have hy2 : 0 ≤ y ∧ y ≤ 10 := by
  simp only [List.mem_cons, List.not_mem_nil, or_false] at hy
  omega
 obtain ⟨n, rfl⟩ := Int.eq_ofNat_of_zero_le hy2.1
 obtain ⟨m, q, hm, g1, g2, g3, g4⟩ := goodTests_loop hb x1 hx n [] (p + 1) (by simp; omega) (fun q hq => by cases hq) (by omega) (by omega)
 exact ⟨m, q, Ev.bind he hm, g1, g2, g3, by omega⟩
theorem small_lit (l : List ByteArray) (h : (decide (l.length ≤ 1000) && l.all fun x => decide (x.size ≤ 1000)) = true) : SmL l := by
 simp only [Bool.and_eq_true, decide_eq_true_eq, List.all_eq_true] at h
 exact ⟨h.1, h.2⟩
structure SmF (f : S133) : Prop where
 s0 : f.f0.size ≤ 1000
 r2 : SmL f.f2
structure SmFS (l : List S133) : Prop where
 len : l.length ≤ 100
 one : ∀ f ∈ l, SmF f
def namesF (l : List S133) : List ByteArray := l.map (·.f0)
theorem namesF_length (l : List S133) : (namesF l).length = l.length := List.length_map ..
theorem rdF_nat (l : List S133) (i : Nat) (h : i < l.length) : rd_T133 l (i : Int) = l[i] := by
 unfold rd_T133
 exact getD_nat _ _ _ h
theorem fixtureAt_loop (l : List S133) (hl : l.length ≤ 1000000) (x : ByteArray) : ∀ (t : List S133) (i : Nat), l.drop i = t → i ≤ l.length →
  ∃ r : Int, Ev (fun k => spec_fixtureAt.l0 k l x (i : Int)) r ∧ r < l.length ∧ (0 ≤ r ↔ x ∈ namesF t) := by
 intro t
 induction t with
 | nil =>
  intro i h hi
  have hl2 := drop_nil h
  exact ⟨-1, Ev.step (fun k => rfl) (Ev.iteF (by omega) (Ev.some_ rfl)), by omega, by simp [namesF]⟩
 | cons b t ih =>
  intro i h hi
  obtain ⟨hl2, hb, ht⟩ := drop_cons h
  by_cases h1 : b.f0 = x
  ·refine ⟨(i : Int), Ev.step (fun k => rfl) (Ev.iteT (by omega) (Ev.iteT (by omega) ?_)), by omega, by simp [namesF, h1]⟩
   rw [rdF_nat _ _ hl2, hb]
   exact Ev.iteT (by rw [h1]) (Ev.some_ rfl)
  ·obtain ⟨r, hr, hr1, hm⟩ := ih (i + 1) ht (by omega)
   refine ⟨r, Ev.step (fun k => rfl) (Ev.iteT (by omega) (Ev.iteT (by omega) ?_)), hr1, by simp only [namesF, List.map_cons, List.mem_cons] at hm ⊢; exact ⟨fun h => Or.inr (hm.1 h), fun h => h.elim (fun e => absurd e.symm h1) hm.2⟩⟩
   rw [rdF_nat _ _ hl2, hb]
   refine Ev.iteF (by rw [toList_iff]; exact h1) ?_
   rw [wrapN (by omega)]
   exact hr
theorem fixtureAt_ev (l : List S133) (hl : l.length ≤ 1000000) (x : ByteArray) : ∃ r : Int, Ev (fun k => spec_fixtureAt.f k l x) r ∧ r < l.length ∧ (0 ≤ r ↔ x ∈ namesF l) :=
 fixtureAt_loop l hl x l 0 rfl (Nat.zero_le _)
/-- The place of a name that is there. -/
theorem fixtureIn_ev (l : List S133) (hl : l.length ≤ 1000000) (x : ByteArray) (hx : x ∈ namesF l) : ∃ j : Nat, Ev (fun k => spec_fixtureAt.f k l x) (j : Int) ∧ j < l.length := by
 obtain ⟨r, hr, h1, h2⟩ := fixtureAt_ev l hl x
 obtain ⟨j, rfl⟩ := Int.eq_ofNat_of_zero_le (h2.2 hx)
 exact ⟨j, hr, by omega⟩
theorem filter_less (F op : List ByteArray) (x : ByteArray) (h1 : x ∈ F) (h2 : x ∉ op) : (F.filter fun y => !memB (op ++ [x]) y).length < (F.filter fun y => !memB op y).length := by
 have e : (F.filter fun y => !memB (op ++ [x]) y) = (F.filter fun y => !memB op y).filter fun y => !decide (x = y) := by
  rw [List.filter_filter]
  congr 1
  funext y
  simp [memB, Bool.and_comm]
 rw [e]
 have hlt := List.length_filter_lt_length_iff_exists (p := fun y => !decide (x = y)) (l := F.filter fun y => !memB op y)
 exact hlt.2 ⟨x, List.mem_filter.2 ⟨h1, by rw [memB_not.2 h2]; rfl⟩, by simp⟩
theorem nodup_snoc {l : List ByteArray} {x : ByteArray} (h : l.Nodup) (hx : x ∉ l) : (l ++ [x]).Nodup := by
 rw [List.nodup_append]
 exact ⟨h, by simp, fun a ha b hb => by rw [List.mem_singleton.1 hb]; rintro rfl; exact hx ha⟩
/-- reach always ends: what is open grows, and is of the fixtures. -/
theorem reach_ev (l : List S133) (T : List S137) (hl : SmFS l) : ∀ (n : Nat) (x : ByteArray) (op out : List ByteArray), ((namesF l).filter fun y => !memB op y).length ≤ n → op.length + n ≤ 1000 →
  (∀ y ∈ out, y ∈ namesF l) → out.Nodup → ∃ o, Ev (fun k => spec_reach.f k l T x op out) o ∧ (∀ y ∈ o, y ∈ out ∨ y ∈ namesF l ∧ y ∉ op) ∧ o.Nodup := by
 have hll := hl.len
 intro n
 induction n with
 | zero =>
  intro x op out hn ho hs hd
  have hol : out.length ≤ 100 := by have := hd.length_le_of_subset (l₂ := namesF l) hs; rw [namesF_length] at this; omega
  refine ⟨out, ?_, fun y hy => .inl hy, hd⟩
  obtain ⟨r, hr, hr1, hr2⟩ := fixtureAt_ev l (by omega) x
  have hj : Ev (fun k => spec_reach.j0 k x op out r true l T) out := ⟨1, fun k hk => by obtain ⟨m, rfl⟩ : ∃ m, k = m + 1 := ⟨k - 1, by omega⟩; rfl⟩
  refine Ev.step (fun k => rfl) (Ev.bind hr ?_)
  by_cases c : r < 0
  ·exact Ev.iteT c hj
  ·refine Ev.iteF c (Ev.bind (hasText_ev out x (by omega)) ?_)
   cases c1 : memB out x with
   | true => exact Ev.iteT rfl hj
   | false =>
    refine Ev.iteF (by simp) (Ev.bind (hasText_ev op x (by omega)) ?_)
    have h2 : memB op x = true := by
     cases c2 : memB op x with
     | true => rfl
     | false =>
      have := List.length_pos_of_mem (List.mem_filter.2 ⟨hr2.1 (by omega), by rw [c2]; rfl⟩ : x ∈ (namesF l).filter fun y => !memB op y)
      omega
    rw [h2]
    exact hj
 | succ n ih =>
  intro x op out hn ho hs hd
  have hol : out.length ≤ 100 := by have := hd.length_le_of_subset (l₂ := namesF l) hs; rw [namesF_length] at this; omega
  obtain ⟨r, hr, hr1, hr2⟩ := fixtureAt_ev l (by omega) x
  have hj : Ev (fun k => spec_reach.j0 k x op out r true l T) out := ⟨1, fun k hk => by obtain ⟨m, rfl⟩ : ∃ m, k = m + 1 := ⟨k - 1, by omega⟩; rfl⟩
  by_cases c : r < 0
  ·exact ⟨out, Ev.step (fun k => rfl) (Ev.bind hr (Ev.iteT c hj)), fun y hy => .inl hy, hd⟩
  ·cases c1 : memB out x with
   | true => exact ⟨out, Ev.step (fun k => rfl) (Ev.bind hr (Ev.iteF c (Ev.bind (hasText_ev out x (by omega)) (Ev.iteT c1 hj)))), fun y hy => .inl hy, hd⟩
   | false =>
    cases c2 : memB op x with
    | true => exact ⟨out, Ev.step (fun k => rfl) (Ev.bind hr (Ev.iteF c (Ev.bind (hasText_ev out x (by omega)) (Ev.iteF (by rw [c1]; simp) (Ev.bind (hasText_ev op x (by omega)) (by rw [c2]; exact hj)))))), fun y hy => .inl hy, hd⟩
    | false =>
     have hxF := hr2.1 (by omega)
     have hxo := memB_not.1 c1
     have hxp := memB_not.1 c2
     have hlt := filter_less (namesF l) op x hxF hxp
     obtain ⟨j, rfl⟩ := Int.eq_ofNat_of_zero_le (show 0 ≤ r by omega)
     have hjl : j < l.length := by omega
     have hN := (hl.one _ (List.getElem_mem hjl)).r2.len
     have loop : ∀ (d i : Nat) (x3 : List ByteArray), i + d = (l[j].f2).length → (∀ y ∈ x3, y ∈ out ∨ y ∈ namesF l ∧ y ∉ op ++ [x]) → x3.Nodup →
       ∃ o, Ev (fun k => spec_reach.l0 k x op x3 l[j].f2 (i : Int) l T) o ∧ (∀ y ∈ o, y ∈ out ∨ y ∈ namesF l ∧ y ∉ op) ∧ o.Nodup := by
      intro d
      induction d with
      | zero =>
       intro i x3 hi h3 hd3
       have h3F : ∀ y ∈ x3, y ∈ namesF l := fun y hy => (h3 y hy).elim (hs y) (·.1)
       have h3l : x3.length ≤ 100 := by have := hd3.length_le_of_subset (l₂ := namesF l) h3F; rw [namesF_length] at this; omega
       refine ⟨x3 ++ [x], Ev.step (fun k => rfl) (Ev.iteF (by omega) (Ev.bind0 rfl (Ev.iteT (by simp; omega) (Ev.some_ rfl)))), ?_, nodup_snoc hd3 ?_⟩
       ·intro y hy
        rcases List.mem_append.1 hy with hy | hy
        ·exact (h3 y hy).imp id fun h => ⟨h.1, fun h' => h.2 (List.mem_append_left _ h')⟩
        ·rw [List.mem_singleton.1 hy]
         exact .inr ⟨hxF, hxp⟩
       ·intro hx3
        rcases h3 x hx3 with h | h
        ·exact hxo h
        ·exact h.2 (by simp)
      | succ d ihd =>
       intro i x3 hi h3 hd3
       have hi2 : i < (l[j].f2).length := by omega
       have h3F : ∀ y ∈ x3, y ∈ namesF l := fun y hy => (h3 y hy).elim (hs y) (·.1)
       obtain ⟨o, ho1, ho2, ho3⟩ := ih (rdOf ByteArray.empty l[j].f2 (i : Int)) (([] ++ op) ++ [x]) x3 (by rw [List.nil_append]; omega) (by simp; omega) h3F hd3
       obtain ⟨o', hp1, hp2, hp3⟩ := ihd (i + 1) o (by omega) (fun y hy => (ho2 y hy).elim (h3 y) (fun h => .inr (by simpa using h))) ho3
       refine ⟨o', Ev.step (fun k => rfl) (Ev.iteT (by omega) (Ev.iteT (by omega) (Ev.bind0 rfl (Ev.iteT (by simp; omega) (Ev.bind0 rfl (Ev.bind0 rfl (Ev.iteT (by simp; omega) (Ev.bind ho1 ?_)))))))), hp2, hp3⟩
       rw [wrapN (by omega)]
       exact hp1
     obtain ⟨o, ho1, ho2, ho3⟩ := loop (l[j].f2).length 0 out (by omega) (fun y hy => .inl hy) hd
     refine ⟨o, Ev.step (fun k => rfl) (Ev.bind hr (Ev.iteF c (Ev.bind (hasText_ev out x (by omega)) (Ev.iteF (by rw [c1]; simp) (Ev.bind (hasText_ev op x (by omega)) ?_))))), ho2, ho3⟩
     refine Ev.step (fun k => rfl) (Ev.iteF (by rw [c2]; simp) (Ev.iteT (by omega) (Ev.iteT (by omega) ?_)))
     rw [rdF_nat _ _ hjl]
     exact ho1
/-- What one fixture needs, and it: of the fixtures, few, and what was there before is still told once. -/
theorem reach0_ev (l : List S133) (T : List S137) (hl : SmFS l) (x : ByteArray) (out : List ByteArray) (hs : ∀ y ∈ out, y ∈ namesF l) (hd : out.Nodup) :
  ∃ o, Ev (fun k => spec_reach.f k l T x ([] : List ByteArray) out) o ∧ (∀ y ∈ o, y ∈ namesF l) ∧ o.Nodup := by
 have hll := hl.len
 obtain ⟨o, h1, h2, h3⟩ := reach_ev l T hl 100 x [] out (by have := List.length_filter_le (fun y => !memB [] y) (namesF l); rw [namesF_length] at this; omega) (by simp) hs hd
 exact ⟨o, h1, fun y hy => (h2 y hy).elim (hs y) (·.1), h3⟩
theorem fewF {l : List S133} (hl : SmFS l) {o : List ByteArray} (h : ∀ y ∈ o, y ∈ namesF l) (hd : o.Nodup) : o.length ≤ 100 := by
 have h1 := hd.length_le_of_subset (l₂ := namesF l) h
 have h2 := hl.len
 rw [namesF_length] at h1
 omega
theorem needs_ev (l : List S133) (T : List S137) (hl : SmFS l) (x : ByteArray) : ∃ o, Ev (fun k => spec_needs.f k l T x) o ∧ o.length ≤ 100 := by
 obtain ⟨o, h1, h2, h3⟩ := reach0_ev l T hl x [] (fun y hy => by cases hy) .nil
 have h4 := fewF hl h2 h3
 by_cases c : (o.length : Int) > 0
 ·have e : wrap64 ((o.length : Int) - 1) = ((o.length - 1 : Nat) : Int) := by rw [wrapI (by omega)]; omega
  refine ⟨o.take (o.length - 1), Ev.bind h1 (Ev.iteT c ?_), by rw [List.length_take]; omega⟩
  rw [e, Int.toNat_natCast]
  exact Ev.iteT (by omega) (Ev.iteT (by omega) (Ev.some_ rfl))
 ·exact ⟨o, Ev.bind h1 (Ev.iteF c (Ev.some_ rfl)), h4⟩
theorem circular_loop (l : List S133) (T : List S137) (hl : SmFS l) (x : ByteArray) (m : List ByteArray) (hm : m.length ≤ 1000) : ∀ (d i : Nat), i + d = m.length → ∃ b, Ev (fun k => spec_circular.l0 k x m (i : Int) l T) b := by
 have hll := hl.len
 intro d
 induction d with
 | zero =>
  intro i hi
  exact ⟨false, Ev.step (fun k => rfl) (Ev.iteF (by omega) (Ev.some_ rfl))⟩
 | succ d ih =>
  intro i hi
  obtain ⟨b, hb⟩ := ih (i + 1) (by omega)
  obtain ⟨r, hr, hr1, hr2⟩ := fixtureAt_ev l (by omega) (rdOf ByteArray.empty m (i : Int))
  by_cases c : r ≥ 0
  ·obtain ⟨j, rfl⟩ := Int.eq_ofNat_of_zero_le c
   have hjl : j < l.length := by omega
   have hN := (hl.one _ (List.getElem_mem hjl)).r2.len
   have hh := hasText_ev (rd_T133 l (j : Int)).f2 x (by rw [rdF_nat _ _ hjl]; omega)
   cases c1 : memB (rd_T133 l (j : Int)).f2 x with
   | true => exact ⟨true, Ev.step (fun k => rfl) (Ev.iteT (by omega) (Ev.iteT (by omega) (Ev.bind hr (Ev.iteT c (Ev.iteT c (Ev.iteT (by omega) (Ev.bind hh (Ev.iteT c1 (Ev.some_ rfl)))))))))⟩
   | false =>
    refine ⟨b, Ev.step (fun k => rfl) (Ev.iteT (by omega) (Ev.iteT (by omega) (Ev.bind hr (Ev.iteT c (Ev.iteT c (Ev.iteT (by omega) (Ev.bind hh (Ev.iteF (by rw [c1]; simp) ?_))))))))⟩
    rw [wrapN (by omega)]
    exact hb
  ·refine ⟨b, Ev.step (fun k => rfl) (Ev.iteT (by omega) (Ev.iteT (by omega) (Ev.bind hr (Ev.iteF c ?_))))⟩
   rw [wrapN (by omega)]
   exact hb
theorem circular_ev (l : List S133) (T : List S137) (hl : SmFS l) (x : ByteArray) : ∃ b, Ev (fun k => spec_circular.f k l T x) b := by
 obtain ⟨o, h1, h2⟩ := needs_ev l T hl x
 obtain ⟨b, hb⟩ := circular_loop l T hl x (o ++ [x]) (by simp; omega) (o ++ [x]).length 0 (by omega)
 exact ⟨b, Ev.bind h1 (Ev.iteT (by omega) hb)⟩
theorem problems_l3 (l : List S133) (T : List S137) (hl : SmFS l) (hT : SmTS T) (i0 : Nat) (h0 : i0 < T.length) (R : ∀ x3 : List S150, x3.length ≤ 1000000 + 1000 * (i0 + 1) → ∃ r, Ev (fun k => spec_problems.l2 k x3 ((i0 + 1 : Nat) : Int) l T) r) :
  ∀ (d i : Nat) (x3 : List S150), i + d = T[i0].f3.length → x3.length ≤ 1000000 + 1000 * i0 + i → ∃ r, Ev (fun k => spec_problems.l3 k x3 (i0 : Int) T[i0].f3 (i : Int) l T) r := by
 have hll := hl.len
 have hTl := hT.len
 have hq := hT.one _ (List.getElem_mem h0)
 have hN := hq.r3.len
 intro d
 induction d with
 | zero =>
  intro i x3 hi hx
  obtain ⟨r, hr⟩ := R x3 (by omega)
  refine ⟨r, Ev.step (fun k => rfl) (Ev.iteF (by omega) ?_)⟩
  rw [wrapN (by omega)]
  exact hr
 | succ d ih =>
  intro i x3 hi hx
  obtain ⟨r, hr, hr1, hr2⟩ := fixtureAt_ev l (by omega) (rdOf ByteArray.empty T[i0].f3 (i : Int))
  by_cases c : r < 0
  ·obtain ⟨q, hq2⟩ := ih (i + 1) (x3 ++ [(⟨0, idV T[i0], rdOf ByteArray.empty T[i0].f3 (i : Int)⟩ : S150)]) (by omega) (by simp; omega)
   refine ⟨q, Ev.step (fun k => rfl) (Ev.iteT (by omega) (Ev.iteT (by omega) (Ev.bind hr (Ev.iteT c (Ev.iteT (by omega) (Ev.iteT (by omega) ?_))))))⟩
   rw [rdT_nat _ _ h0]
   refine Ev.bind0 (specIdOf_eq _ hq.sizes) (Ev.iteT (by omega) ?_)
   rw [wrapN (by omega)]
   exact hq2
  ·obtain ⟨q, hq2⟩ := ih (i + 1) x3 (by omega) (by omega)
   refine ⟨q, Ev.step (fun k => rfl) (Ev.iteT (by omega) (Ev.iteT (by omega) (Ev.bind hr (Ev.iteF c ?_))))⟩
   rw [wrapN (by omega)]
   exact hq2
theorem problems_l2 (l : List S133) (T : List S137) (hl : SmFS l) (hT : SmTS T) : ∀ (d i : Nat) (x3 : List S150), i + d = T.length → x3.length ≤ 1000000 + 1000 * i → ∃ r, Ev (fun k => spec_problems.l2 k x3 (i : Int) l T) r := by
 have hTl := hT.len
 intro d
 induction d with
 | zero =>
  intro i x3 hi hx
  exact ⟨x3, Ev.step (fun k => rfl) (Ev.iteF (by omega) (Ev.some_ rfl))⟩
 | succ d ih =>
  intro i x3 hi hx
  have hi2 : i < T.length := by omega
  obtain ⟨r, hr⟩ := problems_l3 l T hl hT i hi2 (fun y hy => ih (i + 1) y (by omega) hy) _ 0 x3 (Nat.zero_add _) (by omega)
  refine ⟨r, Ev.step (fun k => rfl) (Ev.iteT (by omega) (Ev.iteT (by omega) ?_))⟩
  rw [rdT_nat _ _ hi2]
  exact hr
theorem problems_l1 (l : List S133) (T : List S137) (hl : SmFS l) (i0 : Nat) (h0 : i0 < l.length) (R : ∀ x3 : List S150, x3.length ≤ 2000 * (i0 + 1) → ∃ r, Ev (fun k => spec_problems.l0 k x3 ((i0 + 1 : Nat) : Int) l T) r) :
  ∀ (d i : Nat) (x3 : List S150), i + d = l[i0].f2.length → x3.length ≤ 2000 * i0 + i → ∃ r, Ev (fun k => spec_problems.l1 k x3 (i0 : Int) (i : Int) l T l[i0].f0 l[i0].f1 l[i0].f2 l[i0].f3) r := by
 have hll := hl.len
 have hN := (hl.one _ (List.getElem_mem h0)).r2.len
 intro d
 induction d with
 | zero =>
  intro i x3 hi hx
  obtain ⟨b, hb⟩ := circular_ev l T hl l[i0].f0
  cases b with
  | true =>
   obtain ⟨r, hr⟩ := R (x3 ++ [(⟨2, l[i0].f0, l[i0].f0⟩ : S150)]) (by simp; omega)
   refine ⟨r, Ev.step (fun k => rfl) (Ev.iteF (by omega) (Ev.bind hb (Ev.iteT rfl (Ev.iteT (by omega) ?_))))⟩
   rw [wrapN (by omega)]
   exact hr
  | false =>
   obtain ⟨r, hr⟩ := R x3 (by omega)
   refine ⟨r, Ev.step (fun k => rfl) (Ev.iteF (by omega) (Ev.bind hb (Ev.iteF (by simp) ?_)))⟩
   rw [wrapN (by omega)]
   exact hr
 | succ d ih =>
  intro i x3 hi hx
  obtain ⟨r, hr, hr1, hr2⟩ := fixtureAt_ev l (by omega) (rdOf ByteArray.empty l[i0].f2 (i : Int))
  by_cases c : r < 0
  ·obtain ⟨q, hq⟩ := ih (i + 1) (x3 ++ [(⟨0, l[i0].f0, rdOf ByteArray.empty l[i0].f2 (i : Int)⟩ : S150)]) (by omega) (by simp; omega)
   refine ⟨q, Ev.step (fun k => rfl) (Ev.iteT (by omega) (Ev.iteT (by omega) (Ev.bind hr (Ev.iteT c (Ev.iteT (by omega) ?_)))))⟩
   rw [wrapN (by omega)]
   exact hq
  ·by_cases c1 : (rd_T133 l r).f1 < l[i0].f1
   ·obtain ⟨q, hq⟩ := ih (i + 1) (x3 ++ [(⟨1, l[i0].f0, rdOf ByteArray.empty l[i0].f2 (i : Int)⟩ : S150)]) (by omega) (by simp; omega)
    refine ⟨q, Ev.step (fun k => rfl) (Ev.iteT (by omega) (Ev.iteT (by omega) (Ev.bind hr (Ev.iteF c (Ev.iteT (by omega) (Ev.iteT hr1 (Ev.iteT c1 (Ev.iteT (by omega) ?_))))))))⟩
    rw [wrapN (by omega)]
    exact hq
   ·obtain ⟨q, hq⟩ := ih (i + 1) x3 (by omega) (by omega)
    refine ⟨q, Ev.step (fun k => rfl) (Ev.iteT (by omega) (Ev.iteT (by omega) (Ev.bind hr (Ev.iteF c (Ev.iteT (by omega) (Ev.iteT hr1 (Ev.iteF c1 ?_)))))))⟩
    rw [wrapN (by omega)]
    exact hq
theorem problems_l0 (l : List S133) (T : List S137) (hl : SmFS l) (hT : SmTS T) : ∀ (d i : Nat) (x3 : List S150), i + d = l.length → x3.length ≤ 2000 * i → ∃ r, Ev (fun k => spec_problems.l0 k x3 (i : Int) l T) r := by
 have hll := hl.len
 intro d
 induction d with
 | zero =>
  intro i x3 hi hx
  obtain ⟨r, hr⟩ := problems_l2 l T hl hT T.length 0 x3 (by omega) (by omega)
  exact ⟨r, Ev.step (fun k => rfl) (Ev.iteF (by omega) hr)⟩
 | succ d ih =>
  intro i x3 hi hx
  have hi2 : i < l.length := by omega
  obtain ⟨r, hr⟩ := problems_l1 l T hl i hi2 (fun y hy => ih (i + 1) y (by omega) hy) _ 0 x3 (Nat.zero_add _) (by omega)
  refine ⟨r, Ev.step (fun k => rfl) (Ev.iteT (by omega) (Ev.iteT (by omega) ?_))⟩
  rw [rdF_nat _ _ hi2]
  exact hr
theorem SmFS.take {l : List S133} (h : SmFS l) (n : Nat) : SmFS (l.take n) := ⟨by have := h.len; rw [List.length_take]; omega, fun f hf => h.one f (List.mem_of_mem_take hf)⟩
theorem wellFormed_loop (l : List S133) (T : List S137) (hl : SmFS l) (hT : SmTS T) : ∀ (d i : Nat), i + d = l.length → ∃ b, Ev (fun k => spec_wellFormed.l0 k (i : Int) l T) b := by
 have hll := hl.len
 intro d
 induction d with
 | zero =>
  intro i hi
  have ht := validTestsS_ev T hT.sizes
  cases c : testsS T with
  | true => exact ⟨_, Ev.step (fun k => rfl) (Ev.iteF (by omega) (Ev.bind ht (Ev.iteT c (Ev.some_ rfl))))⟩
  | false => exact ⟨false, Ev.step (fun k => rfl) (Ev.iteF (by omega) (Ev.bind ht (Ev.iteF (by rw [c]; simp) (Ev.some_ rfl))))⟩
 | succ d ih =>
  intro i hi
  have hi2 : i < l.length := by omega
  have hf := hl.one _ (List.getElem_mem hi2)
  have h0 := hf.s0
  have hN := hf.r2
  have hv := validName_ev l[i].f0 (by omega)
  have hA : ∀ {b : Bool}, Ev (fun k => (spec_validName.f k l[i].f0).bind fun t365 => if t365 = true then (if (i : Int) ≤ (l.length : Int) then ((spec_fixtureAt.f k (l.take (i : Int).toNat) l[i].f0).bind fun t370 => (if t370 ≥ 0 then (some false) else ((spec_inRange.f l[i].f1 0 2).bind fun t371 => (if t371 = true then ((spec_validNames.f k l[i].f2 4).bind fun t372 => (if t372 = true then (spec_wellFormed.l0 k (wrap64 ((i : Int) + 1)) l T) else (some false))) else (some false))))) else (none)) else (some false)) b → Ev (fun k => spec_wellFormed.l0 k (i : Int) l T) b := by
   intro b h
   refine Ev.step (fun k => rfl) (Ev.iteT (by omega) (Ev.iteT (by omega) ?_))
   rw [rdF_nat _ _ hi2]
   exact h
  cases c : nameS l[i].f0 with
  | false => exact ⟨false, hA (Ev.bind hv (Ev.iteF (by rw [c]; simp) (Ev.some_ rfl)))⟩
  | true =>
   obtain ⟨r, hr, _, _⟩ := fixtureAt_ev (l.take (i : Int).toNat) (by rw [List.length_take]; omega) l[i].f0
   by_cases c1 : r ≥ 0
   ·exact ⟨false, hA (Ev.bind hv (Ev.iteT c (Ev.iteT (by omega) (Ev.bind hr (Ev.iteT c1 (Ev.some_ rfl))))))⟩
   ·cases c2 : decide (0 ≤ l[i].f1 ∧ l[i].f1 ≤ 2) with
    | false => exact ⟨false, hA (Ev.bind hv (Ev.iteT c (Ev.iteT (by omega) (Ev.bind hr (Ev.iteF c1 (Ev.bind0 (inRange_ev _ _ _) (Ev.iteF (by rw [c2]; simp) (Ev.some_ rfl))))))))⟩
    | true =>
     have hn := validNames_ev l[i].f2 4 (by have := hN.len; omega) hN.sizes.2
     cases c3 : namesS l[i].f2 4 with
     | false => exact ⟨false, hA (Ev.bind hv (Ev.iteT c (Ev.iteT (by omega) (Ev.bind hr (Ev.iteF c1 (Ev.bind0 (inRange_ev _ _ _) (Ev.iteT c2 (Ev.bind hn (Ev.iteF (by rw [c3]; simp) (Ev.some_ rfl))))))))))⟩
     | true =>
      obtain ⟨b, hb⟩ := ih (i + 1) (by omega)
      refine ⟨b, hA (Ev.bind hv (Ev.iteT c (Ev.iteT (by omega) (Ev.bind hr (Ev.iteF c1 (Ev.bind0 (inRange_ev _ _ _) (Ev.iteT c2 (Ev.bind hn (Ev.iteT c3 ?_)))))))))⟩
      rw [wrapN (by omega)]
      exact hb
theorem validSuite_ev (l : List S133) (T : List S137) (hl : SmFS l) (hT : SmTS T) : ∃ b, Ev (fun k => spec_validSuite.f k l T) b := by
 obtain ⟨b, hb⟩ := wellFormed_loop l T hl hT l.length 0 (by omega)
 cases b with
 | false => exact ⟨false, Ev.bind hb (Ev.iteF (by simp) (Ev.some_ rfl))⟩
 | true =>
  obtain ⟨r, hr⟩ := problems_l0 l T hl hT l.length 0 [] (by omega) (by simp)
  exact ⟨_, Ev.bind hb (Ev.iteT rfl (Ev.bind hr (Ev.some_ rfl)))⟩
theorem liveScope_loop (l : List S133) (T : List S137) (hl : SmFS l) (m : List ByteArray) (hm : m.length ≤ 1000) (hs : ∀ y ∈ m, y ∈ namesF l) (sc : Int) : ∀ (d i : Nat) (a : List ByteArray), i + d = m.length → a.length ≤ i →
  ∃ o, Ev (fun k => spec_liveScope.l0 k m sc a (i : Int) l T) o ∧ o.length ≤ m.length := by
 have hll := hl.len
 intro d
 induction d with
 | zero =>
  intro i a hi ha
  exact ⟨a, Ev.step (fun k => rfl) (Ev.iteF (by omega) (Ev.some_ rfl)), by omega⟩
 | succ d ih =>
  intro i a hi ha
  have hi2 : i < m.length := by omega
  obtain ⟨j, hj, hjl⟩ := fixtureIn_ev l (by omega) (rdOf ByteArray.empty m (i : Int)) (by rw [rdOf_nat _ _ _ hi2]; exact hs _ (List.getElem_mem hi2))
  by_cases c : (rd_T133 l (j : Int)).f1 = sc
  ·obtain ⟨o, h1, h2⟩ := ih (i + 1) (a ++ [rdOf ByteArray.empty m (i : Int)]) (by omega) (by simp; omega)
   refine ⟨o, Ev.step (fun k => rfl) (Ev.iteT (by omega) (Ev.iteT (by omega) (Ev.bind hj (Ev.iteT (by omega) (Ev.iteT (by omega) (Ev.iteT c (Ev.iteT (by omega) ?_))))))), h2⟩
   rw [wrapN (by omega)]
   exact h1
  ·obtain ⟨o, h1, h2⟩ := ih (i + 1) a (by omega) (by omega)
   refine ⟨o, Ev.step (fun k => rfl) (Ev.iteT (by omega) (Ev.iteT (by omega) (Ev.bind hj (Ev.iteT (by omega) (Ev.iteT (by omega) (Ev.iteF c ?_)))))), h2⟩
   rw [wrapN (by omega)]
   exact h1
theorem liveScope_ev (l : List S133) (T : List S137) (hl : SmFS l) (m : List ByteArray) (hm : m.length ≤ 1000) (hs : ∀ y ∈ m, y ∈ namesF l) (sc : Int) : ∃ o, Ev (fun k => spec_liveScope.f k l T m sc) o ∧ o.length ≤ m.length :=
 liveScope_loop l T hl m hm hs sc m.length 0 [] (by omega) (by simp)
theorem downs_loop (m : List ByteArray) (hm : m.length ≤ 1000) : ∀ (n : Nat) (a : List S70), n ≤ m.length → a.length + n ≤ 1000 →
  ∃ o, Ev (fun k => spec_downs.l0 k m a ((n : Int) - 1)) o ∧ o.length = a.length + n := by
 intro n
 induction n with
 | zero =>
  intro a hn ha
  exact ⟨a, Ev.step (fun k => rfl) (Ev.iteF (by omega) (Ev.some_ rfl)), by omega⟩
 | succ n ih =>
  intro a hn ha
  obtain ⟨o, h1, h2⟩ := ih (a ++ [(⟨1, rdOf ByteArray.empty m (((n + 1 : Nat) : Int) - 1)⟩ : S70)]) (by omega) (by simp; omega)
  refine ⟨o, Ev.step (fun k => rfl) (Ev.iteT (by omega) (Ev.iteT (by omega) (Ev.iteT (by omega) (Ev.iteT (by omega) ?_)))), by simp at h2; omega⟩
  rw [show wrap64 (((n + 1 : Nat) : Int) - 1 - 1) = (n : Int) - 1 by rw [wrapI (by omega)]; omega]
  exact h1
theorem downs_ev (m : List ByteArray) (hm : m.length ≤ 1000) : ∃ o, Ev (fun k => spec_downs.f k m) o ∧ o.length = m.length := by
 obtain ⟨o, h1, h2⟩ := downs_loop m hm m.length [] (by omega) (by simp; omega)
 refine ⟨o, ?_, by simpa using h2⟩
 unfold spec_downs.f
 rw [wrapI (by omega)]
 exact h1
theorem withoutP_loop (m e : List ByteArray) (hm : m.length ≤ 1000) (he : e.length ≤ 1000) : ∀ (t : List ByteArray) (i : Nat) (a : List ByteArray), m.drop i = t → i ≤ m.length → a.length ≤ i →
  Ev (fun k => spec_without.l0 k m e a (i : Int)) (a ++ t.filter fun y => !memB e y) := by
 intro t
 induction t with
 | nil =>
  intro i a h hi ha
  have hl2 := drop_nil h
  exact Ev.step (fun k => rfl) (Ev.iteF (by omega) (Ev.some_ (by simp)))
 | cons b t ih =>
  intro i a h hi ha
  obtain ⟨hl2, hb, ht⟩ := drop_cons h
  refine Ev.step (fun k => rfl) (Ev.iteT (by omega) (Ev.iteT (by omega) ?_))
  rw [rdOf_nat _ _ _ hl2, hb]
  refine Ev.bind (hasText_ev e b (by omega)) ?_
  cases c : memB e b with
  | true =>
   refine Ev.iteT rfl ?_
   rw [wrapN (by omega)]
   have := ih (i + 1) a ht (by omega) (by omega)
   simpa [List.filter_cons, c] using this
  | false =>
   refine Ev.iteF (by simp) (Ev.iteT (by omega) ?_)
   rw [wrapN (by omega)]
   have := ih (i + 1) (a ++ [b]) ht (by omega) (by simp; omega)
   simpa [List.filter_cons, c] using this
theorem withoutP_ev (m e : List ByteArray) (hm : m.length ≤ 1000) (he : e.length ≤ 1000) : Ev (fun k => spec_without.f k m e) (m.filter fun y => !memB e y) :=
 withoutP_loop m e hm he m 0 [] rfl (Nat.zero_le _) (by simp)
theorem closure_l2 (l : List S133) (T : List S137) (hl : SmFS l) (m : List ByteArray) (hm : m.length ≤ 100) (hs : ∀ y ∈ m, y ∈ namesF l) : ∀ (n : Nat) (a : List ByteArray), n ≤ 3 → a.length + 100 * n ≤ 300 → (∀ y ∈ a, y ∈ namesF l) →
  ∃ o, Ev (fun k => spec_closure.l2 k m a ((n : Int) - 1) l T) o ∧ (∀ y ∈ o, y ∈ namesF l) ∧ o.length ≤ 300 := by
 have hll := hl.len
 intro n
 induction n with
 | zero =>
  intro a hn ha hA
  exact ⟨a, ⟨1, fun k hk => by obtain ⟨k', rfl⟩ : ∃ k', k = k' + 1 := ⟨k - 1, by omega⟩; show (if ((0 : Nat) : Int) - 1 ≥ 0 then spec_closure.l3 k' m a (((0 : Nat) : Int) - 1) 0 l T else some a) = some a; exact if_neg (by omega)⟩, hA, by omega⟩
 | succ n ih =>
  intro a hn ha hA
  have loop : ∀ (d i : Nat) (a : List ByteArray), i + d = m.length → a.length + 100 * n + d ≤ 300 → (∀ y ∈ a, y ∈ namesF l) →
    ∃ o, Ev (fun k => spec_closure.l3 k m a (((n + 1 : Nat) : Int) - 1) (i : Int) l T) o ∧ (∀ y ∈ o, y ∈ namesF l) ∧ o.length ≤ 300 := by
   intro d
   induction d with
   | zero =>
    intro i a hi ha hA
    obtain ⟨o, h1, h2⟩ := ih a (by omega) (by omega) hA
    refine ⟨o, Ev.step (fun k => rfl) (Ev.iteF (by omega) ?_), h2⟩
    rw [show wrap64 (((n + 1 : Nat) : Int) - 1 - 1) = (n : Int) - 1 by rw [wrapI (by omega)]; omega]
    exact h1
   | succ d ihd =>
    intro i a hi ha hA
    have hi2 : i < m.length := by omega
    have hmem : rdOf ByteArray.empty m (i : Int) ∈ namesF l := by rw [rdOf_nat _ _ _ hi2]; exact hs _ (List.getElem_mem hi2)
    obtain ⟨j, hj, hjl⟩ := fixtureIn_ev l (by omega) (rdOf ByteArray.empty m (i : Int)) hmem
    by_cases c : (rd_T133 l (j : Int)).f1 = ((n + 1 : Nat) : Int) - 1
    ·obtain ⟨o, h1, h2⟩ := ihd (i + 1) (a ++ [rdOf ByteArray.empty m (i : Int)]) (by omega) (by simp; omega) (fun y hy => (List.mem_append.1 hy).elim (hA y) fun h => by rw [List.mem_singleton.1 h]; exact hmem)
     refine ⟨o, Ev.step (fun k => rfl) (Ev.iteT (by omega) (Ev.iteT (by omega) (Ev.bind hj (Ev.iteT (by omega) (Ev.iteT (by omega) (Ev.iteT c (Ev.iteT (by omega) ?_))))))), h2⟩
     rw [wrapN (by omega)]
     exact h1
    ·obtain ⟨o, h1, h2⟩ := ihd (i + 1) a (by omega) (by omega) hA
     refine ⟨o, Ev.step (fun k => rfl) (Ev.iteT (by omega) (Ev.iteT (by omega) (Ev.bind hj (Ev.iteT (by omega) (Ev.iteT (by omega) (Ev.iteF c ?_)))))), h2⟩
     rw [wrapN (by omega)]
     exact h1
  obtain ⟨o, h1, h2⟩ := loop m.length 0 a (by omega) (by omega) hA
  exact ⟨o, Ev.step (fun k => rfl) (Ev.iteT (by omega) h1), h2⟩
theorem closure_l1 (l : List S133) (T : List S137) (hl : SmFS l) (s u : ByteArray) (ma ne : List ByteArray) (hne : ne.length ≤ 1000) : ∀ (d i : Nat) (m : List ByteArray), i + d = ne.length → (∀ y ∈ m, y ∈ namesF l) → m.Nodup →
  ∃ o, Ev (fun k => spec_closure.l1 k m (i : Int) l T s u ma ne) o ∧ (∀ y ∈ o, y ∈ namesF l) ∧ o.length ≤ 300 := by
 intro d
 induction d with
 | zero =>
  intro i m hi hs hd
  obtain ⟨o, h1, h2⟩ := closure_l2 l T hl m (fewF hl hs hd) hs 3 [] (by omega) (by simp) (fun y hy => by cases hy)
  exact ⟨o, Ev.step (fun k => rfl) (Ev.iteF (by omega) h1), h2⟩
 | succ d ih =>
  intro i m hi hs hd
  obtain ⟨o, h1, h2, h3⟩ := reach0_ev l T hl (rdOf ByteArray.empty ne (i : Int)) m hs hd
  obtain ⟨q, h4, h5⟩ := ih (i + 1) o (by omega) h2 h3
  refine ⟨q, Ev.step (fun k => rfl) (Ev.iteT (by omega) (Ev.iteT (by omega) (Ev.bind h1 ?_))), h5⟩
  rw [wrapN (by omega)]
  exact h4
theorem closure_l0 (l : List S133) (T : List S137) (hl : SmFS l) (s u : ByteArray) (ma ne : List ByteArray) (hne : ne.length ≤ 1000) : ∀ (d i : Nat) (m : List ByteArray), i + d = l.length → (∀ y ∈ m, y ∈ namesF l) → m.Nodup →
  ∃ o, Ev (fun k => spec_closure.l0 k m (i : Int) l T s u ma ne) o ∧ (∀ y ∈ o, y ∈ namesF l) ∧ o.length ≤ 300 := by
 have hll := hl.len
 intro d
 induction d with
 | zero =>
  intro i m hi hs hd
  obtain ⟨o, h1, h2⟩ := closure_l1 l T hl s u ma ne hne ne.length 0 m (by omega) hs hd
  exact ⟨o, Ev.step (fun k => rfl) (Ev.iteF (by omega) h1), h2⟩
 | succ d ih =>
  intro i m hi hs hd
  cases c : (rd_T133 l (i : Int)).f3 with
  | true =>
   obtain ⟨o, h1, h2, h3⟩ := reach0_ev l T hl (rd_T133 l (i : Int)).f0 m hs hd
   obtain ⟨q, h4, h5⟩ := ih (i + 1) o (by omega) h2 h3
   refine ⟨q, Ev.step (fun k => rfl) (Ev.iteT (by omega) (Ev.iteT (by omega) (Ev.iteT c (Ev.bind h1 ?_)))), h5⟩
   rw [wrapN (by omega)]
   exact h4
  | false =>
   obtain ⟨q, h4, h5⟩ := ih (i + 1) m (by omega) hs hd
   refine ⟨q, Ev.step (fun k => rfl) (Ev.iteT (by omega) (Ev.iteT (by omega) (Ev.iteF (by rw [c]; simp) ?_))), h5⟩
   rw [wrapN (by omega)]
   exact h4
theorem closure_ev (l : List S133) (T : List S137) (hl : SmFS l) (s u : ByteArray) (ma ne : List ByteArray) (hne : ne.length ≤ 1000) : ∃ o, Ev (fun k => spec_closure.f k l T s u ma ne) o ∧ (∀ y ∈ o, y ∈ namesF l) ∧ o.length ≤ 300 :=
 closure_l0 l T hl s u ma ne hne l.length 0 [] (by omega) (fun y hy => by cases hy) .nil
theorem planOf_l1 (l : List S133) (T : List S137) (hl : SmFS l) (hT : SmTS T) (i0 : Nat) (h0 : i0 < T.length) (q : S137) (hq : SmT q) (m : List ByteArray) (hm : m.length ≤ 300) (hs : ∀ y ∈ m, y ∈ namesF l)
  (R : ∀ (a : List S70) (v : List ByteArray), a.length ≤ 1000 * (i0 + 1) → (∀ y ∈ v, y ∈ namesF l) → v.Nodup → ∃ o, Ev (fun k => spec_planOf.l0 k a v ((i0 + 1 : Nat) : Int) l T) o ∧ o.length ≤ 2000000) :
  ∀ (d i : Nat) (a : List S70) (v : List ByteArray), i + d = m.length → a.length ≤ 1000 * i0 + 100 + i → (∀ y ∈ v, y ∈ namesF l) → v.Nodup →
   ∃ o, Ev (fun k => spec_planOf.l1 k a v (i0 : Int) m (i : Int) l T q.f0 q.f1 q.f2 q.f3) o ∧ o.length ≤ 2000000 := by
 have hTl := hT.len
 intro d
 induction d with
 | zero =>
  intro i a v hi ha hv hd
  have hvl := fewF hl hv hd
  obtain ⟨e, he, hel⟩ := liveScope_ev l T hl v (by omega) hv 0
  obtain ⟨w, hw, hwl⟩ := downs_ev e (by omega)
  obtain ⟨o, h1, h2⟩ := R ((a ++ [(⟨2, idV q⟩ : S70)]) ++ w) (v.filter fun y => !memB e y) (by simp; omega) (fun y hy => hv y (List.mem_filter.1 hy).1) (hd.sublist List.filter_sublist)
  refine ⟨o, Ev.step (fun k => rfl) (Ev.iteF (by omega) (Ev.bind0 (specIdOf_eq q hq.sizes) (Ev.iteT (by omega) (Ev.bind0 rfl (Ev.bind he (Ev.bind hw (Ev.iteT (by simp; omega) (Ev.bind (withoutP_ev v e (by omega) (by omega)) ?_)))))))), h2⟩
  rw [wrapN (by omega)]
  exact h1
 | succ d ih =>
  intro i a v hi ha hv hd
  have hvl := fewF hl hv hd
  have hi2 : i < m.length := by omega
  have hmem : rdOf ByteArray.empty m (i : Int) ∈ namesF l := by rw [rdOf_nat _ _ _ hi2]; exact hs _ (List.getElem_mem hi2)
  have hh := hasText_ev v (rdOf ByteArray.empty m (i : Int)) (by omega)
  cases c : memB v (rdOf ByteArray.empty m (i : Int)) with
  | true =>
   obtain ⟨o, h1, h2⟩ := ih (i + 1) a v (by omega) (by omega) hv hd
   refine ⟨o, Ev.step (fun k => rfl) (Ev.iteT (by omega) (Ev.iteT (by omega) (Ev.bind hh (Ev.iteT c ?_)))), h2⟩
   rw [wrapN (by omega)]
   exact h1
  | false =>
   obtain ⟨o, h1, h2⟩ := ih (i + 1) (a ++ [(⟨0, rdOf ByteArray.empty m (i : Int)⟩ : S70)]) (v ++ [rdOf ByteArray.empty m (i : Int)]) (by omega) (by simp; omega) (fun y hy => (List.mem_append.1 hy).elim (hv y) fun h => by rw [List.mem_singleton.1 h]; exact hmem) (nodup_snoc hd (memB_not.1 c))
   refine ⟨o, Ev.step (fun k => rfl) (Ev.iteT (by omega) (Ev.iteT (by omega) (Ev.bind hh (Ev.iteF (by rw [c]; simp) (Ev.iteT (by omega) (Ev.iteT (by omega) ?_)))))), h2⟩
   rw [wrapN (by omega)]
   exact h1
theorem planOf_j2 (l : List S133) (T : List S137) (hl : SmFS l) (hT : SmTS T) (i0 : Nat) (h0 : i0 < T.length) (q : S137) (hq : SmT q)
  (R : ∀ (a : List S70) (v : List ByteArray), a.length ≤ 1000 * (i0 + 1) → (∀ y ∈ v, y ∈ namesF l) → v.Nodup → ∃ o, Ev (fun k => spec_planOf.l0 k a v ((i0 + 1 : Nat) : Int) l T) o ∧ o.length ≤ 2000000)
  (a : List S70) (v : List ByteArray) (ha : a.length ≤ 1000 * i0 + 100) (hv : ∀ y ∈ v, y ∈ namesF l) (hd : v.Nodup) : ∃ o, Ev (fun k => spec_planOf.j2 k a v (i0 : Int) l T q.f0 q.f1 q.f2 q.f3) o ∧ o.length ≤ 2000000 := by
 obtain ⟨m, h1, h2, h3⟩ := closure_ev l T hl q.f0 q.f1 q.f2 q.f3 hq.r3.len
 obtain ⟨o, h4, h5⟩ := planOf_l1 l T hl hT i0 h0 q hq m h3 h2 R m.length 0 a v (by omega) (by omega) hv hd
 exact ⟨o, Ev.step (fun k => rfl) (Ev.bind h1 h4), h5⟩
theorem planOf_j1 (l : List S133) (T : List S137) (hl : SmFS l) (hT : SmTS T) (i0 : Nat) (h0 : i0 < T.length) (q : S137) (hq : SmT q)
  (R : ∀ (a : List S70) (v : List ByteArray), a.length ≤ 1000 * (i0 + 1) → (∀ y ∈ v, y ∈ namesF l) → v.Nodup → ∃ o, Ev (fun k => spec_planOf.l0 k a v ((i0 + 1 : Nat) : Int) l T) o ∧ o.length ≤ 2000000)
  (c : Bool) (a : List S70) (v : List ByteArray) (ha : a.length ≤ 1000 * i0) (hv : ∀ y ∈ v, y ∈ namesF l) (hd : v.Nodup) : ∃ o, Ev (fun k => spec_planOf.j1 k a v (i0 : Int) c l T q.f0 q.f1 q.f2 q.f3) o ∧ o.length ≤ 2000000 := by
 have hvl := fewF hl hv hd
 have hTl := hT.len
 by_cases hc : c = true
 ·obtain ⟨e, he, hel⟩ := liveScope_ev l T hl v (by omega) hv 1
  obtain ⟨w, hw, hwl⟩ := downs_ev e (by omega)
  obtain ⟨o, h1, h2⟩ := planOf_j2 l T hl hT i0 h0 q hq R (a ++ w) (v.filter fun y => !memB e y) (by simp; omega) (fun y hy => hv y (List.mem_filter.1 hy).1) (hd.sublist List.filter_sublist)
  exact ⟨o, Ev.step (fun k => rfl) (Ev.iteT hc (Ev.bind he (Ev.bind hw (Ev.iteT (by omega) (Ev.bind (withoutP_ev v e (by omega) (by omega)) h1))))), h2⟩
 ·obtain ⟨o, h1, h2⟩ := planOf_j2 l T hl hT i0 h0 q hq R a v (by omega) hv hd
  exact ⟨o, Ev.step (fun k => rfl) (Ev.iteF hc h1), h2⟩
theorem planOf_l0 (l : List S133) (T : List S137) (hl : SmFS l) (hT : SmTS T) : ∀ (d i : Nat) (a : List S70) (v : List ByteArray), i + d = T.length → a.length ≤ 1000 * i → (∀ y ∈ v, y ∈ namesF l) → v.Nodup →
  ∃ o, Ev (fun k => spec_planOf.l0 k a v (i : Int) l T) o ∧ o.length ≤ 2000000 := by
 have hTl := hT.len
 intro d
 induction d with
 | zero =>
  intro i a v hi ha hv hd
  have hvl := fewF hl hv hd
  obtain ⟨w, hw, hwl⟩ := downs_ev v (by omega)
  exact ⟨a ++ w, Ev.step (fun k => rfl) (Ev.iteF (by omega) (Ev.bind hw (Ev.iteT (by omega) (Ev.some_ rfl)))), by simp; omega⟩
 | succ d ih =>
  intro i a v hi ha hv hd
  have hi2 : i < T.length := by omega
  have R := fun (a : List S70) (v : List ByteArray) (h1 : a.length ≤ 1000 * (i + 1)) (h2 : ∀ y ∈ v, y ∈ namesF l) (h3 : v.Nodup) => ih (i + 1) a v (by omega) h1 h2 h3
  have J := fun c => planOf_j1 l T hl hT i hi2 T[i] (hT.one _ (List.getElem_mem hi2)) R c a v ha hv hd
  by_cases c : (i : Int) > 0
  ·have e : wrap64 ((i : Int) - 1) = ((i - 1 : Nat) : Int) := by rw [wrapI (by omega)]; omega
   obtain ⟨o, h1, h2⟩ := J ((rd_T137 T (wrap64 ((i : Int) - 1))).f0.toList != (rd_T137 T (i : Int)).f0.toList)
   refine ⟨o, Ev.step (fun k => rfl) (Ev.iteT (by omega) (Ev.iteT (by omega) (Ev.iteT c (Ev.iteT (by rw [e]; omega) (Ev.iteT (by rw [e]; omega) ?_))))), h2⟩
   rw [rdT_nat _ _ hi2] at h1 ⊢
   exact h1
  ·obtain ⟨o, h1, h2⟩ := J false
   refine ⟨o, Ev.step (fun k => rfl) (Ev.iteT (by omega) (Ev.iteT (by omega) (Ev.iteF c ?_))), h2⟩
   rw [rdT_nat _ _ hi2]
   exact h1
theorem planOf_ev (l : List S133) (T : List S137) (hl : SmFS l) (hT : SmTS T) : ∃ o, Ev (fun k => spec_planOf.f k l T) o ∧ o.length ≤ 2000000 :=
 planOf_l0 l T hl hT T.length 0 [] [] (by omega) (by simp) (fun y hy => by cases hy) .nil
theorem needsIn_loop {b : List Int} (hb : Code_ b) (x1 : List ByteArray) (h1l : 1 ≤ x1.length) (hx : SmL x1) : ∀ (n : Nat) (l : List ByteArray) (p : Int), l.length + n ≤ 100 → (∀ x ∈ l, x ∈ x1) → 0 ≤ p → p + n ≤ 1000000 →
  ∃ m, Ev (fun k => spec_someNeeds.l0 k x1 l (n : Int) b p) (m, p + n) ∧ m.length ≤ 100 ∧ ∀ x ∈ m, x ∈ x1 := by
 have hxl := hx.len
 intro n
 induction n with
 | zero =>
  intro l p hl hz h0 h1
  exact ⟨l, Ev.step (fun k => rfl) (Ev.iteF (by omega) (Ev.some_ (by simp))), by omega, hz⟩
 | succ n ih =>
  intro l p hl hz h0 h1
  obtain ⟨v, hv, v0, v1⟩ := pick_ev hb p (x1.length : Int) h0 (by omega) (by omega)
  have v2 := v1 (by omega)
  obtain ⟨j, rfl⟩ := Int.eq_ofNat_of_zero_le v0
  have hj : j < x1.length := by omega
  obtain ⟨o, ho, ho1, ho2⟩ := addText2_ev l (rdOf ByteArray.empty x1 (j : Int)) (by omega)
  obtain ⟨m, hm, hm2⟩ := ih o (p + 1) (by omega) (fun x hx2 => by
   rcases ho2 x hx2 with h | rfl
   ·exact hz x h
   ·rw [rdOf_nat _ _ _ hj]; exact List.getElem_mem hj) (by omega) (by omega)
  refine ⟨m, Ev.step (fun k => rfl) (Ev.iteT (by omega) (Ev.bind hv (Ev.iteT (by omega) (Ev.iteT (by omega) (Ev.bind ho ?_))))), hm2⟩
  rw [predT (by omega), show p + ((n + 1 : Nat) : Int) = p + 1 + n by omega]
  exact hm
theorem needsIn_ev {b : List Int} (hb : Code_ b) (p : Int) (h0 : 0 ≤ p) (h1 : p ≤ 900000) (x1 : List ByteArray) (hx : SmL x1) : ∃ m q, Ev (fun k => spec_someNeeds.f k b p x1) (m, q) ∧ SmL m ∧ (∀ x ∈ m, x ∈ x1) ∧ p ≤ q ∧ q ≤ p + 4 := by
 unfold spec_someNeeds.f
 by_cases c : (x1.length : Int) = 0
 ·exact ⟨[], p, Ev.bind0 rfl (Ev.iteT c (Ev.some_ rfl)), SmL.nil, fun x hx => (by cases hx), by omega, by omega⟩
 ·obtain ⟨y, hy, he⟩ := one_ev hb p h0 (by omega) [1, 2, 0, 1, 3] (by decide) (by decide)
  have hy2 : 0 ≤ y ∧ y ≤ 3 := by
   simp only [List.mem_cons, List.not_mem_nil, or_false] at hy
   omega
  obtain ⟨n, rfl⟩ := Int.eq_ofNat_of_zero_le hy2.1
  obtain ⟨m, hm, hs, ht⟩ := needsIn_loop hb x1 (by omega) hx n [] (p + 1) (by simp; omega) (fun x hx => by cases hx) (by omega) (by omega)
  exact ⟨m, _, Ev.bind0 rfl (Ev.iteF c (Ev.bind he hm)), ⟨by omega, fun x h => hx.one x (ht x h)⟩, ht, by omega, by omega⟩
theorem SmFS.names {l : List S133} (h : SmFS l) : SmL (namesF l) := ⟨by have := h.len; rw [namesF_length]; omega, fun x hx => by obtain ⟨f, hf, rfl⟩ := List.mem_map.1 hx; exact (h.one f hf).s0⟩
theorem SmFS.snoc {l : List S133} (h : SmFS l) (hl : l.length < 100) {f : S133} (hf : SmF f) : SmFS (l ++ [f]) := ⟨by simp; omega, fun g hg => (List.mem_append.1 hg).elim (h.one g) fun e => by rw [List.mem_singleton.1 e]; exact hf⟩
/-- A drawn suite, and where the reader stands. -/
structure SmSu (l : List S133) (T : List S137) (q : Int) : Prop where
 fs : SmFS l
 ts : SmTS T
 p0 : 0 ≤ q
 p1 : q ≤ 10000
theorem goodSuite_l1 {b : List Int} (N : List ByteArray) (hN : SmL N) (n i0 : Nat) (h0 : i0 < N.length) (h6 : i0 < 50) (l : List S133) (hl : SmFS l) (hll : l.length = i0) (p : Int) (m : List ByteArray) (hm : SmL m) (hs : ∀ x ∈ m, x ∈ namesF l) (au : Bool)
  (R : ∀ l' : List S133, SmFS l' → l'.length = i0 + 1 → ∃ r T q, Ev (fun k => spec_goodSuite.l0 k N (n : Int) (namesF l') ((i0 + 1 : Nat) : Int) b p l') (r, T, q) ∧ SmSu r T q) :
  ∀ (d j : Nat) (sc : Int), j + d = m.length → ∃ r T q, Ev (fun k => spec_goodSuite.l1 k N (n : Int) (namesF l) (i0 : Int) (j : Int) b p l N[i0] sc m au) (r, T, q) ∧ SmSu r T q := by
 have hml := hm.len
 have hnl := namesF_length l
 intro d
 induction d with
 | zero =>
  intro j sc hj
  obtain ⟨r, T, q, h1, h2⟩ := R (l ++ [(⟨N[i0], sc, m, au⟩ : S133)]) (hl.snoc (by omega) ⟨hN.one _ (List.getElem_mem h0), hm⟩) (by simp; omega)
  refine ⟨r, T, q, Ev.step (fun k => rfl) (Ev.iteF (by omega) (Ev.iteT (by omega) (Ev.iteT (by omega) ?_))), h2⟩
  rw [wrapN (by omega)]
  simpa [namesF] using h1
 | succ d ih =>
  intro j sc hj
  have hj2 : j < m.length := by omega
  obtain ⟨a, ha, hal⟩ := fixtureIn_ev l (by omega) (rdOf ByteArray.empty m (j : Int)) (by rw [rdOf_nat _ _ _ hj2]; exact hs _ (List.getElem_mem hj2))
  obtain ⟨r, T, q, h1, h2⟩ := ih (j + 1) (mn sc (rd_T133 l (a : Int)).f1) (by omega)
  refine ⟨r, T, q, Ev.step (fun k => rfl) (Ev.iteT (by omega) (Ev.iteT (by omega) (Ev.bind ha (Ev.iteT (by omega) (Ev.iteT (by omega) ?_))))), h2⟩
  rw [wrapN (by omega)]
  exact h1
theorem goodSuite_l0 {b : List Int} (hb : Code_ b) (N : List ByteArray) (hN : SmL N) (n : Nat) (hn : n ≤ N.length) (hn50 : n ≤ 50) : ∀ (d i : Nat) (l : List S133) (p : Int), i + d = n → l.length = i → SmFS l → 0 ≤ p → p + 10 * d ≤ 1000 →
  ∃ r T q, Ev (fun k => spec_goodSuite.l0 k N (n : Int) (namesF l) (i : Int) b p l) (r, T, q) ∧ SmSu r T q := by
 intro d
 induction d with
 | zero =>
  intro i l p hi hl hs h0 h1
  obtain ⟨m, q, hm, g1, g2, g3, g4⟩ := goodTests_ev hb p h0 (by omega) (namesF l) hs.names
  exact ⟨l, m, q, Ev.step (fun k => rfl) (Ev.iteF (by omega) (Ev.bind hm (Ev.some_ rfl))), ⟨hs, ⟨by omega, g2⟩, g3, by omega⟩⟩
 | succ d ih =>
  intro i l p hi hl hs h0 h1
  have hi2 : i < N.length := by omega
  obtain ⟨v, hv, v0, v1⟩ := pick_ev hb p 3 h0 (by omega) (by omega)
  obtain ⟨m, q, hm, hm1, hm2, q0, q1⟩ := needsIn_ev hb (p + 1) (by omega) (by omega) (namesF l) hs.names
  obtain ⟨u, hu, u0, u1⟩ := pick_ev hb q 6 (by omega) (by omega) (by omega)
  obtain ⟨r, T, z, h2, h3⟩ := goodSuite_l1 (b := b) N hN n i hi2 (by omega) l hs hl (q + 1) m hm1 hm2 (u == 0) (fun l' h4 h5 => ih (i + 1) l' (q + 1) (by omega) h5 h4 (by omega) (by omega)) m.length 0 v (by omega)
  refine ⟨r, T, z, Ev.step (fun k => rfl) (Ev.iteT (by omega) (Ev.iteT (by omega) (Ev.iteT (by omega) (Ev.bind hv (Ev.bind hm (Ev.bind hu ?_)))))), h3⟩
  rw [rdOf_nat _ _ _ hi2]
  exact h2
theorem goodSuite_ev {b : List Int} (hb : Code_ b) : ∃ r T q, Ev (fun k => spec_goodSuite.f k b 0) (r, T, q) ∧ SmSu r T q := by
 obtain ⟨y, hy, he⟩ := one_ev hb 0 (by omega) (by omega) [3, 4, 2, 5, 1, 0, 6] (by decide) (by decide)
 have hy2 : 0 ≤ y ∧ y ≤ 6 := by
  simp only [List.mem_cons, List.not_mem_nil, or_false] at hy
  omega
 obtain ⟨n, rfl⟩ := Int.eq_ofNat_of_zero_le hy2.1
 obtain ⟨r, T, q, h1, h2⟩ := goodSuite_l0 hb [(⟨#[100, 98]⟩ : ByteArray), (⟨#[116, 109, 112]⟩ : ByteArray), (⟨#[110, 101, 116]⟩ : ByteArray), (⟨#[117, 115, 101, 114]⟩ : ByteArray), (⟨#[108, 111, 103]⟩ : ByteArray), (⟨#[97, 112, 112]⟩ : ByteArray)]
  (small_lit _ (by decide)) n (by simp; omega) (by omega) n 0 [] (0 + 1) (by omega) rfl ⟨by simp, fun f hf => by cases hf⟩ (by omega) (by omega)
 exact ⟨r, T, q, Ev.bind he h1, h2⟩
theorem SmFS.set {l : List S133} (h : SmFS l) (j : Nat) {f : S133} (hf : SmF f) : SmFS (l.set j f) := ⟨by rw [List.length_set]; exact h.len, fun g hg => (List.mem_or_eq_of_mem_set hg).elim (h.one g) fun e => by rw [e]; exact hf⟩
theorem someSuite_ev {b : List Int} (hb : Code_ b) : ∃ r T q, Ev (fun k => spec_someSuite.f k b 0) (r, T, q) ∧ SmFS r ∧ SmTS T ∧ 0 ≤ q ∧ q ≤ 20000 := by
 obtain ⟨l, T, q, h1, hs⟩ := goodSuite_ev hb
 have hl := hs.fs.len
 have q0 := hs.p0
 have q1 := hs.p1
 by_cases c : (l.length : Int) > 0
 ·obtain ⟨v, hv, v0, v1⟩ := pick_ev hb q (l.length : Int) q0 (by omega) (by omega)
  have v2 := v1 (by omega)
  obtain ⟨j, rfl⟩ := Int.eq_ofNat_of_zero_le v0
  have hj : j < l.length := by omega
  have hf := hs.fs.one _ (List.getElem_mem hj)
  rw [← rdF_nat l j hj] at hf
  obtain ⟨u, hu, u0, u1⟩ := pick_ev hb (q + 1) 24 (by omega) (by omega) (by omega)
  have G : ∀ {r T' q'}, Ev (fun k => if u = 0 then ((spec_reader_one.f k b (q + 1 + 1) (([(-1), 3, 2] : List Int))).bind fun bt320 => (if 0 ≤ (j : Int) then (if (j : Int) < (l.length : Int) then (some ((l.set ((j : Int) : Int).toNat (⟨(rd_T133 l j).f0, bt320.1, (rd_T133 l j).f2, (rd_T133 l j).f3⟩ : S133)), T, bt320.2)) else (none)) else (none))) else (if u = 1 then ((spec_reader_of.f k b (q + 1 + 1) (([(⟨#[100, 98]⟩ : ByteArray), (⟨#[97, 112, 112]⟩ : ByteArray), (⟨#[110, 111]⟩ : ByteArray), (⟨#[116, 109, 112]⟩ : ByteArray)] : List ByteArray))).bind fun bt326 => (if 0 ≤ (j : Int) then (if (j : Int) < (l.length : Int) then (some ((l.set ((j : Int) : Int).toNat (⟨(rd_T133 l j).f0, (rd_T133 l j).f1, (([bt326.1] : List ByteArray)), (rd_T133 l j).f3⟩ : S133)), T, bt326.2)) else (none)) else (none))) else (if u = 2 then ((spec_reader_of.f k b (q + 1 + 1) (([(⟨#[100, 98]⟩ : ByteArray), (⟨#[88]⟩ : ByteArray), (⟨#[110, 101, 119]⟩ : ByteArray)] : List ByteArray))).bind fun bt335 => (if 0 ≤ (j : Int) then (if (j : Int) < (l.length : Int) then (some ((l.set ((j : Int) : Int).toNat (⟨bt335.1, (rd_T133 l j).f1, (rd_T133 l j).f2, (rd_T133 l j).f3⟩ : S133)), T, bt335.2)) else (none)) else (none))) else (some (l, T, q + 1 + 1))))) (r, T', q') → Ev (fun k => spec_someSuite.f k b 0) (r, T', q') :=
   fun h => Ev.bind h1 (Ev.iteT c (Ev.bind hv (Ev.bind hu h)))
  by_cases c0 : u = 0
  ·obtain ⟨y, hy, he⟩ := one_ev hb (q + 1 + 1) (by omega) (by omega) [(-1), 3, 2] (by decide) (by decide)
   exact ⟨_, _, _, G (Ev.iteT c0 (Ev.bind he (Ev.iteT (by omega) (Ev.iteT (by omega) (Ev.some_ rfl))))), hs.fs.set _ ⟨hf.s0, hf.r2⟩, hs.ts, by omega, by omega⟩
  ·by_cases c1 : u = 1
   ·obtain ⟨y, hy, he⟩ := of_ev hb (q + 1 + 1) (by omega) (by omega) [(⟨#[100, 98]⟩ : ByteArray), (⟨#[97, 112, 112]⟩ : ByteArray), (⟨#[110, 111]⟩ : ByteArray), (⟨#[116, 109, 112]⟩ : ByteArray)] (by decide) (by decide)
    have hy2 := (small_lit [(⟨#[100, 98]⟩ : ByteArray), (⟨#[97, 112, 112]⟩ : ByteArray), (⟨#[110, 111]⟩ : ByteArray), (⟨#[116, 109, 112]⟩ : ByteArray)] (by decide)).one y hy
    exact ⟨_, _, _, G (Ev.iteF c0 (Ev.iteT c1 (Ev.bind he (Ev.iteT (by omega) (Ev.iteT (by omega) (Ev.some_ rfl)))))), hs.fs.set _ ⟨hf.s0, ⟨by simp, fun x hx => by rw [List.mem_singleton.1 hx]; exact hy2⟩⟩, hs.ts, by omega, by omega⟩
   ·by_cases c2 : u = 2
    ·obtain ⟨y, hy, he⟩ := of_ev hb (q + 1 + 1) (by omega) (by omega) [(⟨#[100, 98]⟩ : ByteArray), (⟨#[88]⟩ : ByteArray), (⟨#[110, 101, 119]⟩ : ByteArray)] (by decide) (by decide)
     have hy2 := (small_lit [(⟨#[100, 98]⟩ : ByteArray), (⟨#[88]⟩ : ByteArray), (⟨#[110, 101, 119]⟩ : ByteArray)] (by decide)).one y hy
     exact ⟨_, _, _, G (Ev.iteF c0 (Ev.iteF c1 (Ev.iteT c2 (Ev.bind he (Ev.iteT (by omega) (Ev.iteT (by omega) (Ev.some_ rfl))))))), hs.fs.set _ ⟨hy2, hf.r2⟩, hs.ts, by omega, by omega⟩
    ·exact ⟨_, _, _, G (Ev.iteF c0 (Ev.iteF c1 (Ev.iteF c2 (Ev.some_ rfl)))), hs.fs, hs.ts, by omega, by omega⟩
 ·exact ⟨l, T, q, Ev.bind h1 (Ev.iteF c (Ev.some_ rfl)), hs.fs, hs.ts, by omega, by omega⟩
theorem someEvents_j0 {b : List Int} (hb : Code_ b) (l : List S133) (T : List S137) (E : List S70) (hE : E.length ≤ 2000000) (c : Bool) (hc : c = true → 0 < E.length) (p : Int) (h0 : 0 ≤ p) (h1 : p ≤ 100000) :
  ∃ o q, Ev (fun k => spec_someEvents.j0 k E c b p l T) (l, T, o, q) ∧ o.length ≤ 2000000 ∧ 0 ≤ q ∧ q ≤ p + 10 := by
 by_cases c0 : c = true
 ·have hpos := hc c0
  obtain ⟨v, hv, v0, v1⟩ := pick_ev hb p (E.length : Int) h0 (by omega) (by omega)
  have v2 := v1 (by omega)
  obtain ⟨j, rfl⟩ := Int.eq_ofNat_of_zero_le v0
  obtain ⟨u, hu, u0, u1⟩ := pick_ev hb (p + 1) 4 (by omega) (by omega) (by omega)
  have e1 : wrap64 ((j : Int) + 1) = ((j + 1 : Nat) : Int) := wrapN (by omega)
  by_cases d0 : u = 0
  ·refine ⟨(([] ++ E.take ((j : Int) : Int).toNat) ++ E.drop (wrap64 ((j : Int) + 1) : Int).toNat), p + 1 + 1, Ev.step (fun k => rfl) (Ev.iteT c0 (Ev.bind hv (Ev.bind hu (Ev.iteT d0 (Ev.bind0 rfl (Ev.iteT (by omega) (Ev.iteT (by omega) (Ev.bind0 rfl (Ev.iteT ?_ (Ev.bind0 rfl (Ev.iteT ?_ (Ev.iteT ?_ (Ev.bind0 rfl (Ev.iteT ?_ (Ev.some_ rfl))))))))))))))), ?_, by omega, by omega⟩
   ·simp; omega
   ·rw [e1]; omega
   ·rw [e1]; show ((j + 1 : Nat) : Int) ≤ (E.length : Int); omega
   ·rw [e1]; simp; omega
   ·rw [e1]; simp; omega
  ·by_cases d1 : u = 1
   ·exact ⟨_, p + 1 + 1, Ev.step (fun k => rfl) (Ev.iteT c0 (Ev.bind hv (Ev.bind hu (Ev.iteF d0 (Ev.iteT d1 (Ev.iteT (by omega) (Ev.iteT (by omega) (Ev.iteT (by omega) (Ev.some_ rfl))))))))), by rw [List.length_set, List.length_set]; exact hE, by omega, by omega⟩
   ·by_cases d2 : u = 2
    ·obtain ⟨y, hy, he⟩ := of_ev hb (p + 1 + 1) (by omega) (by omega) [(⟨#[100, 98]⟩ : ByteArray), (⟨#[116, 109, 112]⟩ : ByteArray), (⟨#[109, 46, 97]⟩ : ByteArray), (⟨#[110, 111]⟩ : ByteArray)] (by decide) (by decide)
     exact ⟨_, p + 1 + 1 + 1, Ev.step (fun k => rfl) (Ev.iteT c0 (Ev.bind hv (Ev.bind hu (Ev.iteF d0 (Ev.iteF d1 (Ev.iteT d2 (Ev.bind he (Ev.iteT (by omega) (Ev.iteT (by omega) (Ev.some_ rfl)))))))))), by rw [List.length_set]; exact hE, by omega, by omega⟩
    ·obtain ⟨y, hy, he⟩ := one_ev hb (p + 1 + 1) (by omega) (by omega) [0, 1, 2, 3, (-1)] (by decide) (by decide)
     exact ⟨_, p + 1 + 1 + 1, Ev.step (fun k => rfl) (Ev.iteT c0 (Ev.bind hv (Ev.bind hu (Ev.iteF d0 (Ev.iteF d1 (Ev.iteF d2 (Ev.bind he (Ev.iteT (by omega) (Ev.iteT (by omega) (Ev.some_ rfl)))))))))), by rw [List.length_set]; exact hE, by omega, by omega⟩
 ·exact ⟨E, p, Ev.step (fun k => rfl) (Ev.iteF c0 (Ev.some_ rfl)), hE, h0, by omega⟩
theorem someEvents_ev {b : List Int} (hb : Code_ b) : ∃ l T o q, Ev (fun k => spec_someEvents.f k b 0) (l, T, o, q) ∧ o.length ≤ 2000000 ∧ 0 ≤ q ∧ q ≤ 100000 := by
 obtain ⟨l, T, q, h1, h2, h3, q0, q1⟩ := someSuite_ev hb
 obtain ⟨v, hv⟩ := validSuite_ev l T h2 h3
 by_cases c : v = true
 ·obtain ⟨E, hE, hEl⟩ := planOf_ev l T h2 h3
  by_cases c1 : (E.length : Int) > 0
  ·obtain ⟨u, hu, u0, u1⟩ := pick_ev hb q 3 q0 (by omega) (by omega)
   obtain ⟨o, z, h4, h5, z0, z1⟩ := someEvents_j0 hb l T E hEl (u == 0) (fun _ => by omega) (q + 1) (by omega) (by omega)
   exact ⟨l, T, o, z, Ev.bind h1 (Ev.bind hv (Ev.iteT c (Ev.bind hE (Ev.iteT c1 (Ev.bind hu h4))))), h5, z0, by omega⟩
  ·obtain ⟨o, z, h4, h5, z0, z1⟩ := someEvents_j0 hb l T E hEl false (fun h => by cases h) q q0 (by omega)
   exact ⟨l, T, o, z, Ev.bind h1 (Ev.bind hv (Ev.iteT c (Ev.bind hE (Ev.iteF c1 h4)))), h5, z0, by omega⟩
 ·exact ⟨l, T, [], q, Ev.bind h1 (Ev.bind hv (Ev.iteF c (Ev.some_ rfl))), by simp, q0, by omega⟩
theorem rdE_nat (l : List S70) (i : Nat) (h : i < l.length) : rd_T70 l (i : Int) = l[i] := by
 unfold rd_T70
 exact getD_nat _ _ _ h
def upsV (l : List S70) : Nat := (l.filter fun e => decide (e.f0 = 0)).length
theorem implTotalS_loop (l : List S70) (hl : l.length ≤ 2000000) : ∀ (t : List S70) (i n : Nat), l.drop i = t → i ≤ l.length → n ≤ i → Ev (fun k => impl_TotalSetups.l0 k (n : Int) l (l.length : Int) (i : Int)) ((n + upsV t : Nat) : Int) := by
 intro t
 induction t with
 | nil =>
  intro i n h hi hn
  have hl2 := drop_nil h
  exact Ev.step (fun k => rfl) (Ev.iteF (by omega) (Ev.some_ (by simp [upsV])))
 | cons b t ih =>
  intro i n h hi hn
  obtain ⟨hl2, hb, ht⟩ := drop_cons h
  refine Ev.step (fun k => rfl) (Ev.iteT (by omega) (Ev.iteT (by omega) (Ev.iteT (by omega) ?_)))
  rw [rdE_nat _ _ hl2, hb, wrapN (by omega : i < 4611686018427387904)]
  by_cases c : b.f0 = 0
  ·refine Ev.iteT c ?_
   rw [wrapN (by omega)]
   have := ih (i + 1) (n + 1) ht (by omega) (by omega)
   rwa [show n + 1 + upsV t = n + upsV (b :: t) by simp [upsV, List.filter_cons, c]; omega] at this
  ·refine Ev.iteF c ?_
   have := ih (i + 1) n ht (by omega) (by omega)
   rwa [show n + upsV t = n + upsV (b :: t) by simp [upsV, List.filter_cons, c]] at this
theorem implTotalS_ev (l : List S70) (hl : l.length ≤ 2000000) : Ev (fun k => impl_TotalSetups.f k l) (upsV l : Int) := by
 have := implTotalS_loop l hl l 0 0 rfl (Nat.zero_le _) (by omega)
 rwa [Nat.zero_add] at this
def cntV (l : List S70) (x : ByteArray) : Nat := (l.filter fun e => decide (e.f0 = 0) && decide (e.f1 = x)).length
theorem cntV_length (l : List S70) (x : ByteArray) : cntV l x ≤ l.length := List.length_filter_le ..
theorem cntV_yes {b : S70} {x : ByteArray} (t : List S70) (c : b.f0 = 0) (e : b.f1 = x) : cntV (b :: t) x = cntV t x + 1 := by simp [cntV, List.filter_cons, c, e]
theorem cntV_no {b : S70} {x : ByteArray} (t : List S70) (c : ¬ (b.f0 = 0 ∧ b.f1 = x)) : cntV (b :: t) x = cntV t x := by
 unfold cntV
 rw [List.filter_cons, if_neg (by simpa using c)]
theorem implCnt_loop (l : List S70) (x : ByteArray) (hl : l.length ≤ 2000000) : ∀ (t : List S70) (i n : Nat), l.drop i = t → i ≤ l.length → n ≤ i → Ev (fun k => impl_SetupCount.l0 k x (n : Int) l (l.length : Int) (i : Int)) ((n + cntV t x : Nat) : Int) := by
 intro t
 induction t with
 | nil =>
  intro i n h hi hn
  have hl2 := drop_nil h
  exact Ev.step (fun k => rfl) (Ev.iteF (by omega) (Ev.some_ (by simp [cntV])))
 | cons b t ih =>
  intro i n h hi hn
  obtain ⟨hl2, hb, ht⟩ := drop_cons h
  refine Ev.step (fun k => rfl) (Ev.iteT (by omega) (Ev.iteT (by omega) (Ev.iteT (by omega) ?_)))
  rw [rdE_nat _ _ hl2, hb, wrapN (by omega : i < 4611686018427387904)]
  have h0 := ih (i + 1) n ht (by omega) (by omega)
  by_cases c : b.f0 = 0
  ·refine Ev.iteT c ?_
   by_cases e : b.f1 = x
   ·refine Ev.iteT (by rw [e]) ?_
    rw [wrapN (by omega)]
    have := ih (i + 1) (n + 1) ht (by omega) (by omega)
    rwa [show n + 1 + cntV t x = n + cntV (b :: t) x by rw [cntV_yes t c e]; omega] at this
   ·refine Ev.iteF (by rw [toList_iff]; exact e) ?_
    rwa [← cntV_no t (fun h => e h.2)] at h0
  ·refine Ev.iteF c ?_
   rwa [← cntV_no t (fun h => c h.1)] at h0
theorem implCnt_ev (l : List S70) (x : ByteArray) (hl : l.length ≤ 2000000) : Ev (fun k => impl_SetupCount.f k l x) (cntV l x : Int) := by
 have := implCnt_loop l x hl l 0 0 rfl (Nat.zero_le _) (by omega)
 rwa [Nat.zero_add] at this
theorem specCnt_loop (l : List S70) (x : ByteArray) (hl : l.length ≤ 2000000) : ∀ (t : List S70) (i n : Nat), l.drop i = t → i ≤ l.length → n ≤ i → Ev (fun k => spec_SetupCount.l0 k l x (n : Int) (i : Int)) ((n + cntV t x : Nat) : Int) := by
 intro t
 induction t with
 | nil =>
  intro i n h hi hn
  have hl2 := drop_nil h
  exact Ev.step (fun k => rfl) (Ev.iteF (by omega) (Ev.some_ (by simp [cntV])))
 | cons b t ih =>
  intro i n h hi hn
  obtain ⟨hl2, hb, ht⟩ := drop_cons h
  refine Ev.step (fun k => rfl) (Ev.iteT (by omega) (Ev.iteT (by omega) ?_))
  rw [rdE_nat _ _ hl2, hb, wrapN (by omega : i < 4611686018427387904)]
  have h0 := ih (i + 1) n ht (by omega) (by omega)
  by_cases c : b.f0 = 0
  ·refine Ev.iteT c ?_
   by_cases e : b.f1 = x
   ·refine Ev.iteT (by rw [e]) ?_
    rw [wrapN (by omega)]
    have := ih (i + 1) (n + 1) ht (by omega) (by omega)
    rwa [show n + 1 + cntV t x = n + cntV (b :: t) x by rw [cntV_yes t c e]; omega] at this
   ·refine Ev.iteF (by rw [toList_iff]; exact e) ?_
    rwa [← cntV_no t (fun h => e h.2)] at h0
  ·refine Ev.iteF c ?_
   rwa [← cntV_no t (fun h => c h.1)] at h0
theorem specCnt_ev (l : List S70) (x : ByteArray) (hl : l.length ≤ 2000000) : Ev (fun k => spec_SetupCount.f k l x) (cntV l x : Int) := by
 have := specCnt_loop l x hl l 0 0 rfl (Nat.zero_le _) (by omega)
 rwa [Nat.zero_add] at this
/-- How often one of some fixtures comes up. -/
def ofV (l : List S70) (ns : List ByteArray) : Nat := (l.filter fun e => decide (e.f0 = 0) && memB ns e.f1).length
theorem ofV_snoc (ns : List ByteArray) (x : ByteArray) (h : x ∉ ns) : ∀ l : List S70, ofV l (ns ++ [x]) = ofV l ns + cntV l x := by
 intro l
 induction l with
 | nil => rfl
 | cons b t ih =>
  unfold ofV at ih ⊢
  by_cases c : b.f0 = 0
  ·by_cases e : b.f1 = x
   ·have h1 : memB ns b.f1 = false := by rw [e]; exact memB_not.2 h
    have h2 : memB (ns ++ [x]) b.f1 = true := memB_iff.2 (by rw [e]; simp)
    rw [cntV_yes t c e, List.filter_cons, List.filter_cons, if_pos (by rw [h2]; simpa using c), if_neg (by rw [h1]; simp), List.length_cons, ih]
    omega
   ·have h2 : memB (ns ++ [x]) b.f1 = memB ns b.f1 := by
     rw [Bool.eq_iff_iff, memB_iff, memB_iff]
     simp [e]
    rw [cntV_no t (fun h => e h.2), List.filter_cons, List.filter_cons, h2]
    split
    ·rw [List.length_cons, List.length_cons, ih]; omega
    ·exact ih
  ·rw [cntV_no t (fun h => c h.1), List.filter_cons, List.filter_cons, if_neg (by simp [c]), if_neg (by simp [c])]
   exact ih
theorem ofV_one (l : List S70) (x : ByteArray) : ofV l [x] = cntV l x := by
 have h := ofV_snoc [] x (by simp) l
 have h0 : ofV l [] = 0 := by simp [ofV, memB]
 rw [h0] at h
 simpa using h
theorem ofV_all (l : List S70) (ns : List ByteArray) (h : ∀ e ∈ l, e.f1 ∈ ns) : ofV l ns = upsV l := by
 unfold ofV upsV
 congr 1
 exact List.filter_congr fun e he => by rw [memB_iff.2 (h e he), Bool.and_true]
theorem ofV_length (l : List S70) (ns : List ByteArray) : ofV l ns ≤ l.length := List.length_filter_le ..
theorem setupLaw_loop (l : List S70) (hl : l.length ≤ 2000000) : ∀ (d i : Nat) (ns : List ByteArray), i + d = l.length → ns.length ≤ i + 1 → (∀ e ∈ l.take i, e.f1 ∈ ns) → Ev (fun k => laws_FnSetupCount.l0 k l ns (ofV l ns : Int) (i : Int)) true := by
 intro d
 induction d with
 | zero =>
  intro i ns hi hn hs
  have e : l.take i = l := List.take_of_length_le (by omega)
  rw [e] at hs
  rw [ofV_all l ns hs]
  exact Ev.step (fun k => rfl) (Ev.iteF (by omega) (Ev.bind (implTotalS_ev l hl) (Ev.some_ (by simp))))
 | succ d ih =>
  intro i ns hi hn hs
  have hi2 : i < l.length := by omega
  have hT : ∀ {m : List ByteArray}, (∀ e ∈ l.take i, e.f1 ∈ m) → l[i].f1 ∈ m → ∀ e ∈ l.take (i + 1), e.f1 ∈ m := by
   intro m h1 h2 e he
   rw [List.take_succ_eq_append_getElem hi2] at he
   rcases List.mem_append.1 he with he | he
   ·exact h1 e he
   ·rw [List.mem_singleton.1 he]; exact h2
  refine Ev.step (fun k => rfl) (Ev.iteT (by omega) (Ev.iteT (by omega) ?_))
  rw [rdE_nat _ _ hi2, wrapN (by omega : i < 4611686018427387904)]
  refine Ev.bind (lawHasText_ev ns l[i].f1 (by omega)) ?_
  cases c : memB ns l[i].f1 with
  | true => exact Ev.iteT rfl (ih (i + 1) ns (by omega) (by omega) (hT hs (memB_iff.1 c)))
  | false =>
   refine Ev.iteF (by simp) (Ev.iteT (by omega) (Ev.bind (implCnt_ev l l[i].f1 hl) ?_))
   have h0 := ofV_length l ns
   have h1 := cntV_length l l[i].f1
   rw [show wrap64 ((ofV l ns : Int) + (cntV l l[i].f1 : Int)) = ((ofV l (ns ++ [l[i].f1]) : Nat) : Int) by rw [ofV_snoc ns _ (memB_not.1 c), wrapI (by omega)]; omega]
   exact ih (i + 1) (ns ++ [l[i].f1]) (by omega) (by simp; omega) (hT (fun e he => List.mem_append_left _ (hs e he)) (by simp))
end Go.Proofs.Ytieghkchhjailaa.S
