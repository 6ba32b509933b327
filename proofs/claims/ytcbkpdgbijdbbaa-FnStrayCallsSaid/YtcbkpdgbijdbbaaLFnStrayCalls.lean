/- Plain laws, without Go, that the law FnStrayCalls leans on. No condition. -/
import Derived.Test.YtcbkpdgbijdbbaaKx0
import Derived.Test.YtcbkpdgbijdbbaaKx1
import Derived.Test.YtcbkpdgbijdbbaaKx2
import Derived.Test.YtcbkpdgbijdbbaaKx3
import Derived.Test.YtcbkpdgbijdbbaaKx4
import Derived.Test.YtcbkpdgbijdbbaaKx5
import Derived.Test.YtcbkpdgbijdbbaaKx6
import Derived.Test.YtcbkpdgbijdbbaaKx7
import Derived.Test.YtcbkpdgbijdbbaaKx8
import Derived.Test.YtcbkpdgbijdbbaaKx9
import Derived.Test.YtcbkpdgbijdbbaaWMore
import Derived.IntWalk
import Derived.Laws.BitsLemmas
import Derived.Lib.Bytealg
import Derived.Lib.Strings
set_option linter.unusedSimpArgs false
set_option linter.unusedVariables false
namespace Go.Proofs.Ytcbkpdgbijdbbaa.K
open Go.RowKit Go.Proofs.YtcbkpdgbijdbbaaW.PrintWords Go.Proofs.YtcbkpdgbijdbbaaW.PrintLast Go.Proofs.YtcbkpdgbijdbbaaW.PrintMore
theorem Ev.iteT {α : Type} {c : Prop} [Decidable c] {g f : Nat → Option α} {r : α} (h : c) (k : Ev g r) : Ev (fun n => if c then g n else f n) r := by
  simpa only [if_pos h] using k
theorem Ev.iteF {α : Type} {c : Prop} [Decidable c] {g f : Nat → Option α} {r : α} (h : ¬ c) (k : Ev f r) : Ev (fun n => if c then g n else f n) r := by
  simpa only [if_neg h] using k
/-- A callee without rounds. -/
theorem Ev.bind0 {α β : Type} {g : Option α} {f : Nat → α → Option β} {a : α} {r : β} (h : g = some a) (k : Ev (fun n => f n a) r) : Ev (fun n => g.bind (f n)) r := by
  subst h
  simpa only [Option.bind_some] using k
theorem Ev.some_ {α : Type} {x r : α} (h : x = r) : Ev (fun _ => some x) r := ⟨0, fun _ _ => by rw [h]⟩
theorem Ev.bool {b r : Bool} (h : b = r) : Ev (fun _ => some b) r := Ev.some_ h
theorem wrapN {i : Nat} (h : i < 4611686018427387904) : wrap64 ((i : Int) + 1) = ((i + 1 : Nat) : Int) := by
  unfold wrap64
  omega
theorem wrapI {x : Int} (h : -9223372036854775808 ≤ x ∧ x ≤ 9223372036854775807) : wrap64 x = x := by
  unfold wrap64
  omega
theorem rdOf_nat {α : Type} (d : α) (l : List α) (i : Nat) (h : i < l.length) : rdOf d l (i : Int) = l[i] := by
  simp [rdOf, List.getD_eq_getElem?_getD, List.getElem?_eq_getElem h]
theorem rd_nat (l : List Int) (i : Nat) (h : i < l.length) : rd l (i : Int) = l[i] := by
  simp [rd, List.getD_eq_getElem?_getD, List.getElem?_eq_getElem h]
theorem getD_nat {α : Type} (d : α) (l : List α) (i : Nat) (h : i < l.length) : l.getD (i : Int).toNat d = l[i] := by
  simp [List.getD_eq_getElem?_getD, List.getElem?_eq_getElem h]
theorem size_list (s : ByteArray) : s.data.toList.length = s.size := by rw [Array.length_toList]; rfl
theorem bt_nat (s : ByteArray) (i : Nat) (h : i < s.data.toList.length) : bt s (i : Int) = ((s.data.toList[i]).toNat : Int) := by
  have h' : i < s.size := by rw [← size_list]; exact h
  unfold bt
  rw [dif_pos (by simpa using h')]
  rfl
/-- A list seen from place i on. -/
theorem drop_cons {α : Type} {l : List α} {i : Nat} {b : α} {t : List α} (h : l.drop i = b :: t) : ∃ hi : i < l.length, l[i] = b ∧ l.drop (i + 1) = t := by
  have hi : i < l.length := by
    rcases Nat.lt_or_ge i l.length with h1 | h1
    · exact h1
    · rw [List.drop_of_length_le h1] at h
      cases h
  refine ⟨hi, ?_, ?_⟩
  · rw [List.drop_eq_getElem_cons hi] at h
    exact (List.cons.inj h).1
  · rw [List.drop_eq_getElem_cons hi] at h
    exact (List.cons.inj h).2
theorem drop_nil {α : Type} {l : List α} {i : Nat} (h : l.drop i = []) : l.length ≤ i := by
  have := congrArg List.length h
  rw [List.length_drop] at this
  simpa using Nat.sub_eq_zero_iff_le.1 this
theorem toList_inj {a b : ByteArray} (h : a.toList = b.toList) : a = b := by
  rw [Lib.toList_data, Lib.toList_data] at h
  cases a with
  | mk x => cases b with
    | mk y =>
      have : x = y := Array.ext' h
      rw [this]
theorem toList_iff {a b : ByteArray} : a.toList = b.toList ↔ a = b := ⟨toList_inj, fun h => by rw [h]⟩
def lowB (b : UInt8) : Bool := decide (97 ≤ (b.toNat : Int)) && decide ((b.toNat : Int) ≤ 122)
/-- What is asked of a name behind its letters. -/
def nameEnd (s : ByteArray) : Bool := decide (1 ≤ s.size) && (decide (s.size ≤ 6) && (s.toList != ([97, 110, 100] : List UInt8) && (s.toList != ([111, 114] : List UInt8) && s.toList != ([110, 111, 116] : List UInt8))))
def nameS (s : ByteArray) : Bool := s.data.toList.all lowB && nameEnd s
theorem nameOk_loop (s : ByteArray) (hs : s.size ≤ 4611686018427387903) : ∀ (t : List UInt8) (i : Nat), s.data.toList.drop i = t → i ≤ s.size →
    Ev (fun k => impl_nameOk.l0 k s (s.size : Int) (i : Int)) (t.all lowB && nameEnd s) := by
  intro t
  induction t with
  | nil =>
    intro i h hi
    have hl := drop_nil h
    rw [size_list] at hl
    refine Ev.step (fun k => rfl) (Ev.iteF (by omega) ?_)
    simp only [List.all_nil, Bool.true_and]
    unfold nameEnd
    by_cases h1 : 1 ≤ s.size
    · refine Ev.iteT (by omega) ?_
      by_cases h2 : s.size ≤ 6
      · refine Ev.iteT (by omega) ?_
        by_cases h3 : s.toList = ([97, 110, 100] : List UInt8)
        · exact Ev.iteT h3 (Ev.bool (by simp [h3]))
        · refine Ev.iteF h3 ?_
          by_cases h4 : s.toList = ([111, 114] : List UInt8)
          · exact Ev.iteT h4 (Ev.bool (by simp [h4]))
          · exact Ev.iteF h4 (Ev.bool (by simp [h1, h2, bne_iff_ne.2 h3, bne_iff_ne.2 h4]))
      · exact Ev.iteF (by omega) (Ev.bool (by simp [h2]))
    · exact Ev.iteF (by omega) (Ev.bool (by simp [h1]))
  | cons b t ih =>
    intro i h hi
    obtain ⟨hl, hb, ht⟩ := drop_cons h
    have hl' := hl
    rw [size_list] at hl'
    refine Ev.step (fun k => rfl) (Ev.iteT (by omega) (Ev.iteT (by omega) (Ev.iteT (by omega) ?_)))
    rw [bt_nat s i hl, hb]
    by_cases h1 : (b.toNat : Int) < 97
    · exact Ev.iteT h1 (Ev.bool (by simp [lowB]; omega))
    · refine Ev.iteF h1 ?_
      by_cases h2 : (b.toNat : Int) > 122
      · exact Ev.iteT h2 (Ev.bool (by simp [lowB]; omega))
      · refine Ev.iteF h2 ?_
        rw [wrapN (by omega)]
        have := ih (i + 1) ht (by omega)
        have e : lowB b = true := by simp [lowB]; omega
        simpa [List.all_cons, e] using this
theorem nameOk_ev (s : ByteArray) (hs : s.size ≤ 4611686018427387903) : Ev (fun k => impl_nameOk.f k s) (nameS s) :=
  nameOk_loop s hs _ 0 rfl (Nat.zero_le _)
theorem inRange_ev (a b c : Int) : spec_inRange.f a b c = some (decide (b ≤ a ∧ a ≤ c)) := by
  unfold spec_inRange.f
  by_cases h : b ≤ a
  · rw [if_pos h]
    simp [h]
  · rw [if_neg h]
    simp [h]
theorem validName_loop (s : ByteArray) (hs : s.size ≤ 4611686018427387903) : ∀ (t : List UInt8) (i : Nat), s.data.toList.drop i = t → i ≤ s.size →
    Ev (fun k => spec_validName.l0 k s (i : Int)) (t.all lowB && nameEnd s) := by
  intro t
  induction t with
  | nil =>
    intro i h hi
    have hl := drop_nil h
    rw [size_list] at hl
    refine Ev.step (fun k => rfl) (Ev.iteF (by omega) (Ev.bind0 (inRange_ev _ _ _) ?_))
    simp only [List.all_nil, Bool.true_and]
    unfold nameEnd
    by_cases h1 : 1 ≤ s.size
    · by_cases h2 : s.size ≤ 6
      · refine Ev.iteT (by simp; omega) ?_
        by_cases h3 : s.toList = ([97, 110, 100] : List UInt8)
        · exact Ev.iteT h3 (Ev.bool (by simp [h3]))
        · refine Ev.iteF h3 ?_
          by_cases h4 : s.toList = ([111, 114] : List UInt8)
          · exact Ev.iteT h4 (Ev.bool (by simp [h4]))
          · exact Ev.iteF h4 (Ev.bool (by simp [h1, h2, bne_iff_ne.2 h3, bne_iff_ne.2 h4]))
      · exact Ev.iteF (by simp; omega) (Ev.bool (by simp [h2]))
    · exact Ev.iteF (by simp; omega) (Ev.bool (by simp [h1]))
  | cons b t ih =>
    intro i h hi
    obtain ⟨hl, hb, ht⟩ := drop_cons h
    have hl' := hl
    rw [size_list] at hl'
    refine Ev.step (fun k => rfl) (Ev.iteT (by omega) (Ev.iteT (by omega) ?_))
    rw [bt_nat s i hl, hb]
    by_cases h1 : (b.toNat : Int) < 97
    · exact Ev.iteT h1 (Ev.bool (by simp [lowB]; omega))
    · refine Ev.iteF h1 ?_
      by_cases h2 : (b.toNat : Int) > 122
      · exact Ev.iteT h2 (Ev.bool (by simp [lowB]; omega))
      · refine Ev.iteF h2 ?_
        rw [wrapN (by omega)]
        have := ih (i + 1) ht (by omega)
        have e : lowB b = true := by simp [lowB]; omega
        simpa [List.all_cons, e] using this
theorem validName_ev (s : ByteArray) (hs : s.size ≤ 4611686018427387903) : Ev (fun k => spec_validName.f k s) (nameS s) :=
  validName_loop s hs _ 0 rfl (Nat.zero_le _)
theorem xor_nat (a b : Nat) (ha : a < 2 ^ 62) (hb : b < 2 ^ 62) : bits .xor .i64 a b = ((a ^^^ b : Nat) : Int) := by
  have hk : IntKind.i64.bits = 64 := rfl
  have ha' : a % 2 ^ 64 = a := Nat.mod_eq_of_lt (by omega)
  have hb' : b % 2 ^ 64 = b := Nat.mod_eq_of_lt (by omega)
  have hx := Nat.xor_lt_two_pow ha hb
  simp only [bits, hk, BitVec.ofInt_natCast, BitVec.toNat_xor, BitVec.toNat_ofNat, ha', hb']
  rw [IntKind.wrap_i64]
  omega
theorem xor_nonneg (a b : Int) (ha : 0 ≤ a) (ha' : a < 4611686018427387904) (hb : 0 ≤ b) (hb' : b < 4611686018427387904) : 0 ≤ bits .xor .i64 a b := by
  obtain ⟨x, rfl⟩ := Int.eq_ofNat_of_zero_le ha
  obtain ⟨y, rfl⟩ := Int.eq_ofNat_of_zero_le hb
  rw [xor_nat x y (by omega) (by omega)]
  omega
/-- A code: what a reader reads. -/
structure Code_ (b : List Int) : Prop where
  len : b.length ≤ 2000
  byte : ∀ x ∈ b, 0 ≤ x ∧ x ≤ 255
theorem Code_.at_ {b : List Int} (h : Code_ b) (i : Int) (h0 : 0 ≤ i) (h1 : i < b.length) : 0 ≤ rd b i ∧ rd b i ≤ 255 := by
  obtain ⟨j, rfl⟩ := Int.eq_ofNat_of_zero_le h0
  rw [rd_nat b j (by omega)]
  exact h.byte _ (List.getElem_mem _)
theorem Code_.nil : Code_ [] := ⟨by simp, by simp⟩
theorem newReader_ev (l : List Int) (h : ∀ x ∈ l, 0 ≤ x ∧ x ≤ 255) : ∃ b, spec_newReader.f l = some (b, 0) ∧ Code_ b := by
  unfold spec_newReader.f
  by_cases h1 : (l.length : Int) > 2000
  · rw [if_pos h1, if_pos (by omega)]
    exact ⟨_, rfl, ⟨by rw [List.length_take]; omega, fun x hx => h x (List.mem_of_mem_take hx)⟩⟩
  · rw [if_neg h1]
    exact ⟨_, rfl, ⟨by omega, h⟩⟩
theorem pick_ev {b : List Int} (hb : Code_ b) (p n : Int) (h0 : 0 ≤ p) (h1 : p ≤ 1099511627776) (hn : n ≤ 1099511627776) :
    ∃ v, Ev (fun k => spec_reader_pick.f k b p n) (v, p + 1) ∧ 0 ≤ v ∧ (1 ≤ n → v < n) := by
  have w1 : wrap64 (p + 1) = p + 1 := wrapI (by omega)
  have w0 : wrap64 (p + 1 - 1) = p := by rw [wrapI (by omega)]; omega
  have hl := hb.len
  unfold spec_reader_pick.f
  rw [w1]
  by_cases c1 : n < 1
  · exact ⟨0, ⟨1, fun k hk => by obtain ⟨m, rfl⟩ : ∃ m, k = m + 1 := ⟨k - 1, by omega⟩; exact (if_pos c1).trans rfl⟩, by omega, by omega⟩
  · simp only [if_neg c1]
    by_cases c2 : b.length = 0
    · exact ⟨0, Ev.step (fun k => rfl) (Ev.iteT (by simp [c2]) (Ev.some_ rfl)), by omega, by omega⟩
    · by_cases c3 : p < (b.length : Int)
      · have ha := hb.at_ p h0 c3
        have w2 : wrap64 (rd b p) = rd b p := wrapI (by omega)
        refine ⟨Int.tmod (rd b p) n, Ev.step (fun k => rfl) (Ev.iteF (by simp only [beq_iff_eq]; omega) (Ev.iteT (by rw [w0]; exact c3) (Ev.iteT (by rw [w0]; exact h0) (Ev.iteF (by omega) (Ev.some_ ?_))))), Int.tmod_nonneg _ ha.1, fun _ => Int.tmod_lt_of_pos _ (by omega)⟩
        rw [w0, w2]
      · have hL : (0 : Int) < b.length := by omega
        have t1 : 0 ≤ Int.tmod p b.length := Int.tmod_nonneg _ h0
        have t2 : Int.tmod p b.length < b.length := Int.tmod_lt_of_pos _ hL
        have w3 : wrap64 (p * 7) = p * 7 := wrapI (by omega)
        have w4 : wrap64 (p * 7 + 3) = p * 7 + 3 := wrapI (by omega)
        have t3 : 0 ≤ Int.tmod (p * 7 + 3) b.length := Int.tmod_nonneg _ (by omega)
        have t4 : Int.tmod (p * 7 + 3) b.length < b.length := Int.tmod_lt_of_pos _ hL
        have a1 := hb.at_ _ t1 t2
        have a2 := hb.at_ _ t3 t4
        have d0 : 0 ≤ Int.tdiv p b.length := Int.tdiv_nonneg h0 (by omega)
        have d1 : Int.tdiv p b.length ≤ p := by
          rw [Int.tdiv_eq_ediv_of_nonneg h0]
          exact Int.ediv_le_self _ h0
        generalize hA : rd b (Int.tmod p b.length) = A at a1
        generalize hB : rd b (Int.tmod (p * 7 + 3) b.length) = B at a2
        generalize hQ : Int.tdiv p b.length = Q at d0 d1
        have v1 : wrap64 A = A := wrapI (by omega)
        have v2 : wrap64 (A * 131) = A * 131 := wrapI (by omega)
        have v3 : wrap64 B = B := wrapI (by omega)
        have v4 : wrap64 (B * 1117) = B * 1117 := wrapI (by omega)
        have v5 : wrap64 (A * 131 + B * 1117) = A * 131 + B * 1117 := wrapI (by omega)
        have v6 : wrap64 (p * 29) = p * 29 := wrapI (by omega)
        have v7 : wrap64 (A * 131 + B * 1117 + p * 29) = A * 131 + B * 1117 + p * 29 := wrapI (by omega)
        have v8 : wrap64 Q = Q := wrapI (by omega)
        have v9 : wrap64 (Q * 53) = Q * 53 := wrapI (by omega)
        have v10 : wrap64 (A * 131 + B * 1117 + p * 29 + Q * 53) = A * 131 + B * 1117 + p * 29 + Q * 53 := wrapI (by omega)
        have x0 : 0 ≤ A * 131 + B * 1117 + p * 29 + Q * 53 := by omega
        have x1 : A * 131 + B * 1117 + p * 29 + Q * 53 < 4611686018427387904 := by omega
        generalize hX : A * 131 + B * 1117 + p * 29 + Q * 53 = X at v10 x0 x1
        have e0 : 0 ≤ Int.tdiv X 64 := Int.tdiv_nonneg x0 (by omega)
        have e1 : Int.tdiv X 64 ≤ X := by
          rw [Int.tdiv_eq_ediv_of_nonneg x0]
          exact Int.ediv_le_self _ x0
        have v11 : wrap64 (Int.tdiv X 64) = Int.tdiv X 64 := wrapI (by omega)
        have hx := xor_nonneg X (Int.tdiv X 64) x0 x1 e0 (by omega)
        refine ⟨Int.tmod (bits .xor .i64 X (Int.tdiv X 64)) n, ?_, Int.tmod_nonneg _ hx, fun _ => Int.tmod_lt_of_pos _ (by omega)⟩
        refine Ev.step (fun k => rfl) (Ev.iteF (by simp only [beq_iff_eq]; omega) (Ev.iteF (by rw [w0]; exact c3) (Ev.iteF (by omega) ?_)))
        simp only [w0, w3, w4]
        refine Ev.iteT t1 (Ev.iteT t2 (Ev.iteT t3 (Ev.iteT t4 (Ev.iteF (by omega) (Ev.some_ ?_)))))
        simp only [hA, hB, hQ, v1, v2, v3, v4, v5, v6, v7, v8, v9, hX, v10, v11]
theorem of_ev {b : List Int} (hb : Code_ b) (p : Int) (h0 : 0 ≤ p) (h1 : p ≤ 1099511627776) (l : List ByteArray) (hl : 1 ≤ l.length) (hl' : l.length ≤ 1000) :
    ∃ x, x ∈ l ∧ Ev (fun k => spec_reader_of.f k b p l) (x, p + 1) := by
  obtain ⟨v, hv, v0, v1⟩ := pick_ev hb p (l.length : Int) h0 h1 (by omega)
  have v1 := v1 (by omega)
  obtain ⟨j, rfl⟩ := Int.eq_ofNat_of_zero_le v0
  refine ⟨l[j]'(by omega), List.getElem_mem _, ?_⟩
  unfold spec_reader_of.f
  exact Ev.bind hv (Ev.iteT v0 (Ev.iteT v1 (Ev.some_ (by rw [rdOf_nat _ _ _ (by omega)]))))
theorem one_ev {b : List Int} (hb : Code_ b) (p : Int) (h0 : 0 ≤ p) (h1 : p ≤ 1099511627776) (l : List Int) (hl : 1 ≤ l.length) (hl' : l.length ≤ 1000) :
    ∃ x, x ∈ l ∧ Ev (fun k => spec_reader_one.f k b p l) (x, p + 1) := by
  obtain ⟨v, hv, v0, v1⟩ := pick_ev hb p (l.length : Int) h0 h1 (by omega)
  have v1 := v1 (by omega)
  obtain ⟨j, rfl⟩ := Int.eq_ofNat_of_zero_le v0
  refine ⟨l[j]'(by omega), List.getElem_mem _, ?_⟩
  unfold spec_reader_one.f
  exact Ev.bind hv (Ev.iteT v0 (Ev.iteT v1 (Ev.some_ (by rw [rd_nat _ _ (by omega)]))))
theorem wfByte {x : Int} (h : (Lit.int .u8 x).wf = true) : 0 ≤ x ∧ x ≤ 255 := by
  simp [Lit.wf, IntKind.min, IntKind.max, IntKind.signed, IntKind.bits] at h
  omega
def numS (n : Int) : Bool := decide (-99 ≤ n) && decide (n ≤ 99)
def callV (s : ByteArray) (l : List Int) : Bool := nameS s && (decide ((l.length : Int) ≤ 3) && l.all numS)
def callS (c : S33) : Bool := callV c.f0 c.f1
def callsS (l : List S33) : Bool := l.all callS && decide ((l.length : Int) ≤ 12)
structure CSz (c : S33) : Prop where
  s0 : c.f0.size ≤ 4194304
  s1 : c.f1.length ≤ 4194304
structure CSzS (l : List S33) : Prop where
  len : l.length ≤ 4194304
  one : ∀ c ∈ l, CSz c
theorem rdCall_nat (l : List S33) (i : Nat) (h : i < l.length) : rd_T33 l (i : Int) = l[i] := by
  unfold rd_T33
  exact getD_nat _ _ _ h
theorem numbersOk_loop (l : List Int) (hl : l.length ≤ 4611686018427387903) : ∀ (t : List Int) (i : Nat), l.drop i = t → i ≤ l.length → Ev (fun k => impl_numbersOk.l0 k l (l.length : Int) (i : Int)) (t.all numS) := by
  intro t
  induction t with
  | nil =>
    intro i h hi
    have hl2 := drop_nil h
    exact Ev.step (fun k => rfl) (Ev.iteF (by omega) (Ev.some_ rfl))
  | cons b t ih =>
    intro i h hi
    obtain ⟨hl2, hb, ht⟩ := drop_cons h
    refine Ev.step (fun k => rfl) (Ev.iteT (by omega) (Ev.iteT (by omega) (Ev.iteT (by omega) ?_)))
    rw [rd_nat _ _ hl2, hb, List.all_cons]
    by_cases h1 : b < -99
    · exact Ev.iteT h1 (Ev.some_ (by rw [show numS b = false by simp [numS]; omega]; rfl))
    · by_cases h2 : b > 99
      · exact Ev.iteF h1 (Ev.iteT h2 (Ev.some_ (by rw [show numS b = false by simp [numS]; omega]; rfl)))
      · refine Ev.iteF h1 (Ev.iteF h2 ?_)
        rw [wrapN (by omega), show numS b = true by simp [numS]; omega, Bool.true_and]
        exact ih (i + 1) ht (by omega)
theorem callOk_ev (s : ByteArray) (l : List Int) (hs : s.size ≤ 4611686018427387903) (hl : l.length ≤ 4611686018427387903) : Ev (fun k => impl_callOk.f k s l) (callV s l) := by
  unfold impl_callOk.f callV
  refine Ev.bind (nameOk_ev s hs) ?_
  cases c0 : nameS s with
  | false => exact Ev.iteF (by simp) (Ev.bool (by simp))
  | true =>
    refine Ev.iteT rfl ?_
    by_cases c1 : (l.length : Int) ≤ 3
    · exact Ev.iteT c1 (Ev.bind (numbersOk_loop l hl l 0 rfl (Nat.zero_le _)) (Ev.bool (by simp [c1])))
    · exact Ev.iteF c1 (Ev.bool (by simp [c1]))
theorem validCallsI_loop (l : List S33) (hl : CSzS l) : ∀ (t : List S33) (i : Nat), l.drop i = t → i ≤ l.length → Ev (fun k => impl_ValidCalls.l0 k l l (l.length : Int) (i : Int)) (t.all callS && decide ((l.length : Int) ≤ 12)) := by
  have hlen := hl.len
  intro t
  induction t with
  | nil =>
    intro i h hi
    have hl2 := drop_nil h
    exact Ev.step (fun k => rfl) (Ev.iteF (by omega) (Ev.some_ (by simp)))
  | cons b t ih =>
    intro i h hi
    obtain ⟨hl2, hb, ht⟩ := drop_cons h
    have hs : CSz b := hl.one b (hb ▸ List.getElem_mem hl2)
    have h0 := hs.s0
    have h1 := hs.s1
    refine Ev.step (fun k => rfl) (Ev.iteT (by omega) (Ev.iteT (by omega) (Ev.iteT (by omega) ?_)))
    rw [rdCall_nat _ _ hl2, hb]
    refine Ev.bind (callOk_ev b.f0 b.f1 (by omega) (by omega)) ?_
    rw [List.all_cons, show callS b = callV b.f0 b.f1 from rfl]
    cases c : callV b.f0 b.f1 with
    | false => exact Ev.iteF (by simp) (Ev.bool (by simp))
    | true =>
      refine Ev.iteT rfl ?_
      rw [wrapN (by omega)]
      exact ih (i + 1) ht (by omega)
theorem validCallsI_ev (l : List S33) (hl : CSzS l) : Ev (fun k => impl_ValidCalls.f k l) (callsS l) :=
  validCallsI_loop l hl l 0 rfl (Nat.zero_le _)
theorem specCalls_nums (l : List S33) (hl : CSzS l) (i : Nat) (hi : i < l.length) (r : Bool) (hc : Ev (fun k => spec_validCalls.l0 k l ((i + 1 : Nat) : Int)) r) : ∀ (t : List Int) (j : Nat), (l[i]).f1.drop j = t → j ≤ (l[i]).f1.length →
    Ev (fun k => spec_validCalls.l1 k l (i : Int) (j : Int)) (t.all numS && r) := by
  have hlen := hl.len
  have hs := (hl.one _ (List.getElem_mem hi)).s1
  intro t
  induction t with
  | nil =>
    intro j h hj
    have hl2 := drop_nil h
    refine Ev.step (fun k => rfl) (Ev.iteT (by omega) (Ev.iteT (by omega) ?_))
    rw [rdCall_nat _ _ hi, wrapN (i := i) (by omega)]
    exact Ev.iteF (by omega) (by simpa only [List.all_nil, Bool.true_and] using hc)
  | cons b t ih =>
    intro j h hj
    obtain ⟨hl2, hb, ht⟩ := drop_cons h
    refine Ev.step (fun k => rfl) (Ev.iteT (by omega) (Ev.iteT (by omega) ?_))
    rw [rdCall_nat _ _ hi, rd_nat _ _ hl2, hb, List.all_cons, wrapN (by omega)]
    refine Ev.iteT (by omega) (Ev.iteT (by omega) (Ev.bind0 (inRange_ev _ _ _) ?_))
    by_cases h1 : -99 ≤ b ∧ b ≤ 99
    · rw [show numS b = true by simp [numS]; omega, Bool.true_and]
      exact Ev.iteT (by simpa using h1) (ih (j + 1) ht (by omega))
    · rw [show numS b = false by simp [numS]; omega]
      exact Ev.iteF (by simpa using h1) (Ev.bool (by simp))
theorem validCallsS_loop (l : List S33) (hl : CSzS l) : ∀ (t : List S33) (i : Nat), l.drop i = t → i ≤ l.length → Ev (fun k => spec_validCalls.l0 k l (i : Int)) (t.all callS && decide ((l.length : Int) ≤ 12)) := by
  have hlen := hl.len
  intro t
  induction t with
  | nil =>
    intro i h hi
    have hl2 := drop_nil h
    exact Ev.step (fun k => rfl) (Ev.iteF (by omega) (Ev.some_ (by simp)))
  | cons b t ih =>
    intro i h hi
    obtain ⟨hl2, hb, ht⟩ := drop_cons h
    have hs : CSz b := hl.one b (hb ▸ List.getElem_mem hl2)
    have h0 := hs.s0
    have hnums := specCalls_nums l hl i hl2 _ (ih (i + 1) ht (by omega)) (l[i]).f1 0 rfl (Nat.zero_le _)
    rw [hb] at hnums
    refine Ev.step (fun k => rfl) (Ev.iteT (by omega) (Ev.iteT (by omega) ?_))
    rw [rdCall_nat _ _ hl2, hb]
    refine Ev.bind (validName_ev b.f0 (by omega)) ?_
    rw [List.all_cons, show callS b = (nameS b.f0 && (decide ((b.f1.length : Int) ≤ 3) && b.f1.all numS)) from rfl]
    cases c0 : nameS b.f0 with
    | false =>
      refine Ev.iteF (by simp) ?_
      refine Ev.step (fun k => by rw [spec_validCalls.j1]) ?_
      exact Ev.iteT rfl (Ev.bool (by simp))
    | true =>
      refine Ev.iteT rfl ?_
      by_cases c1 : (b.f1.length : Int) ≤ 3
      · refine Ev.step (fun k => by rw [spec_validCalls.j1]) ?_
        refine Ev.iteF (by simp; omega) ?_
        simpa [c1, Bool.and_assoc] using hnums
      · refine Ev.step (fun k => by rw [spec_validCalls.j1]) ?_
        exact Ev.iteT (by simp; omega) (Ev.bool (by simp [c1]))
theorem validCallsS_ev (l : List S33) (hl : CSzS l) : Ev (fun k => spec_validCalls.f k l) (callsS l) :=
  validCallsS_loop l hl l 0 rfl (Nat.zero_le _)
def expectS (e : S73) : Bool := callV e.f0 e.f1 && ((!e.f2 || decide (e.f1 = [])) && (decide (0 ≤ e.f3) && (decide (e.f3 ≤ e.f4) && decide (e.f4 ≤ 12))))
def expectsS (l : List S73) : Bool := l.all expectS && decide ((l.length : Int) ≤ 6)
structure ESz (c : S73) : Prop where
  s0 : c.f0.size ≤ 4194304
  s1 : c.f1.length ≤ 4194304
structure ESzS (l : List S73) : Prop where
  len : l.length ≤ 4194304
  one : ∀ c ∈ l, ESz c
theorem rdExpect_nat (l : List S73) (i : Nat) (h : i < l.length) : rd_T73 l (i : Int) = l[i] := by
  unfold rd_T73
  exact getD_nat _ _ _ h
theorem len_nil (l : List Int) : (l.length : Int) = 0 ↔ l = [] := by
  cases l <;> simp
  omega
theorem expectsOk_loop (l : List S73) (hl : ESzS l) : ∀ (t : List S73) (i : Nat), l.drop i = t → i ≤ l.length → Ev (fun k => impl_expectsOk.l0 k l l (l.length : Int) (i : Int)) (t.all expectS && decide ((l.length : Int) ≤ 6)) := by
  have hlen := hl.len
  intro t
  induction t with
  | nil =>
    intro i h hi
    have hl2 := drop_nil h
    exact Ev.step (fun k => rfl) (Ev.iteF (by omega) (Ev.some_ (by simp)))
  | cons b t ih =>
    intro i h hi
    obtain ⟨hl2, hb, ht⟩ := drop_cons h
    have hs : ESz b := hl.one b (hb ▸ List.getElem_mem hl2)
    have h0 := hs.s0
    have h1 := hs.s1
    have hnext := ih (i + 1) ht (by omega)
    have hne := len_nil b.f1
    refine Ev.step (fun k => rfl) (Ev.iteT (by omega) (Ev.iteT (by omega) (Ev.iteT (by omega) ?_)))
    rw [rdExpect_nat _ _ hl2, hb]
    refine Ev.bind (callOk_ev b.f0 b.f1 (by omega) (by omega)) ?_
    rw [List.all_cons, wrapN (by omega), show expectS b = (callV b.f0 b.f1 && ((!b.f2 || decide (b.f1 = [])) && (decide (0 ≤ b.f3) && (decide (b.f3 ≤ b.f4) && decide (b.f4 ≤ 12))))) from rfl]
    have hrest : Ev (fun k => if b.f3 < 0 then some false else if b.f3 > b.f4 then some false else if b.f4 > 12 then some false else impl_expectsOk.l0 k l l (l.length : Int) ((i + 1 : Nat) : Int)) ((decide (0 ≤ b.f3) && (decide (b.f3 ≤ b.f4) && decide (b.f4 ≤ 12))) && (t.all expectS && decide ((l.length : Int) ≤ 6))) := by
      by_cases c1 : b.f3 < 0
      · exact Ev.iteT c1 (Ev.bool (by rw [show decide (0 ≤ b.f3) = false from decide_eq_false (by omega)]; rfl))
      · by_cases c2 : b.f3 > b.f4
        · exact Ev.iteF c1 (Ev.iteT c2 (Ev.bool (by rw [show decide (b.f3 ≤ b.f4) = false from decide_eq_false (by omega)]; simp)))
        · by_cases c3 : b.f4 > 12
          · exact Ev.iteF c1 (Ev.iteF c2 (Ev.iteT c3 (Ev.bool (by rw [show decide (b.f4 ≤ 12) = false from decide_eq_false (by omega)]; simp))))
          · refine Ev.iteF c1 (Ev.iteF c2 (Ev.iteF c3 ?_))
            rw [show decide (0 ≤ b.f3) = true from decide_eq_true (by omega), show decide (b.f3 ≤ b.f4) = true from decide_eq_true (by omega), show decide (b.f4 ≤ 12) = true from decide_eq_true (by omega)]
            simpa using hnext
    cases c : callV b.f0 b.f1 with
    | false => exact Ev.iteF (by simp) (Ev.bool (by simp))
    | true =>
      refine Ev.iteT rfl ?_
      cases c2 : b.f2 with
      | false => exact Ev.iteF (by simp) (by simpa [Bool.and_assoc] using hrest)
      | true =>
        refine Ev.iteT rfl ?_
        by_cases c3 : b.f1 = []
        · exact Ev.iteF (by rw [c3]; simp) (by simpa [c3, Bool.and_assoc] using hrest)
        · exact Ev.iteT (by have h3 : ¬ (b.f1.length : Int) = 0 := fun h => c3 (hne.1 h); omega) (Ev.bool (by simp [c3]))
theorem expectsOk_ev (l : List S73) (hl : ESzS l) : Ev (fun k => impl_expectsOk.f k l) (expectsS l) :=
  expectsOk_loop l hl l 0 rfl (Nat.zero_le _)
theorem validExpect_ev (b : S73) (h : ESz b) : Ev (fun k => spec_validExpect.f k b.f0 b.f1 b.f2 b.f3 b.f4) (expectS b) := by
  have hc := validCallsS_ev [⟨b.f0, b.f1⟩] ⟨by simp, fun c hc => by rw [List.mem_singleton.1 hc]; exact ⟨h.s0, h.s1⟩⟩
  have hcv : callsS [⟨b.f0, b.f1⟩] = callV b.f0 b.f1 := by simp [callsS, callS]
  rw [hcv] at hc
  have hne := len_nil b.f1
  unfold spec_validExpect.f expectS
  refine Ev.bind hc ?_
  have hrest : Ev (fun _ => (spec_inRange.f b.f3 0 12).bind fun t191 => if t191 = true then (spec_inRange.f b.f4 b.f3 12).bind fun t192 => some t192 else some false) (decide (0 ≤ b.f3) && (decide (b.f3 ≤ b.f4) && decide (b.f4 ≤ 12))) := by
    refine Ev.bind0 (inRange_ev _ _ _) ?_
    by_cases c1 : 0 ≤ b.f3 ∧ b.f3 ≤ 12
    · refine Ev.iteT (by simpa using c1) (Ev.bind0 (inRange_ev _ _ _) (Ev.bool ?_))
      simp [c1]
    · refine Ev.iteF (by simpa using c1) (Ev.bool ?_)
      by_cases c2 : 0 ≤ b.f3
      · by_cases c3 : b.f3 ≤ b.f4
        · rw [show decide (b.f4 ≤ 12) = false from decide_eq_false (by omega)]
          simp
        · rw [show decide (b.f3 ≤ b.f4) = false from decide_eq_false (by omega)]
          simp
      · rw [show decide (0 ≤ b.f3) = false from decide_eq_false (by omega)]
        rfl
  cases c : callV b.f0 b.f1 with
  | false => exact Ev.iteF (by simp) (Ev.bool (by simp))
  | true =>
    refine Ev.iteT rfl ?_
    cases c2 : b.f2 with
    | false => exact Ev.iteF (by simp) (by simpa using hrest)
    | true =>
      refine Ev.iteT rfl ?_
      by_cases c3 : b.f1 = []
      · exact Ev.iteT (by rw [c3]; simp) (by simpa [c3, Bool.and_assoc] using hrest)
      · exact Ev.iteF (fun h => c3 (hne.1 h)) (Ev.bool (by simp [c3]))
theorem validExpects_loop (l : List S73) (hl : ESzS l) : ∀ (t : List S73) (i : Nat), l.drop i = t → i ≤ l.length → Ev (fun k => spec_validExpects.l0 k l (i : Int)) (t.all expectS && decide ((l.length : Int) ≤ 6)) := by
  have hlen := hl.len
  intro t
  induction t with
  | nil =>
    intro i h hi
    have hl2 := drop_nil h
    exact Ev.step (fun k => rfl) (Ev.iteF (by omega) (Ev.some_ (by simp)))
  | cons b t ih =>
    intro i h hi
    obtain ⟨hl2, hb, ht⟩ := drop_cons h
    have hs : ESz b := hl.one b (hb ▸ List.getElem_mem hl2)
    refine Ev.step (fun k => rfl) (Ev.iteT (by omega) (Ev.iteT (by omega) ?_))
    rw [rdExpect_nat _ _ hl2, hb]
    refine Ev.bind (validExpect_ev b hs) ?_
    rw [List.all_cons]
    cases c : expectS b with
    | false => exact Ev.iteF (by simp) (Ev.bool (by simp))
    | true =>
      refine Ev.iteT rfl ?_
      rw [wrapN (by omega)]
      exact ih (i + 1) ht (by omega)
theorem validExpects_ev (l : List S73) (hl : ESzS l) : Ev (fun k => spec_validExpects.f k l) (expectsS l) :=
  validExpects_loop l hl l 0 rfl (Nat.zero_le _)
theorem equal_loop (a b : List Int) (hl : a.length = b.length) (hz : a.length ≤ 4611686018427387903) : ∀ (d i : Nat), i + d = a.length → a.take i = b.take i → Ev (fun k => slices_Equal_int_int.l0 k a b (a.length : Int) (i : Int)) (decide (a = b)) := by
  intro d
  induction d with
  | zero =>
    intro i hd he
    rw [List.take_of_length_le (by omega), List.take_of_length_le (by omega)] at he
    exact Ev.step (fun k => rfl) (Ev.iteF (by omega) (Ev.some_ (by simp [he])))
  | succ d ih =>
    intro i hd he
    have hi : i < a.length := by omega
    have hi2 : i < b.length := by omega
    refine Ev.step (fun k => rfl) (Ev.iteT (by omega) (Ev.iteT (by omega) (Ev.iteT (by omega) (Ev.iteT (by omega) ?_))))
    rw [rd_nat _ _ hi, rd_nat _ _ hi2]
    by_cases c : a[i] = b[i]
    · refine Ev.iteT c ?_
      rw [wrapN (by omega)]
      exact ih (i + 1) (by omega) (by rw [List.take_succ_eq_append_getElem hi, List.take_succ_eq_append_getElem hi2, he, c])
    · exact Ev.iteF c (Ev.some_ (by rw [eq_comm, decide_eq_false_iff_not]; intro e; subst e; exact c rfl))
theorem equal_ev (a b : List Int) (hz : a.length ≤ 4611686018427387903) : Ev (fun k => slices_Equal_int_int.f k a b) (decide (a = b)) := by
  unfold slices_Equal_int_int.f
  by_cases c : a.length = b.length
  · exact Ev.iteT (by omega) (equal_loop a b c hz a.length 0 (by omega) (by simp))
  · exact Ev.iteF (by omega) (Ev.some_ (by rw [eq_comm, decide_eq_false_iff_not]; intro e; exact c (by rw [e])))
def meetsS (e : S73) (c : S33) : Bool := decide (e.f0 = c.f0) && (e.f2 || decide (e.f1 = c.f1))
theorem implMeets_ev (e : S73) (c : S33) (h : ESz e) : Ev (fun k => impl_Expect_meets.f k e.f0 e.f1 e.f2 e.f3 e.f4 c.f0 c.f1) (meetsS e c) := by
  have h1 := h.s1
  unfold impl_Expect_meets.f meetsS
  by_cases c0 : e.f0 = c.f0
  · refine Ev.iteT (by rw [c0]) ?_
    cases c1 : e.f2 with
    | true => exact Ev.iteT rfl (Ev.some_ (by simp [c0]))
    | false => exact Ev.iteF (by simp) (Ev.bind (equal_ev e.f1 c.f1 (by omega)) (Ev.some_ (by simp [c0])))
  · exact Ev.iteF (by rw [toList_iff]; exact c0) (Ev.some_ (by simp [c0]))
theorem same_loop (s1 s2 : ByteArray) (a b : List Int) (hl : a.length = b.length) (hz : a.length ≤ 4611686018427387903) : ∀ (d i : Nat), i + d = a.length → a.take i = b.take i → Ev (fun k => spec_sameCall.l0 k (i : Int) s1 a s2 b) (decide (a = b)) := by
  intro d
  induction d with
  | zero =>
    intro i hd he
    rw [List.take_of_length_le (by omega), List.take_of_length_le (by omega)] at he
    exact Ev.step (fun k => rfl) (Ev.iteF (by omega) (Ev.some_ (by simp [he])))
  | succ d ih =>
    intro i hd he
    have hi : i < a.length := by omega
    have hi2 : i < b.length := by omega
    refine Ev.step (fun k => rfl) (Ev.iteT (by omega) (Ev.iteT (by omega) (Ev.iteT (by omega) ?_)))
    rw [rd_nat _ _ hi, rd_nat _ _ hi2]
    by_cases c : a[i] = b[i]
    · refine Ev.iteT c ?_
      rw [wrapN (by omega)]
      exact ih (i + 1) (by omega) (by rw [List.take_succ_eq_append_getElem hi, List.take_succ_eq_append_getElem hi2, he, c])
    · exact Ev.iteF c (Ev.some_ (by rw [eq_comm, decide_eq_false_iff_not]; intro e; subst e; exact c rfl))
theorem same_ev (s1 s2 : ByteArray) (a b : List Int) (hz : a.length ≤ 4611686018427387903) : Ev (fun k => spec_sameCall.f k s1 a s2 b) (decide (s1 = s2) && decide (a = b)) := by
  unfold spec_sameCall.f
  by_cases c0 : s1 = s2
  · refine Ev.iteT (by rw [c0]) ?_
    by_cases c : a.length = b.length
    · refine Ev.step (fun k => by rw [spec_sameCall.j0]) ?_
      exact Ev.iteF (by simp [c]) (by simpa [c0] using same_loop s1 s2 a b c hz a.length 0 (by omega) (by simp))
    · refine Ev.step (fun k => by rw [spec_sameCall.j0]) ?_
      exact Ev.iteT (by simp; omega) (Ev.some_ (by rw [show decide (a = b) = false from decide_eq_false (fun e => c (by rw [e]))]; simp))
  · refine Ev.iteF (by rw [toList_iff]; exact c0) ?_
    refine Ev.step (fun k => by rw [spec_sameCall.j0]) ?_
    exact Ev.iteT rfl (Ev.some_ (by simp [c0]))
theorem specMeets_ev (e : S73) (c : S33) (h : CSz c) : Ev (fun k => spec_meets.f k c.f0 c.f1 e.f0 e.f1 e.f2 e.f3 e.f4) (meetsS e c) := by
  have h1 := h.s1
  unfold spec_meets.f meetsS
  cases c1 : e.f2 with
  | true =>
    refine Ev.iteT rfl ?_
    by_cases c0 : c.f0 = e.f0
    · exact Ev.iteT (by rw [c0]) (Ev.some_ (by simp [c0]))
    · exact Ev.iteF (by rw [toList_iff]; exact c0) (Ev.some_ (by rw [show decide (e.f0 = c.f0) = false from decide_eq_false (fun e => c0 e.symm)]; rfl))
  | false =>
    refine Ev.iteF (by simp) (Ev.bind (same_ev c.f0 e.f0 c.f1 e.f1 (by omega)) (Ev.some_ ?_))
    rw [Bool.false_or]
    congr 1 <;> exact decide_eq_decide.2 eq_comm
def metN (calls : List S33) (e : S73) : Nat := calls.countP (meetsS e)
def unmetB (calls : List S33) (e : S73) : Bool := !(decide (e.f3 ≤ (metN calls e : Int)) && decide ((metN calls e : Int) ≤ e.f4))
/-- The places from i on of what is unmet. -/
def placesF {α : Type} (p : α → Bool) : List α → Nat → List Int
  | [], _ => []
  | x :: t, i => if p x = true then (i : Int) :: placesF p t (i + 1) else placesF p t (i + 1)
theorem placesF_length {α : Type} (p : α → Bool) : ∀ (l : List α) (i : Nat), (placesF p l i).length ≤ l.length
  | [], _ => Nat.le_refl _
  | x :: t, i => by
    have := placesF_length p t (i + 1)
    unfold placesF
    split <;> simp <;> omega
def unmetV (calls : List S33) (l : List S73) : List Int := if callsS calls = true ∧ expectsS l = true then placesF (unmetB calls) l 0 else []
theorem unmetV_length (calls : List S33) (l : List S73) : (unmetV calls l).length ≤ l.length := by
  unfold unmetV
  split
  · exact placesF_length _ _ _
  · simp
theorem implUnmet_l1 (x0 : List S33) (h0 : CSzS x0) (L : List S73) (n x22 x6 : Int) (x5 : List Int) (e : S73) (he : ESz e) (hx5 : x5.length ≤ 4194304) (r : List Int)
    (hc : Ev (fun k => impl_UnmetExpects.l0 k x0 (if unmetB x0 e = true then x5 ++ [x6] else x5) L n (wrap64 (x22 + 1))) r) : ∀ (t : List S33) (i m : Nat), x0.drop i = t → i ≤ x0.length → m + t.countP (meetsS e) = metN x0 e →
    Ev (fun k => impl_UnmetExpects.l1 k x0 x5 x6 (m : Int) L n x22 x0 (x0.length : Int) (i : Int) e.f0 e.f1 e.f2 e.f3 e.f4) r := by
  have hlen := h0.len
  intro t
  induction t with
  | nil =>
    intro i m h hi hm
    have hl2 := drop_nil h
    rw [List.countP_nil, Nat.add_zero] at hm
    refine Ev.step (fun k => rfl) (Ev.iteF (by omega) ?_)
    subst hm
    by_cases c1 : (metN x0 e : Int) < e.f3
    · rw [if_pos (show unmetB x0 e = true by unfold unmetB; rw [show decide (e.f3 ≤ (metN x0 e : Int)) = false from decide_eq_false (by omega)]; rfl)] at hc
      exact Ev.iteT c1 (Ev.iteT (by omega) hc)
    · refine Ev.iteF c1 ?_
      by_cases c2 : (metN x0 e : Int) > e.f4
      · rw [if_pos (show unmetB x0 e = true by unfold unmetB; rw [show decide ((metN x0 e : Int) ≤ e.f4) = false from decide_eq_false (by omega)]; simp)] at hc
        exact Ev.iteT c2 (Ev.iteT (by omega) hc)
      · rw [if_neg (show ¬ unmetB x0 e = true by unfold unmetB; rw [show decide (e.f3 ≤ (metN x0 e : Int)) = true from decide_eq_true (by omega), show decide ((metN x0 e : Int) ≤ e.f4) = true from decide_eq_true (by omega)]; simp)] at hc
        exact Ev.iteF c2 hc
  | cons b t ih =>
    intro i m h hi hm
    obtain ⟨hl2, hb, ht⟩ := drop_cons h
    have hm2 : metN x0 e ≤ x0.length := List.countP_le_length
    refine Ev.step (fun k => rfl) (Ev.iteT (by omega) (Ev.iteT (by omega) (Ev.iteT (by omega) ?_)))
    rw [rdCall_nat _ _ hl2, hb]
    refine Ev.bind (implMeets_ev e b he) ?_
    rw [wrapN (i := i) (by omega), wrapN (i := m) (by omega)]
    rw [List.countP_cons] at hm
    cases c : meetsS e b with
    | true =>
      rw [c, if_pos rfl] at hm
      exact Ev.iteT rfl (ih (i + 1) (m + 1) ht (by omega) (by omega))
    | false =>
      rw [c, if_neg (by simp)] at hm
      exact Ev.iteF (by simp) (ih (i + 1) m ht (by omega) (by omega))
theorem implUnmet_l0 (x0 : List S33) (h0 : CSzS x0) (L : List S73) (hL : ESzS L) : ∀ (t : List S73) (i : Nat) (x5 : List Int), L.drop i = t → i ≤ L.length → x5.length ≤ i →
    Ev (fun k => impl_UnmetExpects.l0 k x0 x5 L (L.length : Int) (i : Int)) (x5 ++ placesF (unmetB x0) t i) := by
  have hlen := hL.len
  intro t
  induction t with
  | nil =>
    intro i x5 h hi hx
    have hl2 := drop_nil h
    exact Ev.step (fun k => rfl) (Ev.iteF (by omega) (Ev.some_ (by simp [placesF])))
  | cons b t ih =>
    intro i x5 h hi hx
    obtain ⟨hl2, hb, ht⟩ := drop_cons h
    have hs : ESz b := hL.one b (hb ▸ List.getElem_mem hl2)
    have hnext := ih (i + 1) (if unmetB x0 b = true then x5 ++ [(i : Int)] else x5) ht (by omega) (by split <;> (try simp) <;> omega)
    rw [← wrapN (by omega)] at hnext
    have e : (if unmetB x0 b = true then x5 ++ [(i : Int)] else x5) ++ placesF (unmetB x0) t (i + 1) = x5 ++ placesF (unmetB x0) (b :: t) i := by
      rw [placesF.eq_def (unmetB x0) (b :: t) i]
      dsimp only
      split <;> simp
    rw [e] at hnext
    refine Ev.step (fun k => rfl) (Ev.iteT (by omega) (Ev.iteT (by omega) (Ev.iteT (by omega) ?_)))
    rw [rdExpect_nat _ _ hl2, hb]
    exact implUnmet_l1 x0 h0 L (L.length : Int) (i : Int) (i : Int) x5 b hs (by omega) _ hnext x0 0 0 rfl (Nat.zero_le _) (by simp [metN])
theorem implUnmet_ev (x0 : List S33) (h0 : CSzS x0) (L : List S73) (hL : ESzS L) : Ev (fun k => impl_UnmetExpects.f k x0 L) (unmetV x0 L) := by
  have hgo := implUnmet_l0 x0 h0 L hL L 0 [] rfl (Nat.zero_le _) (Nat.le_refl _)
  rw [List.nil_append] at hgo
  unfold impl_UnmetExpects.f unmetV
  refine Ev.bind (validCallsI_ev x0 h0) ?_
  by_cases c : callsS x0 = true
  · refine Ev.iteT c (Ev.bind (expectsOk_ev L hL) ?_)
    refine Ev.step (fun k => by rw [impl_UnmetExpects.j0]) ?_
    by_cases d : expectsS L = true
    · rw [if_pos ⟨c, d⟩]
      exact Ev.iteF (by simp [d]) hgo
    · rw [if_neg (fun h => d h.2)]
      exact Ev.iteT (by simpa using d) (Ev.some_ rfl)
  · rw [if_neg (fun h => c h.1)]
    refine Ev.iteF c ?_
    refine Ev.step (fun k => by rw [impl_UnmetExpects.j0]) ?_
    exact Ev.iteT rfl (Ev.some_ rfl)
structure SmallCalls (l : List S33) : Prop where
  len : l.length ≤ 1000
  one : ∀ c ∈ l, c.f0.size ≤ 1000 ∧ c.f1.length ≤ 1000
theorem SmallCalls.sizes {l : List S33} (h : SmallCalls l) : CSzS l := ⟨by have := h.len; omega, fun c hc => by have := h.one c hc; exact ⟨by omega, by omega⟩⟩
structure SmallExpects (l : List S73) : Prop where
  len : l.length ≤ 1000
  one : ∀ c ∈ l, c.f0.size ≤ 1000 ∧ c.f1.length ≤ 1000
theorem SmallExpects.sizes {l : List S73} (h : SmallExpects l) : ESzS l := ⟨by have := h.len; omega, fun c hc => by have := h.one c hc; exact ⟨by omega, by omega⟩⟩
theorem predN {n : Nat} (h : n < 1000000) : wrap64 (((n + 1 : Nat) : Int) - 1) = (n : Int) := by rw [wrapI (by omega)]; omega
theorem aCall_loop {b : List Int} (hb : Code_ b) (s : ByteArray) : ∀ (n : Nat) (l : List Int) (p : Int), l.length + n ≤ 100 → 0 ≤ p → p + n ≤ 1000000 →
    ∃ m, Ev (fun k => spec_aCall.l0 k (n : Int) b p s l) (s, m, p + n) ∧ m.length = l.length + n := by
  intro n
  induction n with
  | zero =>
    intro l p hl h0 h1
    exact ⟨l, Ev.step (fun k => rfl) (Ev.iteF (by omega) (Ev.some_ (by simp))), rfl⟩
  | succ n ih =>
    intro l p hl h0 h1
    obtain ⟨y, hy, he⟩ := one_ev hb p h0 (by omega) [1, 2, 1] (by decide) (by decide)
    obtain ⟨m, hm, hm2⟩ := ih (l ++ [y]) (p + 1) (by simp; omega) (by omega) (by omega)
    refine ⟨m, Ev.step (fun k => rfl) (Ev.iteT (by omega) (Ev.bind he (Ev.iteT (by omega) ?_))), by rw [hm2]; simp; omega⟩
    rw [predN (by omega), show p + ((n + 1 : Nat) : Int) = p + 1 + n by omega]
    exact hm
theorem aCall_ev {b : List Int} (hb : Code_ b) (p : Int) (h0 : 0 ≤ p) (h1 : p ≤ 900000) :
    ∃ s l q, Ev (fun k => spec_aCall.f k b p) (s, l, q) ∧ s.size ≤ 1000 ∧ l.length ≤ 1000 ∧ p ≤ q ∧ q ≤ p + 5 := by
  obtain ⟨s, hs, he⟩ := of_ev hb p h0 (by omega) [(⟨#[103, 101, 116]⟩ : ByteArray), (⟨#[112, 117, 116]⟩ : ByteArray), (⟨#[103, 101, 116]⟩ : ByteArray), (⟨#[100, 101, 108]⟩ : ByteArray)] (by decide) (by decide)
  obtain ⟨y, hy, he2⟩ := one_ev hb (p + 1) (by omega) (by omega) [1, 0, 1, 2] (by decide) (by decide)
  have hs2 : s.size = 3 := by
    simp only [List.mem_cons, List.not_mem_nil, or_false] at hs
    rcases hs with rfl | rfl | rfl | rfl <;> rfl
  have hy2 : 0 ≤ y ∧ y ≤ 2 := by
    simp only [List.mem_cons, List.not_mem_nil, or_false] at hy
    omega
  obtain ⟨n, rfl⟩ := Int.eq_ofNat_of_zero_le hy2.1
  obtain ⟨m, hm, hm2⟩ := aCall_loop hb s n [] (p + 1 + 1) (by simp; omega) (by omega) (by omega)
  simp only [List.length_nil] at hm2
  exact ⟨s, m, _, Ev.bind he (Ev.bind he2 hm), by omega, by omega, by omega, by omega⟩
theorem goodCalls_loop {b : List Int} (hb : Code_ b) : ∀ (n : Nat) (l : List S33) (p : Int), l.length + n ≤ 100 → (∀ c ∈ l, c.f0.size ≤ 1000 ∧ c.f1.length ≤ 1000) → 0 ≤ p → p + 5 * n ≤ 800000 →
    ∃ m q, Ev (fun k => spec_goodCalls.l0 k l (n : Int) b p) (m, q) ∧ m.length ≤ 100 ∧ (∀ c ∈ m, c.f0.size ≤ 1000 ∧ c.f1.length ≤ 1000) ∧ 0 ≤ q ∧ q ≤ p + 5 * n := by
  intro n
  induction n with
  | zero =>
    intro l p hl hz h0 h1
    exact ⟨l, p, Ev.step (fun k => rfl) (Ev.iteF (by omega) (Ev.some_ rfl)), by omega, hz, h0, by omega⟩
  | succ n ih =>
    intro l p hl hz h0 h1
    obtain ⟨s, a, q, he, e1, e2, e3, e4⟩ := aCall_ev hb p h0 (by omega)
    obtain ⟨m, q2, hm, g1, g2, g3, g4⟩ := ih (l ++ [(⟨s, a⟩ : S33)]) q (by simp; omega) (fun c hc => by
      rcases List.mem_append.1 hc with hc | hc
      · exact hz c hc
      · rw [List.mem_singleton.1 hc]; exact ⟨e1, e2⟩) (by omega) (by omega)
    refine ⟨m, q2, Ev.step (fun k => rfl) (Ev.iteT (by omega) (Ev.bind he (Ev.iteT (by omega) ?_))), g1, g2, g3, by omega⟩
    rw [predN (by omega)]
    exact hm
theorem goodCalls_ev {b : List Int} (hb : Code_ b) (p : Int) (h0 : 0 ≤ p) (h1 : p ≤ 700000) :
    ∃ m q, Ev (fun k => spec_goodCalls.f k b p) (m, q) ∧ m.length ≤ 100 ∧ (∀ c ∈ m, c.f0.size ≤ 1000 ∧ c.f1.length ≤ 1000) ∧ 0 ≤ q ∧ q ≤ p + 61 := by
  obtain ⟨y, hy, he⟩ := one_ev hb p h0 (by omega) [4, 3, 5, 6, 2, 1, 0, 12] (by decide) (by decide)
  have hy2 : 0 ≤ y ∧ y ≤ 12 := by
    simp only [List.mem_cons, List.not_mem_nil, or_false] at hy
    omega
  obtain ⟨n, rfl⟩ := Int.eq_ofNat_of_zero_le hy2.1
  obtain ⟨m, q2, hm, g1, g2, g3, g4⟩ := goodCalls_loop hb n [] (p + 1) (by simp; omega) (fun c hc => by cases hc) (by omega) (by omega)
  exact ⟨m, q2, Ev.bind he hm, g1, g2, g3, by omega⟩
theorem oneCall_ev {b : List Int} (hb : Code_ b) (p : Int) (h0 : 0 ≤ p) (h1 : p ≤ 900000) :
    ∃ s l, Ev (fun k => spec_reader_oneCall.f k b p) (s, l, p + 1) ∧ s.size ≤ 1000 ∧ l.length ≤ 1000 := by
  obtain ⟨v, hv, v0, v1⟩ := pick_ev hb p 2 h0 (by omega) (by omega)
  by_cases c : v = 0
  · exact ⟨_, _, Ev.bind hv (Ev.iteT c (Ev.some_ rfl)), by show 1 ≤ 1000; omega, by simp⟩
  · exact ⟨_, _, Ev.bind hv (Ev.iteF c (Ev.some_ rfl)), by show 3 ≤ 1000; omega, by simp⟩
theorem someCalls_ev {b : List Int} (hb : Code_ b) (p : Int) (h0 : 0 ≤ p) (h1 : p ≤ 600000) :
    ∃ m q, Ev (fun k => spec_someCalls.f k b p) (m, q) ∧ SmallCalls m ∧ 0 ≤ q ∧ q ≤ p + 100 := by
  obtain ⟨m, q, hm, g1, g2, g3, g4⟩ := goodCalls_ev hb p h0 (by omega)
  by_cases c : (m.length : Int) > 0
  · obtain ⟨v, hv, v0, v1⟩ := pick_ev hb q 20 g3 (by omega) (by omega)
    by_cases c2 : v = 0
    · obtain ⟨j, hj, j0, j1⟩ := pick_ev hb (q + 1) (m.length : Int) (by omega) (by omega) (by omega)
      obtain ⟨s, l, he, e1, e2⟩ := oneCall_ev hb (q + 1 + 1) (by omega) (by omega)
      have j2 := j1 (by omega)
      obtain ⟨n, rfl⟩ := Int.eq_ofNat_of_zero_le j0
      refine ⟨m.set n ⟨s, l⟩, q + 1 + 1 + 1, ?_, ⟨by rw [List.length_set]; omega, fun c hc => ?_⟩, by omega, by omega⟩
      · unfold spec_someCalls.f
        refine Ev.bind hm (Ev.iteT c (Ev.bind hv ?_))
        refine Ev.step (fun k => by rw [spec_someCalls.j0]) ?_
        exact Ev.iteT (by simpa using c2) (Ev.bind hj (Ev.bind he (Ev.iteT (by omega) (Ev.iteT (by omega) (Ev.some_ (by rw [Int.toNat_natCast]))))))
      · rcases List.mem_or_eq_of_mem_set hc with hc | rfl
        · exact g2 c hc
        · exact ⟨e1, e2⟩
    · refine ⟨m, q + 1, ?_, ⟨by omega, g2⟩, by omega, by omega⟩
      unfold spec_someCalls.f
      refine Ev.bind hm (Ev.iteT c (Ev.bind hv ?_))
      refine Ev.step (fun k => by rw [spec_someCalls.j0]) ?_
      exact Ev.iteF (by simpa using c2) (Ev.some_ rfl)
  · refine ⟨m, q, ?_, ⟨by omega, g2⟩, g3, by omega⟩
    unfold spec_someCalls.f
    refine Ev.bind hm (Ev.iteF c ?_)
    refine Ev.step (fun k => by rw [spec_someCalls.j0]) ?_
    exact Ev.iteF (by simp) (Ev.some_ rfl)
theorem someExpects_loop {b : List Int} (hb : Code_ b) : ∀ (n : Nat) (l : List S73) (p : Int), l.length + n ≤ 100 → (∀ c ∈ l, c.f0.size ≤ 1000 ∧ c.f1.length ≤ 1000) → 0 ≤ p → p + 8 * n ≤ 800000 →
    ∃ m q, Ev (fun k => spec_someExpects.l0 k l (n : Int) b p) (m, q) ∧ SmallExpects m := by
  intro n
  induction n with
  | zero =>
    intro l p hl hz h0 h1
    by_cases c : (l.length : Int) > 0
    · obtain ⟨v, hv, v0, v1⟩ := pick_ev hb p 20 h0 (by omega) (by omega)
      by_cases c2 : v = 0
      · obtain ⟨y, hy, he⟩ := one_ev hb (p + 1) (by omega) (by omega) [-1, 13] (by decide) (by decide)
        refine ⟨_, _, Ev.step (fun k => rfl) (Ev.iteF (by omega) (Ev.iteT c (Ev.bind hv (Ev.iteT c2 (Ev.bind he (Ev.iteT (by omega) (Ev.some_ rfl))))))), ⟨by rw [List.length_set]; omega, fun e hc => ?_⟩⟩
        rcases List.mem_or_eq_of_mem_set hc with hc | rfl
        · exact hz e hc
        · have e0 : rd_T73 l 0 = l[0]'(by omega) := rdExpect_nat l 0 (by omega)
          show (rd_T73 l 0).f0.size ≤ 1000 ∧ (rd_T73 l 0).f1.length ≤ 1000
          rw [e0]
          exact hz _ (List.getElem_mem _)
      · exact ⟨l, _, Ev.step (fun k => rfl) (Ev.iteF (by omega) (Ev.iteT c (Ev.bind hv (Ev.iteF c2 (Ev.some_ rfl))))), ⟨by omega, hz⟩⟩
    · exact ⟨l, p, Ev.step (fun k => rfl) (Ev.iteF (by omega) (Ev.iteF c (Ev.some_ rfl))), ⟨by omega, hz⟩⟩
  | succ n ih =>
    intro l p hl hz h0 h1
    obtain ⟨s, a, q, he, e1, e2, e3, e4⟩ := aCall_ev hb p h0 (by omega)
    obtain ⟨u, hu, u0, u1⟩ := pick_ev hb q 2 (by omega) (by omega) (by omega)
    obtain ⟨v, hv, v0, v1⟩ := pick_ev hb (q + 1) 3 (by omega) (by omega) (by omega)
    obtain ⟨z, hz3, z0, z1⟩ := pick_ev hb (q + 1 + 1) 3 (by omega) (by omega) (by omega)
    have put : ∀ (x : S73), x.f0.size ≤ 1000 ∧ x.f1.length ≤ 1000 → ∀ c ∈ l ++ [x], c.f0.size ≤ 1000 ∧ c.f1.length ≤ 1000 := fun x hx c hc => by
      rcases List.mem_append.1 hc with hc | hc
      · exact hz c hc
      · rw [List.mem_singleton.1 hc]; exact hx
    by_cases c : z = 0
    · obtain ⟨m, q2, hm, g1⟩ := ih (l ++ [(⟨s, [], true, u, wrap64 (u + v)⟩ : S73)]) (q + 1 + 1 + 1) (by simp; omega) (put _ ⟨e1, by simp⟩) (by omega) (by omega)
      refine ⟨m, q2, Ev.step (fun k => rfl) (Ev.iteT (by omega) (Ev.bind he (Ev.bind hu (Ev.bind hv (Ev.bind hz3 (Ev.iteT c (Ev.iteT (by omega) ?_))))))), g1⟩
      rw [predN (by omega)]
      exact hm
    · obtain ⟨m, q2, hm, g1⟩ := ih (l ++ [(⟨s, a, false, u, wrap64 (u + v)⟩ : S73)]) (q + 1 + 1 + 1) (by simp; omega) (put _ ⟨e1, e2⟩) (by omega) (by omega)
      refine ⟨m, q2, Ev.step (fun k => rfl) (Ev.iteT (by omega) (Ev.bind he (Ev.bind hu (Ev.bind hv (Ev.bind hz3 (Ev.iteF c (Ev.iteT (by omega) ?_))))))), g1⟩
      rw [predN (by omega)]
      exact hm
theorem someExpects_ev {b : List Int} (hb : Code_ b) (p : Int) (h0 : 0 ≤ p) (h1 : p ≤ 700000) :
    ∃ m q, Ev (fun k => spec_someExpects.f k b p) (m, q) ∧ SmallExpects m := by
  obtain ⟨y, hy, he⟩ := one_ev hb p h0 (by omega) [2, 3, 1, 0, 4] (by decide) (by decide)
  have hy2 : 0 ≤ y ∧ y ≤ 4 := by
    simp only [List.mem_cons, List.not_mem_nil, or_false] at hy
    omega
  obtain ⟨n, rfl⟩ := Int.eq_ofNat_of_zero_le hy2.1
  obtain ⟨m, q2, hm, g1⟩ := someExpects_loop hb n [] (p + 1) (by simp; omega) (fun c hc => by cases hc) (by omega) (by omega)
  exact ⟨m, q2, Ev.bind he hm, g1⟩
theorem drawStray_ev (c : List Int) (h : ∀ x ∈ c, 0 ≤ x ∧ x ≤ 255) : ∃ l m, Ev (fun k => spec_DrawStrayCalls.f k c) (l, m) ∧ SmallCalls l ∧ SmallExpects m := by
  obtain ⟨b, hb, hb2⟩ := newReader_ev c h
  obtain ⟨l, q, hl, hs, q0, q1⟩ := someCalls_ev hb2 0 (by omega) (by omega)
  obtain ⟨m, q2, hm, hs2⟩ := someExpects_ev hb2 q q0 (by omega)
  refine ⟨l, m, ?_, hs, hs2⟩
  unfold spec_DrawStrayCalls.f spec_DrawUnmetExpects.f
  exact Ev.bind (Ev.bind0 hb (Ev.bind hl (Ev.bind hm (Ev.some_ rfl)))) (Ev.some_ rfl)
theorem equalInts_loop (a : List Int) (ha : a.length ≤ 4611686018427387903) : ∀ (d i : Nat), i + d = a.length → Ev (fun k => laws_equalInts.l0 k a a (i : Int)) true := by
  intro d
  induction d with
  | zero =>
    intro i hd
    exact Ev.step (fun k => rfl) (Ev.iteF (by omega) (Ev.some_ rfl))
  | succ d ih =>
    intro i hd
    refine Ev.step (fun k => rfl) (Ev.iteT (by omega) (Ev.iteT (by omega) (Ev.iteT (by omega) (Ev.iteT rfl ?_))))
    rw [wrapN (by omega)]
    exact ih (i + 1) (by omega)
theorem equalIntsR_ev (a : List Int) (ha : a.length ≤ 4611686018427387903) : Ev (fun k => laws_equalInts.f k a a) true := by
  unfold laws_equalInts.f
  exact Ev.iteT rfl (equalInts_loop a ha a.length 0 (by omega))
def strayB (l : List S73) (c : S33) : Bool := !(l.any fun e => meetsS e c)
def strayV (calls : List S33) (l : List S73) : List Int := if callsS calls = true ∧ expectsS l = true then placesF (strayB l) calls 0 else []
theorem strayV_length (calls : List S33) (l : List S73) : (strayV calls l).length ≤ calls.length := by
  unfold strayV
  split
  · exact placesF_length _ _ _
  · simp
theorem strayFind_ev (c : S33) : ∀ (l : List S73) (i : Nat), (∀ e ∈ l, ESz e) → ∃ j : Int, Ev (fun k => impl_strayPred.find k c.f0 c.f1 l i) j ∧ (decide (j ≥ 0) = l.any fun e => meetsS e c)
  | [], i, _ => ⟨-1, ⟨0, fun k _ => by unfold impl_strayPred.find; rfl⟩, by simp⟩
  | e :: t, i, h => by
    obtain ⟨j, hj, hj2⟩ := strayFind_ev c t (i + 1) (fun q hq => h q (by simp [hq]))
    have he := implMeets_ev e c (h e (by simp))
    cases hm : meetsS e c with
    | true =>
      refine ⟨(i : Int), Ev.congr (f := fun k => (impl_Expect_meets.f k e.f0 e.f1 e.f2 e.f3 e.f4 c.f0 c.f1).bind fun b => if b = true then some (i : Int) else impl_strayPred.find k c.f0 c.f1 t (i + 1)) (fun k => by rw [impl_strayPred.find]) (Ev.bind he (Ev.iteT hm (Ev.some_ rfl))), ?_⟩
      rw [List.any_cons, hm, Bool.true_or]
      exact decide_eq_true (by omega)
    | false =>
      refine ⟨j, Ev.congr (f := fun k => (impl_Expect_meets.f k e.f0 e.f1 e.f2 e.f3 e.f4 c.f0 c.f1).bind fun b => if b = true then some (i : Int) else impl_strayPred.find k c.f0 c.f1 t (i + 1)) (fun k => by rw [impl_strayPred.find]) (Ev.bind he (Ev.iteF (by simp [hm]) hj)), ?_⟩
      rw [List.any_cons, hm, Bool.false_or]
      exact hj2
theorem strayPred_ev (c : S33) (l : List S73) (h : ESzS l) : Ev (fun k => impl_strayPred.f k l c.f0 c.f1) (l.any fun e => meetsS e c) := by
  obtain ⟨j, hj, hj2⟩ := strayFind_ev c l 0 h.one
  unfold impl_strayPred.f
  exact Ev.bind hj (Ev.some_ hj2)
theorem strayB_not (l : List S73) (c : S33) : (l.any fun e => meetsS e c) = !strayB l c := by simp [strayB]
theorem implStray_l0 (L : List S73) (hL : ESzS L) (x0 : List S33) (h0 : CSzS x0) : ∀ (t : List S33) (i : Nat) (x5 : List Int), x0.drop i = t → i ≤ x0.length → x5.length ≤ i →
    Ev (fun k => impl_StrayCalls.l0 k L x5 x0 (x0.length : Int) (i : Int)) (x5 ++ placesF (strayB L) t i) := by
  have hlen := h0.len
  intro t
  induction t with
  | nil =>
    intro i x5 h hi hx
    have hl2 := drop_nil h
    exact Ev.step (fun k => rfl) (Ev.iteF (by omega) (Ev.some_ (by simp [placesF])))
  | cons b t ih =>
    intro i x5 h hi hx
    obtain ⟨hl2, hb, ht⟩ := drop_cons h
    refine Ev.step (fun k => rfl) (Ev.iteT (by omega) (Ev.iteT (by omega) (Ev.iteT (by omega) ?_)))
    rw [rdCall_nat _ _ hl2, hb, placesF]
    refine Ev.bind (strayPred_ev b L hL) ?_
    rw [strayB_not, wrapN (by omega)]
    cases hm : strayB L b with
    | true =>
      refine Ev.iteF (by simp) (Ev.iteT (by omega) ?_)
      have := ih (i + 1) (x5 ++ [(i : Int)]) ht (by omega) (by simp; omega)
      simpa using this
    | false =>
      refine Ev.iteT (by simp) ?_
      have := ih (i + 1) x5 ht (by omega) (by omega)
      simpa using this
theorem implStray_ev (x0 : List S33) (h0 : CSzS x0) (L : List S73) (hL : ESzS L) : Ev (fun k => impl_StrayCalls.f k x0 L) (strayV x0 L) := by
  have hgo := implStray_l0 L hL x0 h0 x0 0 [] rfl (Nat.zero_le _) (Nat.le_refl _)
  rw [List.nil_append] at hgo
  unfold impl_StrayCalls.f strayV
  refine Ev.bind (validCallsI_ev x0 h0) ?_
  by_cases c : callsS x0 = true
  · refine Ev.iteT c (Ev.bind (expectsOk_ev L hL) ?_)
    refine Ev.step (fun k => by rw [impl_StrayCalls.j0]) ?_
    by_cases d : expectsS L = true
    · rw [if_pos ⟨c, d⟩]
      exact Ev.iteF (by simp [d]) hgo
    · rw [if_neg (fun h => d h.2)]
      exact Ev.iteT (by simpa using d) (Ev.some_ rfl)
  · rw [if_neg (fun h => c h.1)]
    refine Ev.iteF c ?_
    refine Ev.step (fun k => by rw [impl_StrayCalls.j0]) ?_
    exact Ev.iteT rfl (Ev.some_ rfl)
theorem specStray_l1 (x0 : List S33) (h0 : CSzS x0) (L : List S73) (hL : ESzS L) (q : Nat) (hq : q < x0.length) (x5 : List Int) (hx5 : x5.length ≤ 4194304) (r : List Int)
    (hc : Ev (fun k => spec_StrayCalls.l0 k x0 L (if strayB L x0[q] = true then x5 ++ [(q : Int)] else x5) ((q + 1 : Nat) : Int)) r) : ∀ (t : List S73) (i : Nat) (m : Bool), L.drop i = t → i ≤ L.length → (m || t.any fun e => meetsS e x0[q]) = !strayB L x0[q] →
    Ev (fun k => spec_StrayCalls.l1 k x0 L x5 (q : Int) m (i : Int)) r := by
  have hlen := h0.len
  have hlen2 := hL.len
  intro t
  induction t with
  | nil =>
    intro i m h hi hm
    have hl2 := drop_nil h
    refine Ev.step (fun k => rfl) (Ev.iteF (by omega) ?_)
    rw [List.any_nil, Bool.or_false] at hm
    subst hm
    rw [wrapN (by omega)]
    cases hs : strayB L x0[q] with
    | true =>
      rw [if_pos hs] at hc
      exact Ev.iteF (by simp) (Ev.iteT (by omega) hc)
    | false =>
      rw [if_neg (by simp [hs])] at hc
      exact Ev.iteT rfl hc
  | cons b t ih =>
    intro i m h hi hm
    obtain ⟨hl2, hb, ht⟩ := drop_cons h
    refine Ev.step (fun k => rfl) (Ev.iteT (by omega) ?_)
    rw [wrapN (by omega)]
    rw [List.any_cons] at hm
    cases m with
    | true => exact Ev.iteT rfl (ih (i + 1) true ht (by omega) (by simpa using hm))
    | false =>
      refine Ev.iteF (by simp) (Ev.iteT (by omega) (Ev.iteT (by omega) (Ev.iteT (by omega) ?_)))
      rw [rdCall_nat _ _ hq, rdExpect_nat _ _ hl2, hb]
      refine Ev.bind (specMeets_ev b x0[q] (h0.one _ (List.getElem_mem hq))) ?_
      exact ih (i + 1) _ ht (by omega) (by simpa using hm)
theorem specStray_l0 (x0 : List S33) (h0 : CSzS x0) (L : List S73) (hL : ESzS L) : ∀ (t : List S33) (i : Nat) (x5 : List Int), x0.drop i = t → i ≤ x0.length → x5.length ≤ i →
    Ev (fun k => spec_StrayCalls.l0 k x0 L x5 (i : Int)) (x5 ++ placesF (strayB L) t i) := by
  have hlen := h0.len
  intro t
  induction t with
  | nil =>
    intro i x5 h hi hx
    have hl2 := drop_nil h
    exact Ev.step (fun k => rfl) (Ev.iteF (by omega) (Ev.some_ (by simp [placesF])))
  | cons b t ih =>
    intro i x5 h hi hx
    obtain ⟨hl2, hb, ht⟩ := drop_cons h
    subst hb
    have hnext := ih (i + 1) (if strayB L x0[i] = true then x5 ++ [(i : Int)] else x5) ht (by omega) (by split <;> (try simp) <;> omega)
    have e : (if strayB L x0[i] = true then x5 ++ [(i : Int)] else x5) ++ placesF (strayB L) t (i + 1) = x5 ++ placesF (strayB L) (x0[i] :: t) i := by
      rw [placesF.eq_def (strayB L) (x0[i] :: t) i]
      dsimp only
      split <;> simp
    rw [e] at hnext
    refine Ev.step (fun k => rfl) (Ev.iteT (by omega) ?_)
    exact specStray_l1 x0 h0 L hL i hl2 x5 (by omega) _ hnext L 0 false rfl (Nat.zero_le _) (by rw [Bool.false_or, strayB_not])
theorem specStray_ev (x0 : List S33) (h0 : CSzS x0) (L : List S73) (hL : ESzS L) : Ev (fun k => spec_StrayCalls.f k x0 L) (strayV x0 L) := by
  have hgo := specStray_l0 x0 h0 L hL x0 0 [] rfl (Nat.zero_le _) (Nat.le_refl _)
  rw [List.nil_append] at hgo
  unfold spec_StrayCalls.f strayV
  refine Ev.bind (validCallsS_ev x0 h0) ?_
  by_cases c : callsS x0 = true
  · refine Ev.iteT c (Ev.bind (validExpects_ev L hL) ?_)
    refine Ev.step (fun k => by rw [spec_StrayCalls.j0]) ?_
    by_cases d : expectsS L = true
    · rw [if_pos ⟨c, d⟩]
      exact Ev.iteF (by simp [d]) hgo
    · rw [if_neg (fun h => d h.2)]
      exact Ev.iteT (by simpa using d) (Ev.some_ rfl)
  · rw [if_neg (fun h => c h.1)]
    refine Ev.iteF c ?_
    refine Ev.step (fun k => by rw [spec_StrayCalls.j0]) ?_
    exact Ev.iteT rfl (Ev.some_ rfl)
theorem placesF_mem {α : Type} (p : α → Bool) : ∀ (l : List α) (i : Nat) (x : Int), x ∈ placesF p l i ↔ ∃ (j : Nat) (h : j < l.length), x = ((i + j : Nat) : Int) ∧ p l[j] = true
  | [], i, x => by simp [placesF]
  | y :: t, i, x => by
    have ih := placesF_mem p t (i + 1) x
    have e : x ∈ placesF p (y :: t) i ↔ (p y = true ∧ x = (i : Int)) ∨ x ∈ placesF p t (i + 1) := by
      rw [placesF.eq_def p (y :: t) i]
      dsimp only
      split
      · next h => simp [h]
      · next h => simp [h]
    rw [e, ih]
    constructor
    · rintro (⟨h, rfl⟩ | ⟨j, hj, rfl, hp⟩)
      · exact ⟨0, by simp, by simp, by simpa using h⟩
      · exact ⟨j + 1, by simp; omega, by congr 1; omega, by simpa using hp⟩
    · rintro ⟨j, hj, rfl, hp⟩
      cases j with
      | zero => exact .inl ⟨by simpa using hp, by simp⟩
      | succ j => exact .inr ⟨j, by simpa using hj, by congr 1; omega, by simpa using hp⟩
theorem placesF_none {α : Type} (p : α → Bool) : ∀ (l : List α) (i : Nat), (∀ x ∈ l, p x = false) → placesF p l i = []
  | [], _, _ => rfl
  | y :: t, i, h => by
    rw [placesF.eq_def p (y :: t) i]
    dsimp only
    rw [if_neg (by simp [h y (by simp)]), placesF_none p t (i + 1) (fun x hx => h x (by simp [hx]))]
theorem placesF_congr {α : Type} (p q : α → Bool) : ∀ (l : List α) (i : Nat), (∀ x ∈ l, p x = q x) → placesF p l i = placesF q l i
  | [], _, _ => rfl
  | y :: t, i, h => by
    rw [placesF.eq_def p (y :: t) i, placesF.eq_def q (y :: t) i]
    dsimp only
    rw [h y (by simp), placesF_congr p q t (i + 1) (fun x hx => h x (by simp [hx]))]
/-- Ascending, from behind 'a' on. -/
def ascI : Int → List Int → Prop
  | _, [] => True
  | a, x :: t => a < x ∧ ascI x t
theorem ascI_weak {a b : Int} (h : b ≤ a) : ∀ {l : List Int}, ascI a l → ascI b l
  | [], _ => trivial
  | _ :: _, hl => ⟨by have := hl.1; omega, hl.2⟩
theorem placesF_asc {α : Type} (p : α → Bool) : ∀ (l : List α) (i : Nat), ascI ((i : Int) - 1) (placesF p l i)
  | [], _ => trivial
  | y :: t, i => by
    have ih := placesF_asc p t (i + 1)
    rw [placesF.eq_def p (y :: t) i]
    dsimp only
    split
    · refine ⟨by omega, ascI_weak ?_ ih⟩
      omega
    · exact ascI_weak (by omega) ih
theorem ascI_at : ∀ (l : List Int) (a : Int), ascI a l → ∀ (i : Nat) (h : i + 1 < l.length), l[i] < l[i + 1]
  | [], _, _, i, h => by simp at h
  | [_], _, _, i, h => by simp at h
  | x :: y :: t, a, ha, i, h => by
    cases i with
    | zero => exact ha.2.1
    | succ i => exact ascI_at (y :: t) x ha.2 i (by simpa using h)
theorem ascends_loop (l : List Int) (hl : l.length ≤ 4611686018427387903) (ha : ∀ (i : Nat) (h : i + 1 < l.length), l[i] < l[i + 1]) : ∀ (d i : Nat), i + 1 + d = l.length → Ev (fun k => laws_ascends.l0 k l ((i + 1 : Nat) : Int)) true := by
  intro d
  induction d with
  | zero =>
    intro i hd
    exact Ev.step (fun k => rfl) (Ev.iteF (by omega) (Ev.some_ rfl))
  | succ d ih =>
    intro i hd
    have e : wrap64 (((i + 1 : Nat) : Int) - 1) = (i : Int) := by rw [wrapI (by omega)]; omega
    refine Ev.step (fun k => rfl) (Ev.iteT (by omega) (Ev.iteT (by omega) ?_))
    rw [e, rd_nat _ i (by omega), rd_nat _ (i + 1) (by omega), wrapN (by omega)]
    exact Ev.iteT (by omega) (Ev.iteT (by omega) (Ev.iteF (by have := ha i (by omega); omega) (ih (i + 1) (by omega))))
theorem ascends_ev (l : List Int) (hl : l.length ≤ 4611686018427387903) (a : Int) (h : ascI a l) : Ev (fun k => laws_ascends.f k l) true := by
  unfold laws_ascends.f
  by_cases c : l.length = 0
  · exact Ev.step (fun k => rfl) (Ev.iteF (by omega) (Ev.some_ rfl))
  · exact ascends_loop l hl (ascI_at l a h) (l.length - 1) 0 (by omega)
theorem isIn_loop (l : List Int) (x : Int) (hl : l.length ≤ 4611686018427387903) : ∀ (t : List Int) (i : Nat), l.drop i = t → i ≤ l.length → Ev (fun k => laws_isIn.l0 k l x (i : Int)) (decide (x ∈ t)) := by
  intro t
  induction t with
  | nil =>
    intro i h hi
    have hl2 := drop_nil h
    exact Ev.step (fun k => rfl) (Ev.iteF (by omega) (Ev.some_ (by simp)))
  | cons b t ih =>
    intro i h hi
    obtain ⟨hl2, hb, ht⟩ := drop_cons h
    refine Ev.step (fun k => rfl) (Ev.iteT (by omega) (Ev.iteT (by omega) ?_))
    rw [rd_nat _ _ hl2, hb, wrapN (by omega)]
    by_cases c : b = x
    · exact Ev.iteT c (Ev.some_ (by simp [c]))
    · refine Ev.iteF c ?_
      have e : decide (x ∈ b :: t) = decide (x ∈ t) := decide_eq_decide.2 (by simp [Ne.symm c])
      rw [e]
      exact ih (i + 1) ht (by omega)
theorem isIn_ev (l : List Int) (x : Int) (hl : l.length ≤ 4611686018427387903) : Ev (fun k => laws_isIn.f k l x) (decide (x ∈ l)) := isIn_loop l x hl l 0 rfl (Nat.zero_le _)
theorem strayFew_loop (x3 : List S33) (x4 : List S73) (h3 : x3.length ≤ 1000) (r : Bool)
    (hc : ∀ i : Nat, x3.length ≤ i → i ≤ x3.length → Ev (fun k => laws_FnStrayCalls.l0 k x3 x4 (placesF (strayB x4) x3 0) (x3.filter fun c => !strayB x4 c) (i : Int)) r) : ∀ (t : List S33) (i : Nat) (x6 : List S33), x3.drop i = t → i ≤ x3.length → x6.length ≤ i → (x6 ++ t.filter fun c => !strayB x4 c) = (x3.filter fun c => !strayB x4 c) →
    Ev (fun k => laws_FnStrayCalls.l0 k x3 x4 (placesF (strayB x4) x3 0) x6 (i : Int)) r := by
  intro t
  induction t with
  | nil =>
    intro i x6 h hi h6 he
    have hl2 := drop_nil h
    rw [List.filter_nil, List.append_nil] at he
    rw [he]
    exact hc i hl2 hi
  | cons b t ih =>
    intro i x6 h hi h6 he
    obtain ⟨hl2, hb, ht⟩ := drop_cons h
    have hpl := placesF_length (strayB x4) x3 0
    have hmem : decide ((i : Int) ∈ placesF (strayB x4) x3 0) = strayB x4 b := by
      rw [Bool.eq_iff_iff, decide_eq_true_eq, placesF_mem]
      constructor
      · rintro ⟨j, hj, hij, hp⟩
        have : j = i := by omega
        subst this
        rw [← hb]; exact hp
      · intro hp
        exact ⟨i, hl2, by simp, by rw [hb]; exact hp⟩
    refine Ev.step (fun k => rfl) (Ev.iteT (by omega) (Ev.bind (isIn_ev _ _ (by omega)) ?_))
    rw [hmem, wrapN (by omega)]
    cases hs : strayB x4 b with
    | true =>
      refine Ev.iteT rfl (ih (i + 1) x6 ht (by omega) (by omega) ?_)
      rw [← he, List.filter_cons_of_neg (by simp [hs])]
    | false =>
      refine Ev.iteF (by simp) (Ev.iteT (by omega) (Ev.iteT (by omega) ?_))
      rw [rdCall_nat _ _ hl2, hb]
      refine ih (i + 1) (x6 ++ [b]) ht (by omega) (by simp; omega) ?_
      rw [← he, List.filter_cons_of_pos (by simp [hs]), List.append_assoc]
      rfl
theorem metN_few (x4 : List S73) (e : S73) (he : e ∈ x4) (l : List S33) : metN (l.filter fun c => !strayB x4 c) e = metN l e := by
  unfold metN
  rw [List.countP_filter]
  refine List.countP_congr (fun c hc => ?_)
  constructor
  · intro h
    simp only [Bool.and_eq_true] at h
    exact h.1
  · intro h
    simp only [Bool.and_eq_true]
    refine ⟨h, ?_⟩
    simp only [strayB, Bool.not_not, List.any_eq_true]
    exact ⟨e, he, h⟩
theorem callsS_filter (p : S33 → Bool) (l : List S33) (h : callsS l = true) : callsS (l.filter p) = true := by
  unfold callsS at h ⊢
  simp only [Bool.and_eq_true, decide_eq_true_eq, List.all_eq_true] at h ⊢
  refine ⟨fun c hc => h.1 c ((List.mem_filter.1 hc).1), ?_⟩
  have := List.length_filter_le p l
  omega
theorem unmet_few (l : List S33) (x4 : List S73) (h : callsS l = true) : unmetV (l.filter fun c => !strayB x4 c) x4 = unmetV l x4 := by
  unfold unmetV
  have hf := callsS_filter (fun c => !strayB x4 c) l h
  by_cases d : expectsS x4 = true
  · rw [if_pos ⟨hf, d⟩, if_pos ⟨h, d⟩]
    refine placesF_congr _ _ x4 0 (fun e he => ?_)
    unfold unmetB
    rw [metN_few x4 e he]
  · rw [if_neg (fun q => d q.2), if_neg (fun q => d q.2)]
theorem stray_few (l : List S33) (x4 : List S73) : strayV (l.filter fun c => !strayB x4 c) x4 = [] := by
  unfold strayV
  split
  · refine placesF_none _ _ 0 (fun c hc => ?_)
    have := (List.mem_filter.1 hc).2
    simpa using this
  · rfl
theorem strayFew0_loop (x3 : List S33) (x4 : List S73) (h3 : x3.length ≤ 1000) (r : Bool)
    (hc : ∀ i : Nat, x3.length ≤ i → i ≤ x3.length → Ev (fun k => laws_FnStrayCalls.l0 k x3 x4 [] x3 (i : Int)) r) : ∀ (t : List S33) (i : Nat) (x6 : List S33), x3.drop i = t → i ≤ x3.length → x6.length ≤ i → x6 ++ t = x3 →
    Ev (fun k => laws_FnStrayCalls.l0 k x3 x4 [] x6 (i : Int)) r := by
  intro t
  induction t with
  | nil =>
    intro i x6 h hi h6 he
    have hl2 := drop_nil h
    rw [List.append_nil] at he
    rw [he]
    exact hc i hl2 hi
  | cons b t ih =>
    intro i x6 h hi h6 he
    obtain ⟨hl2, hb, ht⟩ := drop_cons h
    refine Ev.step (fun k => rfl) (Ev.iteT (by omega) (Ev.bind (isIn_ev _ _ (by simp)) ?_))
    rw [wrapN (by omega)]
    refine Ev.iteF (by simp) (Ev.iteT (by omega) (Ev.iteT (by omega) ?_))
    rw [rdCall_nat _ _ hl2, hb]
    refine ih (i + 1) (x6 ++ [b]) ht (by omega) (by simp; omega) ?_
    rw [← he, List.append_assoc]
    rfl
end Go.Proofs.Ytcbkpdgbijdbbaa.K
