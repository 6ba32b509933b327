/- Plain laws, without Go, that the law FnAndExpr leans on. No condition. -/
import Derived.Test.YtdllommmccgleaaAx0
import Derived.Test.YtdllommmccgleaaAx1
import Derived.Test.YtdllommmccgleaaAx2
import Derived.Test.YtdllommmccgleaaAx3
import Derived.Test.YtdllommmccgleaaAx4
import Derived.Test.YtdllommmccgleaaAx5
import Derived.Test.YtdllommmccgleaaAx6
import Derived.Test.YtdllommmccgleaaAx7
import Derived.Test.YtdllommmccgleaaAx8
import Derived.Test.YtdllommmccgleaaAx9
import Derived.Test.YtdllommmccgleaaWMore
import Derived.IntWalk
import Derived.Laws.BitsLemmas
import Derived.Lib.Bytealg
import Derived.Lib.Strings
set_option linter.unusedSimpArgs false
set_option linter.unusedVariables false
namespace Go.Proofs.Ytdllommmccgleaa.A
open Go.RowKit Go.Proofs.YtdllommmccgleaaW.PrintWords Go.Proofs.YtdllommmccgleaaW.PrintLast Go.Proofs.YtdllommmccgleaaW.PrintMore
theorem Ev.iteT {α : Type} {c : Prop} [Decidable c] {g f : Nat → Option α} {r : α} (h : c) (k : Ev g r) : Ev (fun n => if c then g n else f n) r := by
 simpa only [if_pos h] using k
theorem Ev.iteF {α : Type} {c : Prop} [Decidable c] {g f : Nat → Option α} {r : α} (h : ¬ c) (k : Ev f r) : Ev (fun n => if c then g n else f n) r := by
 simpa only [if_neg h] using k
/-- A callee without rounds. -/
theorem Ev.bind0 {α β : Type} {g : Option α} {f : Nat → α → Option β} {a : α} {r : β} (h : g = some a) (k : Ev (fun n => f n a) r) : Ev (fun n => g.bind (f n)) r := by
 subst h
 simpa only [Option.bind_some] using k
theorem Ev.some_ {α : Type} {x r : α} (h : x = r) : Ev (fun _ => some x) r := ⟨0, fun _ _ => by rw [h]⟩
theorem Ev.bool {b r : Bool} (h : b = r) : Ev (fun _ => some b) r := Ev.some_ h
theorem wrapN {i : Nat} (h : i < 4611686018427387904) : wrap64 ((i : Int) + 1) = ((i + 1 : Nat) : Int) := by
 unfold wrap64
 omega
theorem wrapI {x : Int} (h : -9223372036854775808 ≤ x ∧ x ≤ 9223372036854775807) : wrap64 x = x := by
 unfold wrap64
 omega
theorem rdOf_nat {α : Type} (d : α) (l : List α) (i : Nat) (h : i < l.length) : rdOf d l (i : Int) = l[i] := by
 simp [rdOf, List.getD_eq_getElem?_getD, List.getElem?_eq_getElem h]
theorem rd_nat (l : List Int) (i : Nat) (h : i < l.length) : rd l (i : Int) = l[i] := by
 simp [rd, List.getD_eq_getElem?_getD, List.getElem?_eq_getElem h]
theorem size_list (s : ByteArray) : s.data.toList.length = s.size := by rw [Array.length_toList]; rfl
theorem bt_nat (s : ByteArray) (i : Nat) (h : i < s.data.toList.length) : bt s (i : Int) = ((s.data.toList[i]).toNat : Int) := by
 have h' : i < s.size := by rw [← size_list]; exact h
 unfold bt
 rw [dif_pos (by simpa using h')]
 rfl
/-- A list seen from place i on. -/
theorem drop_cons {α : Type} {l : List α} {i : Nat} {b : α} {t : List α} (h : l.drop i = b :: t) : ∃ hi : i < l.length, l[i] = b ∧ l.drop (i + 1) = t := by
 have hi : i < l.length := by
  rcases Nat.lt_or_ge i l.length with h1 | h1
  ·exact h1
  ·rw [List.drop_of_length_le h1] at h
   cases h
 refine ⟨hi, ?_, ?_⟩
 ·rw [List.drop_eq_getElem_cons hi] at h
  exact (List.cons.inj h).1
 ·rw [List.drop_eq_getElem_cons hi] at h
  exact (List.cons.inj h).2
theorem drop_nil {α : Type} {l : List α} {i : Nat} (h : l.drop i = []) : l.length ≤ i := by
 have := congrArg List.length h
 rw [List.length_drop] at this
 simpa using Nat.sub_eq_zero_iff_le.1 this
theorem toList_inj {a b : ByteArray} (h : a.toList = b.toList) : a = b := by
 rw [Lib.toList_data, Lib.toList_data] at h
 cases a with
 | mk x => cases b with
  | mk y =>
   have : x = y := Array.ext' h
   rw [this]
theorem toList_iff {a b : ByteArray} : a.toList = b.toList ↔ a = b := ⟨toList_inj, fun h => by rw [h]⟩
def lowB (b : UInt8) : Bool := decide (97 ≤ (b.toNat : Int)) && decide ((b.toNat : Int) ≤ 122)
/-- What is asked of a name behind its letters. -/
def nameEnd (s : ByteArray) : Bool := decide (1 ≤ s.size) && (decide (s.size ≤ 6) && (s.toList != ([97, 110, 100] : List UInt8) && (s.toList != ([111, 114] : List UInt8) && s.toList != ([110, 111, 116] : List UInt8))))
def nameS (s : ByteArray) : Bool := s.data.toList.all lowB && nameEnd s
theorem inRange_ev (a b c : Int) : spec_inRange.f a b c = some (decide (b ≤ a ∧ a ≤ c)) := by
 unfold spec_inRange.f
 by_cases h : b ≤ a
 ·rw [if_pos h]
  simp [h]
 ·rw [if_neg h]
  simp [h]
theorem data_extract (s : ByteArray) (a b : Nat) : (s.extract a b).data.toList = (s.data.toList.take b).drop a := by
 rw [ByteArray.data_extract, Array.toList_extract, List.extract_eq_take_drop, List.drop_take]
theorem extract_size_le (s : ByteArray) (a b : Nat) : (s.extract a b).size ≤ s.size := by
 rw [ByteArray.size_extract]
 omega
def memB (l : List ByteArray) (x : ByteArray) : Bool := l.any fun y => decide (y = x)
theorem memB_iff {l : List ByteArray} {x : ByteArray} : memB l x = true ↔ x ∈ l := by
 simp [memB]
theorem memB_eq {l : List ByteArray} {x : ByteArray} {p : Prop} [Decidable p] (h : p ↔ x ∈ l) : decide p = memB l x := by
 rw [Bool.eq_iff_iff, memB_iff]
 simpa using h
theorem index_loop (l : List ByteArray) (x : ByteArray) (hl : l.length ≤ 4611686018427387903) : ∀ (t : List ByteArray) (i : Nat), l.drop i = t → i ≤ l.length →
  ∃ r : Int, Ev (fun k => slices_Index_string_string.l0 k l x (l.length : Int) (i : Int)) r ∧ (0 ≤ r ↔ x ∈ t) := by
 intro t
 induction t with
 | nil =>
  intro i h hi
  have hl2 := drop_nil h
  exact ⟨-1, Ev.step (fun k => rfl) (Ev.iteF (by omega) (Ev.some_ rfl)), by simp⟩
 | cons b t ih =>
  intro i h hi
  obtain ⟨hl2, hb, ht⟩ := drop_cons h
  by_cases h1 : x = b
  ·refine ⟨(i : Int), Ev.step (fun k => rfl) (Ev.iteT (by omega) (Ev.iteT (by omega) (Ev.iteT (by omega) (Ev.iteT ?_ (Ev.some_ rfl))))), by simp [h1]⟩
   rw [rdOf_nat _ _ _ hl2, hb, h1]
  ·obtain ⟨r, hr, hm⟩ := ih (i + 1) ht (by omega)
   refine ⟨r, Ev.step (fun k => rfl) (Ev.iteT (by omega) (Ev.iteT (by omega) (Ev.iteT (by omega) (Ev.iteF ?_ ?_)))), by simp [h1, hm]⟩
   ·rw [rdOf_nat _ _ _ hl2, hb, toList_iff]
    exact h1
   ·rw [wrapN (by omega)]
    exact hr
theorem contains_ev (l : List ByteArray) (x : ByteArray) (hl : l.length ≤ 4611686018427387903) : Ev (fun k => slices_Contains_string_string.f k l x) (memB l x) := by
 obtain ⟨r, hr, hm⟩ := index_loop l x hl l 0 rfl (Nat.zero_le _)
 exact Ev.bind hr (Ev.bool (memB_eq hm))
theorem xor_nat (a b : Nat) (ha : a < 2 ^ 62) (hb : b < 2 ^ 62) : bits .xor .i64 a b = ((a ^^^ b : Nat) : Int) := by
 have hk : IntKind.i64.bits = 64 := rfl
 have ha' : a % 2 ^ 64 = a := Nat.mod_eq_of_lt (by omega)
 have hb' : b % 2 ^ 64 = b := Nat.mod_eq_of_lt (by omega)
 have hx := Nat.xor_lt_two_pow ha hb
 simp only [bits, hk, BitVec.ofInt_natCast, BitVec.toNat_xor, BitVec.toNat_ofNat, ha', hb']
 rw [IntKind.wrap_i64]
 omega
theorem xor_nonneg (a b : Int) (ha : 0 ≤ a) (ha' : a < 4611686018427387904) (hb : 0 ≤ b) (hb' : b < 4611686018427387904) : 0 ≤ bits .xor .i64 a b := by
 obtain ⟨x, rfl⟩ := Int.eq_ofNat_of_zero_le ha
 obtain ⟨y, rfl⟩ := Int.eq_ofNat_of_zero_le hb
 rw [xor_nat x y (by omega) (by omega)]
 omega
/-- A code: what a reader reads. -/
structure Code_ (b : List Int) : Prop where
 len : b.length ≤ 2000
 byte : ∀ x ∈ b, 0 ≤ x ∧ x ≤ 255
theorem Code_.at_ {b : List Int} (h : Code_ b) (i : Int) (h0 : 0 ≤ i) (h1 : i < b.length) : 0 ≤ rd b i ∧ rd b i ≤ 255 := by
 obtain ⟨j, rfl⟩ := Int.eq_ofNat_of_zero_le h0
 rw [rd_nat b j (by omega)]
 exact h.byte _ (List.getElem_mem _)
theorem Code_.nil : Code_ [] := ⟨by simp, by simp⟩
theorem newReader_ev (l : List Int) (h : ∀ x ∈ l, 0 ≤ x ∧ x ≤ 255) : ∃ b, spec_newReader.f l = some (b, 0) ∧ Code_ b := by
 unfold spec_newReader.f
 by_cases h1 : (l.length : Int) > 2000
 ·rw [if_pos h1, if_pos (by omega)]
  exact ⟨_, rfl, ⟨by rw [List.length_take]; omega, fun x hx => h x (List.mem_of_mem_take hx)⟩⟩
 ·rw [if_neg h1]
  exact ⟨_, rfl, ⟨by omega, h⟩⟩
theorem pick_ev {b : List Int} (hb : Code_ b) (p n : Int) (h0 : 0 ≤ p) (h1 : p ≤ 1099511627776) (hn : n ≤ 1099511627776) :
  ∃ v, Ev (fun k => spec_reader_pick.f k b p n) (v, p + 1) ∧ 0 ≤ v ∧ (1 ≤ n → v < n) := by
 have w1 : wrap64 (p + 1) = p + 1 := wrapI (by omega)
 have w0 : wrap64 (p + 1 - 1) = p := by rw [wrapI (by omega)]; omega
 have hl := hb.len
 unfold spec_reader_pick.f
 rw [w1]
 by_cases c1 : n < 1
 ·exact ⟨0, ⟨1, fun k hk => by obtain ⟨m, rfl⟩ : ∃ m, k = m + 1 := ⟨k - 1, by omega⟩; exact (if_pos c1).trans rfl⟩, by omega, by omega⟩
 ·simp only [if_neg c1]
  by_cases c2 : b.length = 0
  ·exact ⟨0, Ev.step (fun k => rfl) (Ev.iteT (by simp [c2]) (Ev.some_ rfl)), by omega, by omega⟩
  ·by_cases c3 : p < (b.length : Int)
   ·have ha := hb.at_ p h0 c3
    have w2 : wrap64 (rd b p) = rd b p := wrapI (by omega)
    refine ⟨Int.tmod (rd b p) n, Ev.step (fun k => rfl) (Ev.iteF (by simp only [beq_iff_eq]; omega) (Ev.iteT (by rw [w0]; exact c3) (Ev.iteT (by rw [w0]; exact h0) (Ev.iteF (by omega) (Ev.some_ ?_))))), Int.tmod_nonneg _ ha.1, fun _ => Int.tmod_lt_of_pos _ (by omega)⟩
    rw [w0, w2]
   ·have hL : (0 : Int) < b.length := by omega
    have t1 : 0 ≤ Int.tmod p b.length := Int.tmod_nonneg _ h0
    have t2 : Int.tmod p b.length < b.length := Int.tmod_lt_of_pos _ hL
    have w3 : wrap64 (p * 7) = p * 7 := wrapI (by omega)
    have w4 : wrap64 (p * 7 + 3) = p * 7 + 3 := wrapI (by omega)
    have t3 : 0 ≤ Int.tmod (p * 7 + 3) b.length := Int.tmod_nonneg _ (by omega)
    have t4 : Int.tmod (p * 7 + 3) b.length < b.length := Int.tmod_lt_of_pos _ hL
    have a1 := hb.at_ _ t1 t2
    have a2 := hb.at_ _ t3 t4
    have d0 : 0 ≤ Int.tdiv p b.length := Int.tdiv_nonneg h0 (by omega)
    have d1 : Int.tdiv p b.length ≤ p := by
     rw [Int.tdiv_eq_ediv_of_nonneg h0]
     exact Int.ediv_le_self _ h0
    generalize hA : rd b (Int.tmod p b.length) = A at a1
    generalize hB : rd b (Int.tmod (p * 7 + 3) b.length) = B at a2
    generalize hQ : Int.tdiv p b.length = Q at d0 d1
    have v1 : wrap64 A = A := wrapI (by omega)
    have v2 : wrap64 (A * 131) = A * 131 := wrapI (by omega)
    have v3 : wrap64 B = B := wrapI (by omega)
    have v4 : wrap64 (B * 1117) = B * 1117 := wrapI (by omega)
    have v5 : wrap64 (A * 131 + B * 1117) = A * 131 + B * 1117 := wrapI (by omega)
    have v6 : wrap64 (p * 29) = p * 29 := wrapI (by omega)
    have v7 : wrap64 (A * 131 + B * 1117 + p * 29) = A * 131 + B * 1117 + p * 29 := wrapI (by omega)
    have v8 : wrap64 Q = Q := wrapI (by omega)
    have v9 : wrap64 (Q * 53) = Q * 53 := wrapI (by omega)
    have v10 : wrap64 (A * 131 + B * 1117 + p * 29 + Q * 53) = A * 131 + B * 1117 + p * 29 + Q * 53 := wrapI (by omega)
    have x0 : 0 ≤ A * 131 + B * 1117 + p * 29 + Q * 53 := by omega
    have x1 : A * 131 + B * 1117 + p * 29 + Q * 53 < 4611686018427387904 := by omega
    generalize hX : A * 131 + B * 1117 + p * 29 + Q * 53 = X at v10 x0 x1
    have e0 : 0 ≤ Int.tdiv X 64 := Int.tdiv_nonneg x0 (by omega)
    have e1 : Int.tdiv X 64 ≤ X := by
     rw [Int.tdiv_eq_ediv_of_nonneg x0]
     exact Int.ediv_le_self _ x0
    have v11 : wrap64 (Int.tdiv X 64) = Int.tdiv X 64 := wrapI (by omega)
    have hx := xor_nonneg X (Int.tdiv X 64) x0 x1 e0 (by omega)
    refine ⟨Int.tmod (bits .xor .i64 X (Int.tdiv X 64)) n, ?_, Int.tmod_nonneg _ hx, fun _ => Int.tmod_lt_of_pos _ (by omega)⟩
    refine Ev.step (fun k => rfl) (Ev.iteF (by simp only [beq_iff_eq]; omega) (Ev.iteF (by rw [w0]; exact c3) (Ev.iteF (by omega) ?_)))
    simp only [w0, w3, w4]
    refine Ev.iteT t1 (Ev.iteT t2 (Ev.iteT t3 (Ev.iteT t4 (Ev.iteF (by omega) (Ev.some_ ?_)))))
    simp only [hA, hB, hQ, v1, v2, v3, v4, v5, v6, v7, v8, v9, hX, v10, v11]
theorem of_ev {b : List Int} (hb : Code_ b) (p : Int) (h0 : 0 ≤ p) (h1 : p ≤ 1099511627776) (l : List ByteArray) (hl : 1 ≤ l.length) (hl' : l.length ≤ 1000) :
  ∃ x, x ∈ l ∧ Ev (fun k => spec_reader_of.f k b p l) (x, p + 1) := by
 obtain ⟨v, hv, v0, v1⟩ := pick_ev hb p (l.length : Int) h0 h1 (by omega)
 have v1 := v1 (by omega)
 obtain ⟨j, rfl⟩ := Int.eq_ofNat_of_zero_le v0
 refine ⟨l[j]'(by omega), List.getElem_mem _, ?_⟩
 unfold spec_reader_of.f
 exact Ev.bind hv (Ev.iteT v0 (Ev.iteT v1 (Ev.some_ (by rw [rdOf_nat _ _ _ (by omega)]))))
theorem wfByte {x : Int} (h : (Lit.int .u8 x).wf = true) : 0 ≤ x ∧ x ≤ 255 := by
 simp [Lit.wf, IntKind.min, IntKind.max, IntKind.signed, IntKind.bits] at h
 omega
def addM (o : List ByteArray) (x : ByteArray) : List ByteArray := if memB o x = true then o else o ++ [x]
theorem addM_length (o : List ByteArray) (x : ByteArray) : (addM o x).length ≤ o.length + 1 := by
 unfold addM
 split <;> simp
inductive Ex where
 | leaf (w : List UInt8)
 | not (a : Ex)
 | and (a b : Ex)
 | or (a b : Ex)
def BA (l : List UInt8) : ByteArray := ⟨l.toArray⟩
theorem BA_data (l : List UInt8) : (BA l).data.toList = l := rfl
theorem BA_size (l : List UInt8) : (BA l).size = l.length := rfl
theorem BA_of (s : ByteArray) : BA s.data.toList = s := by cases s; rfl
/-- A text that begins so, cut behind it. -/
def cutL : List UInt8 → List UInt8 → Option (List UInt8)
 | [], s => some s
 | _ :: _, [] => none
 | p :: ps, c :: s => if p = c then cutL ps s else none
def nameL (w : List UInt8) : Bool := nameS (BA w)
def wordL (name : List UInt8) (at_ : Bool) : Option (Ex × List UInt8) :=
 if nameL (name.takeWhile lowB) = true then some (.leaf (if at_ = true then 64 :: name.takeWhile lowB else name.takeWhile lowB), name.dropWhile lowB) else none
def rowL (P : List UInt8 → Option (Ex × List UInt8)) (mk : Ex → Ex → Ex) (sep : List UInt8) : Nat → Ex → List UInt8 → Option (Ex × List UInt8)
 | 0, _, _ => none
 | n + 1, e, s => match cutL sep s with
  | none => some (e, s)
  | some r => match P r with
   | none => none
   | some x => rowL P mk sep n (mk e x.1) x.2
def sNot : List UInt8 := [110, 111, 116, 32]
def sAnd : List UInt8 := [32, 97, 110, 100, 32]
def sOr : List UInt8 := [32, 111, 114, 32]
def andL (P : List UInt8 → Option (Ex × List UInt8)) (n : Nat) (s : List UInt8) : Option (Ex × List UInt8) := (P s).bind fun x => rowL P .and sAnd n x.1 x.2
def orL (P : List UInt8 → Option (Ex × List UInt8)) (n : Nat) (s : List UInt8) : Option (Ex × List UInt8) := (andL P n s).bind fun x => rowL (andL P n) .or sOr n x.1 x.2
def facL : Nat → List UInt8 → Option (Ex × List UInt8)
 | 0, _ => none
 | n + 1, s => match cutL sNot s with
  | some r => (facL n r).map fun x => (.not x.1, x.2)
  | none => match cutL [40] s with
   | some r => (orL (facL n) n r).bind fun x => (cutL [41] x.2).map fun t => (x.1, t)
   | none => match cutL [64] s with
    | some r => wordL r true
    | none => wordL s false
/-- A whole text is read as e. -/
def Parses (s : List UInt8) (e : Ex) : Prop := orL (facL (s.length + 1)) (s.length + 1) s = some (e, [])
theorem cutL_length : ∀ {p s r : List UInt8}, cutL p s = some r → s.length = p.length + r.length
 | [], s, r, h => by simp only [cutL, Option.some.injEq] at h; subst h; simp
 | _ :: _, [], r, h => by simp [cutL] at h
 | p :: ps, c :: s, r, h => by
  unfold cutL at h
  split at h
  ·have := cutL_length h
   simp only [List.length_cons]
   omega
  ·cases h
theorem cutL_some : ∀ {p s r : List UInt8}, cutL p s = some r → s = p ++ r
 | [], s, r, h => by simp only [cutL, Option.some.injEq] at h; subst h; rfl
 | _ :: _, [], r, h => by simp [cutL] at h
 | p :: ps, c :: s, r, h => by
  unfold cutL at h
  split at h
  ·next e => rw [e, cutL_some h]; rfl
  ·cases h
theorem cutL_append : ∀ (p r : List UInt8), cutL p (p ++ r) = some r
 | [], r => rfl
 | p :: ps, r => by rw [List.cons_append]; unfold cutL; rw [if_pos rfl]; exact cutL_append ps r
/-- What is asked for ends ahead of a closing bracket. -/
theorem cutL_ext : ∀ (p s u : List UInt8), (41 : UInt8) ∉ p → cutL p (s ++ 41 :: u) = (cutL p s).map (· ++ 41 :: u)
 | [], s, u, _ => rfl
 | p :: ps, [], u, h => by
  show cutL (p :: ps) (41 :: u) = none
  unfold cutL
  rw [if_neg (fun e => h (by rw [e]; exact List.mem_cons_self))]
 | p :: ps, c :: s, u, h => by
  rw [List.cons_append]
  unfold cutL
  by_cases e : p = c
  ·rw [if_pos e, if_pos e]
   exact cutL_ext ps s u (fun hm => h (List.mem_cons_of_mem _ hm))
  ·rw [if_neg e, if_neg e]
   rfl
theorem takeW_dropW (s : List UInt8) : (s.takeWhile lowB).length + (s.dropWhile lowB).length = s.length := by
 have := congrArg List.length (List.takeWhile_append_dropWhile (p := lowB) (l := s))
 rwa [List.length_append] at this
theorem nameL_pos {w : List UInt8} (h : nameL w = true) : 1 ≤ w.length ∧ w.length ≤ 6 := by
 unfold nameL nameS nameEnd at h
 rw [Bool.and_eq_true, Bool.and_eq_true, Bool.and_eq_true, decide_eq_true_iff, decide_eq_true_iff] at h
 exact ⟨h.2.1, h.2.2.1⟩
theorem wordL_length {s t : List UInt8} {b : Bool} {e : Ex} (h : wordL s b = some (e, t)) : t.length < s.length := by
 unfold wordL at h
 split at h
 ·next hn =>
  have h1 := nameL_pos hn
  have h2 := takeW_dropW s
  simp only [Option.some.injEq, Prod.mk.injEq] at h
  rw [← h.2]
  omega
 ·cases h
/-- P reads something. -/
def Shrinks (P : List UInt8 → Option (Ex × List UInt8)) : Prop := ∀ s e t, P s = some (e, t) → t.length < s.length
theorem rowL_length {P : List UInt8 → Option (Ex × List UInt8)} (hP : Shrinks P) (mk : Ex → Ex → Ex) (sep : List UInt8) : ∀ (n : Nat) (e : Ex) (s : List UInt8) (e' : Ex) (t : List UInt8), rowL P mk sep n e s = some (e', t) → t.length ≤ s.length
 | 0, e, s, e', t, h => by simp [rowL] at h
 | n + 1, e, s, e', t, h => by
  unfold rowL at h
  cases hc : cutL sep s with
  | none =>
   rw [hc] at h
   simp only at h
   simp only [Option.some.injEq, Prod.mk.injEq] at h
   rw [h.2]
   exact Nat.le_refl _
  | some r =>
   rw [hc] at h
   simp only at h
   cases hp : P r with
   | none => rw [hp] at h; simp only at h; cases h
   | some x =>
    rw [hp] at h
    simp only at h
    have h1 := rowL_length hP mk sep n _ _ _ _ h
    have h2 := hP r x.1 x.2 hp
    have h3 := cutL_length hc
    omega
theorem andL_shrinks {P : List UInt8 → Option (Ex × List UInt8)} (hP : Shrinks P) (n : Nat) : Shrinks (andL P n) := by
 intro s e t h
 obtain ⟨x, hx, h⟩ := Option.bind_eq_some_iff.mp h
 have h1 := hP s x.1 x.2 hx
 have h2 := rowL_length hP _ _ _ _ _ _ _ h
 omega
theorem orL_shrinks {P : List UInt8 → Option (Ex × List UInt8)} (hP : Shrinks P) (n : Nat) : Shrinks (orL P n) := by
 intro s e t h
 obtain ⟨x, hx, h⟩ := Option.bind_eq_some_iff.mp h
 have h1 := andL_shrinks hP n s x.1 x.2 hx
 have h2 := rowL_length (andL_shrinks hP n) _ _ _ _ _ _ _ h
 omega
theorem facL_shrinks : ∀ n, Shrinks (facL n)
 | 0 => fun s e t h => by simp [facL] at h
 | n + 1 => fun s e t h => by
  unfold facL at h
  cases h1 : cutL sNot s with
  | some r =>
   rw [h1] at h
   simp only at h
   obtain ⟨x, hx, h⟩ := Option.map_eq_some_iff.mp h
   have h2 := facL_shrinks n r x.1 x.2 hx
   have h3 := cutL_length h1
   have h4 : x.2 = t := congrArg Prod.snd h
   rw [← h4]
   omega
  | none =>
   rw [h1] at h
   simp only at h
   cases h2 : cutL [40] s with
   | some r =>
    rw [h2] at h
    simp only at h
    obtain ⟨x, hx, h⟩ := Option.bind_eq_some_iff.mp h
    obtain ⟨y, hy, h⟩ := Option.map_eq_some_iff.mp h
    have h3 := orL_shrinks (facL_shrinks n) n r x.1 x.2 hx
    have h4 := cutL_length h2
    have h5 := cutL_length hy
    have h6 : y = t := congrArg Prod.snd h
    rw [← h6]
    omega
   | none =>
    rw [h2] at h
    simp only at h
    cases h3 : cutL [64] s with
    | some r =>
     rw [h3] at h
     simp only at h
     have h4 := wordL_length h
     have h5 := cutL_length h3
     omega
    | none =>
     rw [h3] at h
     simp only at h
     exact wordL_length h
def SameOn (P Q : List UInt8 → Option (Ex × List UInt8)) (n : Nat) : Prop := ∀ s, s.length < n → P s = Q s
theorem rowL_same {P Q : List UInt8 → Option (Ex × List UInt8)} (hP : Shrinks P) {n : Nat} (h : SameOn P Q n) (mk : Ex → Ex → Ex) (sep : List UInt8) (hs : 0 < sep.length) : ∀ (j j' : Nat) (e : Ex) (s : List UInt8), s.length < j → s.length < j' → s.length < n → rowL P mk sep j e s = rowL Q mk sep j' e s
 | 0, _, _, _, h1, _, _ => absurd h1 (by omega)
 | _ + 1, 0, _, _, _, h2, _ => absurd h2 (by omega)
 | j + 1, j' + 1, e, s, h1, h2, h3 => by
  unfold rowL
  cases hc : cutL sep s with
  | none => rfl
  | some r =>
   have h4 := cutL_length hc
   simp only
   rw [← h r (by omega)]
   cases hp : P r with
   | none => rfl
   | some x =>
    have h5 := hP r x.1 x.2 hp
    exact rowL_same hP h mk sep hs j j' _ _ (by omega) (by omega) (by omega)
theorem andL_same {P Q : List UInt8 → Option (Ex × List UInt8)} (hP : Shrinks P) {n : Nat} (h : SameOn P Q n) (j j' : Nat) (hj : n ≤ j) (hj' : n ≤ j') : SameOn (andL P j) (andL Q j') n := by
 intro s hs
 unfold andL
 rw [← h s hs]
 cases hp : P s with
 | none => rfl
 | some x =>
  have h5 := hP s x.1 x.2 hp
  exact rowL_same hP h _ _ (by decide) _ _ _ _ (by omega) (by omega) (by omega)
theorem orL_same {P Q : List UInt8 → Option (Ex × List UInt8)} (hP : Shrinks P) {n : Nat} (h : SameOn P Q n) (j j' : Nat) (hj : n ≤ j) (hj' : n ≤ j') : SameOn (orL P j) (orL Q j') n := by
 intro s hs
 have ha := andL_same hP h j j' hj hj'
 unfold orL
 rw [← ha s hs]
 cases hp : andL P j s with
 | none => rfl
 | some x =>
  have h5 := andL_shrinks hP j s x.1 x.2 hp
  exact rowL_same (andL_shrinks hP j) ha _ _ (by decide) _ _ _ _ (by omega) (by omega) (by omega)
theorem facL_same : ∀ (n m m' : Nat), n ≤ m → n ≤ m' → SameOn (facL m) (facL m') n
 | 0, _, _, _, _ => fun s hs => absurd hs (by omega)
 | n + 1, 0, _, h, _ => absurd h (by omega)
 | n + 1, _ + 1, 0, _, h => absurd h (by omega)
 | n + 1, m + 1, m' + 1, h1, h2 => fun s hs => by
  have ih := facL_same n m m' (by omega) (by omega)
  unfold facL
  cases hc : cutL sNot s with
  | some r =>
   have h4 := cutL_length hc
   simp only [sNot, List.length_cons, List.length_nil] at h4
   simp only
   rw [ih r (by omega)]
  | none =>
   simp only
   cases hc2 : cutL [40] s with
   | some r =>
    have h4 := cutL_length hc2
    simp only [List.length_cons, List.length_nil] at h4
    simp only
    rw [orL_same (facL_shrinks m) ih m m' (by omega) (by omega) r (by omega)]
   | none => rfl
theorem Parses.at_ {s : List UInt8} {e : Ex} (h : Parses s e) (m j : Nat) (hm : s.length < m) (hj : s.length < j) : orL (facL m) j s = some (e, []) := by
 rw [← h]
 exact (orL_same (facL_shrinks _) (facL_same (s.length + 1) _ _ (by omega) (by omega)) _ _ (by omega) (by omega) s (by omega)).symm
theorem lowB_41 : lowB 41 = false := by decide
theorem takeW_ext : ∀ (s u : List UInt8), (s ++ 41 :: u).takeWhile lowB = s.takeWhile lowB
 | [], u => by rw [List.nil_append, List.takeWhile_cons, lowB_41]; rfl
 | c :: s, u => by rw [List.cons_append, List.takeWhile_cons, List.takeWhile_cons, takeW_ext s u]
theorem dropW_ext : ∀ (s u : List UInt8), (s ++ 41 :: u).dropWhile lowB = s.dropWhile lowB ++ 41 :: u
 | [], u => by rw [List.nil_append, List.dropWhile_cons, lowB_41]; rfl
 | c :: s, u => by
  rw [List.cons_append, List.dropWhile_cons, List.dropWhile_cons, dropW_ext s u]
  split <;> rfl
def ExtOk (P : List UInt8 → Option (Ex × List UInt8)) : Prop := ∀ s e t u, P s = some (e, t) → P (s ++ 41 :: u) = some (e, t ++ 41 :: u)
theorem wordL_ext {s t : List UInt8} {b : Bool} {e : Ex} (u : List UInt8) (h : wordL s b = some (e, t)) : wordL (s ++ 41 :: u) b = some (e, t ++ 41 :: u) := by
 unfold wordL at h ⊢
 rw [takeW_ext, dropW_ext]
 split at h
 ·next hn =>
  rw [if_pos hn]
  simp only [Option.some.injEq, Prod.mk.injEq] at h
  rw [h.1, h.2]
 ·cases h
theorem rowL_ext {P : List UInt8 → Option (Ex × List UInt8)} (hP : ExtOk P) (mk : Ex → Ex → Ex) (sep : List UInt8) (hs : (41 : UInt8) ∉ sep) (u : List UInt8) : ∀ (n : Nat) (e : Ex) (s : List UInt8) (e' : Ex) (t : List UInt8), rowL P mk sep n e s = some (e', t) → rowL P mk sep n e (s ++ 41 :: u) = some (e', t ++ 41 :: u)
 | 0, e, s, e', t, h => by simp [rowL] at h
 | n + 1, e, s, e', t, h => by
  unfold rowL at h ⊢
  rw [cutL_ext _ _ _ hs]
  cases hc : cutL sep s with
  | none =>
   rw [hc] at h
   simp only at h
   simp only [Option.some.injEq, Prod.mk.injEq] at h
   simp only [Option.map_none]
   rw [h.1, h.2]
  | some r =>
   rw [hc] at h
   simp only at h
   simp only [Option.map_some]
   cases hp : P r with
   | none => rw [hp] at h; simp only at h; cases h
   | some x =>
    rw [hp] at h
    simp only at h
    rw [hP r x.1 x.2 u hp]
    exact rowL_ext hP mk sep hs u n _ _ _ _ h
theorem andL_ext {P : List UInt8 → Option (Ex × List UInt8)} (hP : ExtOk P) (n : Nat) : ExtOk (andL P n) := by
 intro s e t u h
 obtain ⟨x, hx, h⟩ := Option.bind_eq_some_iff.mp h
 unfold andL
 rw [hP s x.1 x.2 u hx]
 exact rowL_ext hP _ _ (by decide) u _ _ _ _ _ h
theorem orL_ext {P : List UInt8 → Option (Ex × List UInt8)} (hP : ExtOk P) (n : Nat) : ExtOk (orL P n) := by
 intro s e t u h
 obtain ⟨x, hx, h⟩ := Option.bind_eq_some_iff.mp h
 unfold orL
 rw [andL_ext hP n s x.1 x.2 u hx]
 exact rowL_ext (andL_ext hP n) _ _ (by decide) u _ _ _ _ _ h
theorem facL_ext : ∀ n, ExtOk (facL n)
 | 0 => fun s e t u h => by simp [facL] at h
 | n + 1 => fun s e t u h => by
  unfold facL at h ⊢
  rw [cutL_ext sNot s u (by decide)]
  cases h1 : cutL sNot s with
  | some r =>
   rw [h1] at h
   simp only at h
   obtain ⟨x, hx, h⟩ := Option.map_eq_some_iff.mp h
   simp only [Option.map_some]
   rw [facL_ext n r x.1 x.2 u hx]
   simp only [Option.map_some]
   simp only [Prod.mk.injEq] at h
   rw [h.1, h.2]
  | none =>
   rw [h1] at h
   simp only at h
   simp only [Option.map_none]
   rw [cutL_ext [40] s u (by decide)]
   cases h2 : cutL [40] s with
   | some r =>
    rw [h2] at h
    simp only at h
    obtain ⟨x, hx, h⟩ := Option.bind_eq_some_iff.mp h
    obtain ⟨y, hy, h⟩ := Option.map_eq_some_iff.mp h
    simp only [Option.map_some]
    rw [orL_ext (facL_ext n) n r x.1 x.2 u hx]
    simp only [Option.bind_some]
    simp only [Prod.mk.injEq] at h
    rw [cutL_some hy, List.append_assoc, cutL_append]
    simp only [Option.map_some]
    rw [h.1, h.2]
   | none =>
    rw [h2] at h
    simp only at h
    simp only [Option.map_none]
    rw [cutL_ext [64] s u (by decide)]
    cases h3 : cutL [64] s with
    | some r =>
     rw [h3] at h
     simp only at h
     exact wordL_ext u h
    | none =>
     rw [h3] at h
     simp only at h
     exact wordL_ext u h
theorem rowL_stop (P : List UInt8 → Option (Ex × List UInt8)) (mk : Ex → Ex → Ex) (sep : List UInt8) (n : Nat) (e : Ex) (s : List UInt8) (hn : 1 ≤ n) (h : cutL sep s = none) : rowL P mk sep n e s = some (e, s) := by
 obtain ⟨m, rfl⟩ : ∃ m, n = m + 1 := ⟨n - 1, by omega⟩
 unfold rowL
 rw [h]
theorem rowL_go (P : List UInt8 → Option (Ex × List UInt8)) (mk : Ex → Ex → Ex) (sep : List UInt8) (n : Nat) (e y : Ex) (s t : List UInt8) (h : P s = some (y, t)) : rowL P mk sep (n + 1) e (sep ++ s) = rowL P mk sep n (mk e y) t := by
 show (match cutL sep (sep ++ s) with | none => some (e, sep ++ s) | some r => match P r with | none => none | some x => rowL P mk sep n (mk e x.1) x.2) = _
 rw [cutL_append]
 simp only
 rw [h]
theorem facL_paren {s : List UInt8} {e : Ex} (h : Parses s e) (n : Nat) (hn : s.length < n) (u : List UInt8) : facL (n + 1) (40 :: (s ++ 41 :: u)) = some (e, u) := by
 unfold facL
 rw [show cutL sNot (40 :: (s ++ 41 :: u)) = none from rfl, show cutL [40] (40 :: (s ++ 41 :: u)) = some (s ++ 41 :: u) from rfl]
 simp only
 rw [orL_ext (facL_ext n) n s e [] u (h.at_ n n hn hn)]
 rfl
theorem andL_one {P : List UInt8 → Option (Ex × List UInt8)} {n : Nat} {s t : List UInt8} {e : Ex} (hn : 1 ≤ n) (h : P s = some (e, t)) (ht : cutL sAnd t = none) : andL P n s = some (e, t) := by
 unfold andL
 rw [h]
 exact rowL_stop _ _ _ _ _ _ hn ht
theorem orL_one {P : List UInt8 → Option (Ex × List UInt8)} {n : Nat} {s t : List UInt8} {e : Ex} (hn : 1 ≤ n) (h : andL P n s = some (e, t)) (ht : cutL sOr t = none) : orL P n s = some (e, t) := by
 unfold orL
 rw [h]
 exact rowL_stop _ _ _ _ _ _ hn ht
theorem parses_fac {s : List UInt8} {e : Ex} (h : facL (s.length + 1) s = some (e, [])) : Parses s e :=
 orL_one (by omega) (andL_one (by omega) h rfl) rfl
theorem parses_not {s : List UInt8} {e : Ex} (h : Parses s e) : Parses (sNot ++ 40 :: (s ++ [41])) (.not e) := by
 refine parses_fac ?_
 have hl : (sNot ++ 40 :: (s ++ [41])).length + 1 = ((s.length + 5) + 1) + 1 := by simp [sNot]
 rw [hl]
 unfold facL
 rw [cutL_append]
 simp only
 rw [facL_paren h _ (by omega) []]
 rfl
theorem cutL_and_or (u : List UInt8) : cutL sAnd (sOr ++ u) = none := rfl
theorem parses_and {a b : List UInt8} {ea eb : Ex} (ha : Parses a ea) (hb : Parses b eb) : Parses (40 :: (a ++ 41 :: (sAnd ++ 40 :: (b ++ [41])))) (.and ea eb) := by
 unfold Parses
 obtain ⟨m, hm⟩ : ∃ m, (40 :: (a ++ 41 :: (sAnd ++ 40 :: (b ++ [41])))).length + 1 = (m + 1) + 1 ∧ a.length < m ∧ b.length < m := ⟨a.length + b.length + 8, by simp [sAnd]; omega, by omega, by omega⟩
 rw [hm.1]
 have h1 := facL_paren ha (m + 1) (by omega) (sAnd ++ 40 :: (b ++ [41]))
 have h2 := facL_paren hb (m + 1) (by omega) []
 refine orL_one (by omega) ?_ rfl
 unfold andL
 rw [h1]
 simp only [Option.bind_some]
 rw [rowL_go _ _ _ _ _ _ _ _ h2]
 exact rowL_stop _ _ _ _ _ _ (by omega) rfl
theorem parses_or {a b : List UInt8} {ea eb : Ex} (ha : Parses a ea) (hb : Parses b eb) : Parses (40 :: (a ++ 41 :: (sOr ++ 40 :: (b ++ [41])))) (.or ea eb) := by
 unfold Parses
 obtain ⟨m, hm⟩ : ∃ m, (40 :: (a ++ 41 :: (sOr ++ 40 :: (b ++ [41])))).length + 1 = (m + 1) + 1 ∧ a.length < m ∧ b.length < m := ⟨a.length + b.length + 7, by simp [sOr]; omega, by omega, by omega⟩
 rw [hm.1]
 have h1 := facL_paren ha (m + 1) (by omega) (sOr ++ 40 :: (b ++ [41]))
 have h2 := facL_paren hb (m + 1) (by omega) []
 have h3 : andL (facL (m + 1 + 1)) (m + 1 + 1) (40 :: (a ++ 41 :: (sOr ++ 40 :: (b ++ [41])))) = some (ea, sOr ++ 40 :: (b ++ [41])) := andL_one (by omega) h1 (cutL_and_or _)
 have h4 : andL (facL (m + 1 + 1)) (m + 1 + 1) (40 :: (b ++ [41])) = some (eb, []) := andL_one (by omega) h2 rfl
 unfold orL
 rw [h3]
 simp only [Option.bind_some]
 rw [rowL_go _ _ _ _ _ _ _ _ h4]
 exact rowL_stop _ _ _ _ _ _ (by omega) rfl
theorem parses_nil {e : Ex} (h : Parses [] e) : False := by
 unfold Parses at h
 cases h
def wordOk (w : List UInt8) : Prop := nameL w = true ∨ ∃ v, w = 64 :: v ∧ nameL v = true
def Ex.WF : Ex → Prop
 | .leaf w => wordOk w
 | .not a => a.WF
 | .and a b => a.WF ∧ b.WF
 | .or a b => a.WF ∧ b.WF
def wordE (m : ByteArray) (l : List ByteArray) (w : List UInt8) : Bool := if w.head? = some 64 then decide (BA w.tail = m) else memB l (BA w)
def Ex.ev (m : ByteArray) (l : List ByteArray) : Ex → Bool
 | .leaf w => wordE m l w
 | .not a => !(a.ev m l)
 | .and a b => a.ev m l && b.ev m l
 | .or a b => a.ev m l || b.ev m l
def Ex.at_ : Ex → List ByteArray → List ByteArray
 | .leaf w, l => addM l (BA w)
 | .not a, l => a.at_ l
 | .and a b, l => b.at_ (a.at_ l)
 | .or a b, l => b.at_ (a.at_ l)
def AllWF (P : List UInt8 → Option (Ex × List UInt8)) : Prop := ∀ s e t, P s = some (e, t) → e.WF
theorem wordL_wf {s t : List UInt8} {b : Bool} {e : Ex} (h : wordL s b = some (e, t)) : e.WF := by
 unfold wordL at h
 split at h
 ·next hn =>
  simp only [Option.some.injEq, Prod.mk.injEq] at h
  rw [← h.1]
  cases b with
  | true => exact .inr ⟨_, rfl, hn⟩
  | false => exact .inl hn
 ·cases h
theorem rowL_wf {P : List UInt8 → Option (Ex × List UInt8)} (hP : AllWF P) {mk : Ex → Ex → Ex} (hm : ∀ a b, a.WF → b.WF → (mk a b).WF) (sep : List UInt8) : ∀ (n : Nat) (e : Ex) (s : List UInt8) (e' : Ex) (t : List UInt8), e.WF → rowL P mk sep n e s = some (e', t) → e'.WF
 | 0, e, s, e', t, _, h => by simp [rowL] at h
 | n + 1, e, s, e', t, he, h => by
  unfold rowL at h
  cases hc : cutL sep s with
  | none =>
   rw [hc] at h
   simp only [Option.some.injEq, Prod.mk.injEq] at h
   rw [← h.1]
   exact he
  | some r =>
   rw [hc] at h
   simp only at h
   cases hp : P r with
   | none => rw [hp] at h; simp only at h; cases h
   | some x =>
    rw [hp] at h
    simp only at h
    exact rowL_wf hP hm sep n _ _ _ _ (hm _ _ he (hP r x.1 x.2 hp)) h
theorem andL_wf {P : List UInt8 → Option (Ex × List UInt8)} (hP : AllWF P) (n : Nat) : AllWF (andL P n) := by
 intro s e t h
 obtain ⟨x, hx, h⟩ := Option.bind_eq_some_iff.mp h
 exact rowL_wf hP (mk := .and) (fun a b ha hb => ⟨ha, hb⟩) _ _ _ _ _ _ (hP s x.1 x.2 hx) h
theorem orL_wf {P : List UInt8 → Option (Ex × List UInt8)} (hP : AllWF P) (n : Nat) : AllWF (orL P n) := by
 intro s e t h
 obtain ⟨x, hx, h⟩ := Option.bind_eq_some_iff.mp h
 exact rowL_wf (andL_wf hP n) (mk := .or) (fun a b ha hb => ⟨ha, hb⟩) _ _ _ _ _ _ (andL_wf hP n s x.1 x.2 hx) h
theorem facL_wf : ∀ n, AllWF (facL n)
 | 0 => fun s e t h => by simp [facL] at h
 | n + 1 => fun s e t h => by
  unfold facL at h
  cases h1 : cutL sNot s with
  | some r =>
   rw [h1] at h
   simp only at h
   obtain ⟨x, hx, h⟩ := Option.map_eq_some_iff.mp h
   simp only [Prod.mk.injEq] at h
   rw [← h.1]
   exact facL_wf n r x.1 x.2 hx
  | none =>
   rw [h1] at h
   simp only at h
   cases h2 : cutL [40] s with
   | some r =>
    rw [h2] at h
    simp only at h
    obtain ⟨x, hx, h⟩ := Option.bind_eq_some_iff.mp h
    obtain ⟨y, hy, h⟩ := Option.map_eq_some_iff.mp h
    simp only [Prod.mk.injEq] at h
    rw [← h.1]
    exact orL_wf (facL_wf n) n r x.1 x.2 hx
   | none =>
    rw [h2] at h
    simp only at h
    cases h3 : cutL [64] s with
    | some r =>
     rw [h3] at h
     simp only at h
     exact wordL_wf h
    | none =>
     rw [h3] at h
     simp only at h
     exact wordL_wf h
theorem Parses.wf {s : List UInt8} {e : Ex} (h : Parses s e) : e.WF := orL_wf (facL_wf _) _ _ _ _ h
def Upto {α : Type} (d : Nat) (g : Nat → Option α) (r : α) : Prop := ∀ k, d ≤ k → g k = some r
theorem Upto.step {α : Type} {d : Nat} {g f : Nat → Option α} {r : α} (h : ∀ k, g (k + 1) = f k) (k : Upto d f r) : Upto (d + 1) g r := fun n hn => by
 obtain ⟨m, rfl⟩ : ∃ m, n = m + 1 := ⟨n - 1, by omega⟩
 rw [h]
 exact k m (by omega)
theorem Upto.bind {α β : Type} {d : Nat} {g : Nat → Option α} {f : Nat → α → Option β} {a : α} {r : β} (h : Upto d g a) (k : Upto d (fun n => f n a) r) : Upto d (fun n => (g n).bind (f n)) r := fun n hn => by
 show (g n).bind (f n) = some r
 rw [h n hn]
 exact k n hn
theorem Upto.bind0 {α β : Type} {d : Nat} {g : Option α} {f : Nat → α → Option β} {a : α} {r : β} (h : g = some a) (k : Upto d (fun n => f n a) r) : Upto d (fun n => g.bind (f n)) r := fun n hn => by
 show g.bind (f n) = some r
 rw [h]
 exact k n hn
theorem Upto.iteT {α : Type} {d : Nat} {c : Prop} [Decidable c] {g f : Nat → Option α} {r : α} (h : c) (k : Upto d g r) : Upto d (fun n => if c then g n else f n) r := fun n hn => (if_pos h).trans (k n hn)
theorem Upto.iteF {α : Type} {d : Nat} {c : Prop} [Decidable c] {g f : Nat → Option α} {r : α} (h : ¬ c) (k : Upto d f r) : Upto d (fun n => if c then g n else f n) r := fun n hn => (if_neg h).trans (k n hn)
theorem Upto.some_ {α : Type} {d : Nat} {x r : α} (h : x = r) : Upto d (fun _ => some x) r := fun _ _ => by rw [h]
theorem Upto.le {α : Type} {d d' : Nat} {g : Nat → Option α} {r : α} (k : Upto d g r) (h : d ≤ d') : Upto d' g r := fun n hn => k n (by omega)
theorem Upto.ev {α : Type} {d : Nat} {g : Nat → Option α} {r : α} (k : Upto d g r) : Ev g r := ⟨d, k⟩
theorem nameOk_upto (s : ByteArray) (hs : s.size ≤ 4611686018427387903) : ∀ (t : List UInt8) (i : Nat), s.data.toList.drop i = t → i ≤ s.size →
  Upto (t.length + 1) (fun k => impl_nameOk.l0 k s (s.size : Int) (i : Int)) (t.all lowB && nameEnd s) := by
 intro t
 induction t with
 | nil =>
  intro i h hi
  have hl := drop_nil h
  rw [size_list] at hl
  refine Upto.step (d := 0) (fun k => rfl) (Upto.iteF (by omega) ?_)
  simp only [List.all_nil, Bool.true_and]
  unfold nameEnd
  by_cases h1 : 1 ≤ s.size
  ·refine Upto.iteT (by omega) ?_
   by_cases h2 : s.size ≤ 6
   ·refine Upto.iteT (by omega) ?_
    by_cases h3 : s.toList = ([97, 110, 100] : List UInt8)
    ·exact Upto.iteT h3 (Upto.some_ (by simp [h3]))
    ·refine Upto.iteF h3 ?_
     by_cases h4 : s.toList = ([111, 114] : List UInt8)
     ·exact Upto.iteT h4 (Upto.some_ (by simp [h4]))
     ·exact Upto.iteF h4 (Upto.some_ (by simp [h1, h2, bne_iff_ne.2 h3, bne_iff_ne.2 h4]))
   ·exact Upto.iteF (by omega) (Upto.some_ (by simp [h2]))
  ·exact Upto.iteF (by omega) (Upto.some_ (by simp [h1]))
 | cons b t ih =>
  intro i h hi
  obtain ⟨hl, hb, ht⟩ := drop_cons h
  have hl' := hl
  rw [size_list] at hl'
  refine Upto.step (d := t.length + 1) (fun k => rfl) (Upto.iteT (by omega) (Upto.iteT (by omega) (Upto.iteT (by omega) ?_)))
  rw [bt_nat s i hl, hb]
  by_cases h1 : (b.toNat : Int) < 97
  ·exact Upto.iteT h1 (Upto.some_ (by simp [lowB]; omega))
  ·refine Upto.iteF h1 ?_
   by_cases h2 : (b.toNat : Int) > 122
   ·exact Upto.iteT h2 (Upto.some_ (by simp [lowB]; omega))
   ·refine Upto.iteF h2 ?_
    rw [wrapN (by omega)]
    have := ih (i + 1) ht (by omega)
    have e : lowB b = true := by simp [lowB]; omega
    rw [List.all_cons, e, Bool.true_and]
    exact this
theorem nameOk_at (w : List UInt8) (hw : w.length ≤ 4611686018427387903) : Upto (w.length + 1) (fun k => impl_nameOk.f k (BA w)) (nameL w) :=
 nameOk_upto (BA w) hw w 0 rfl (Nat.zero_le _)
theorem validName_upto (s : ByteArray) (hs : s.size ≤ 4611686018427387903) : ∀ (t : List UInt8) (i : Nat), s.data.toList.drop i = t → i ≤ s.size →
  Upto (t.length + 1) (fun k => spec_validName.l0 k s (i : Int)) (t.all lowB && nameEnd s) := by
 intro t
 induction t with
 | nil =>
  intro i h hi
  have hl := drop_nil h
  rw [size_list] at hl
  refine Upto.step (d := 0) (fun k => rfl) (Upto.iteF (by omega) (Upto.bind0 (inRange_ev _ _ _) ?_))
  simp only [List.all_nil, Bool.true_and]
  unfold nameEnd
  by_cases h1 : 1 ≤ s.size
  ·by_cases h2 : s.size ≤ 6
   ·refine Upto.iteT (by simp; omega) ?_
    by_cases h3 : s.toList = ([97, 110, 100] : List UInt8)
    ·exact Upto.iteT h3 (Upto.some_ (by simp [h3]))
    ·refine Upto.iteF h3 ?_
     by_cases h4 : s.toList = ([111, 114] : List UInt8)
     ·exact Upto.iteT h4 (Upto.some_ (by simp [h4]))
     ·exact Upto.iteF h4 (Upto.some_ (by simp [h1, h2, bne_iff_ne.2 h3, bne_iff_ne.2 h4]))
   ·exact Upto.iteF (by simp; omega) (Upto.some_ (by simp [h2]))
  ·exact Upto.iteF (by simp; omega) (Upto.some_ (by simp [h1]))
 | cons b t ih =>
  intro i h hi
  obtain ⟨hl, hb, ht⟩ := drop_cons h
  have hl' := hl
  rw [size_list] at hl'
  refine Upto.step (d := t.length + 1) (fun k => rfl) (Upto.iteT (by omega) (Upto.iteT (by omega) ?_))
  rw [bt_nat s i hl, hb]
  by_cases h1 : (b.toNat : Int) < 97
  ·exact Upto.iteT h1 (Upto.some_ (by simp [lowB]; omega))
  ·refine Upto.iteF h1 ?_
   by_cases h2 : (b.toNat : Int) > 122
   ·exact Upto.iteT h2 (Upto.some_ (by simp [lowB]; omega))
   ·refine Upto.iteF h2 ?_
    rw [wrapN (by omega)]
    have := ih (i + 1) ht (by omega)
    have e : lowB b = true := by simp [lowB]; omega
    rw [List.all_cons, e, Bool.true_and]
    exact this
theorem validName_at (w : List UInt8) (hw : w.length ≤ 4611686018427387903) : Upto (w.length + 1) (fun k => spec_validName.f k (BA w)) (nameL w) :=
 validName_upto (BA w) hw w 0 rfl (Nat.zero_le _)
def encE : Ex → S55
 | .leaf w => ⟨BA w, []⟩
 | .not a => ⟨BA [110, 111, 116], [encE a]⟩
 | .and a b => ⟨BA [97, 110, 100], [encE a, encE b]⟩
 | .or a b => ⟨BA [111, 114], [encE a, encE b]⟩
theorem eta_ex (x : S55) : (⟨x.f0, x.f1⟩ : S55) = x := by cases x; rfl
theorem BA_ext {s : ByteArray} {l : List UInt8} (h : s.data.toList = l) : s = BA l := by rw [← h, BA_of]
theorem BA_extract (s : List UInt8) (a b : Nat) : (BA s).extract a b = BA ((s.take b).drop a) := BA_ext (data_extract (BA s) a b)
theorem cutL_take : ∀ (p s : List UInt8), cutL p s = if s.take p.length = p then some (s.drop p.length) else none
 | [], s => by simp [cutL]
 | p :: ps, [] => by simp [cutL]
 | p :: ps, c :: s => by
  unfold cutL
  rw [cutL_take ps s, List.length_cons, List.take_succ_cons, List.drop_succ_cons]
  by_cases e : p = c
  ·subst e
   rw [if_pos rfl]
   by_cases h : s.take ps.length = ps
   ·rw [if_pos h, if_pos (by rw [h])]
   ·rw [if_neg h, if_neg (fun hh => h (List.cons.inj hh).2)]
  ·rw [if_neg e, if_neg (fun hh => e (List.cons.inj hh).1.symm)]
theorem cutPrefix_eq (s p : List UInt8) : strings_CutPrefix.f (BA s) (BA p) = some (match cutL p s with | some r => (BA r, true) | none => (BA s, false)) := by
 have hH : stringslite_HasPrefix.f (BA s) (BA p) = some (decide (s.take p.length = p)) := by
  unfold stringslite_HasPrefix.f
  rw [BA_size, BA_size]
  by_cases h : (s.length : Int) ≥ (p.length : Int)
  ·rw [if_pos h, if_pos (by omega), if_pos (by omega), BA_extract, Int.toNat_natCast, List.drop_zero, Lib.toList_data, Lib.toList_data, BA_data, BA_data]
   congr 1
   rw [Bool.eq_iff_iff, decide_eq_true_iff, beq_iff_eq]
  ·rw [if_neg h, decide_eq_false (fun e => h (by have := congrArg List.length e; rw [List.length_take] at this; omega))]
 unfold strings_CutPrefix.f stringslite_CutPrefix.f
 rw [hH, Option.bind_some, cutL_take]
 by_cases h : s.take p.length = p
 ·have hl : p.length ≤ s.length := by have := congrArg List.length h; rw [List.length_take] at this; omega
  rw [decide_eq_true h, if_pos rfl, BA_size, BA_size, if_pos (by omega), if_pos (by omega), if_pos h, Int.toNat_natCast, BA_extract, List.take_of_length_le (Nat.le_refl _)]
  rfl
 ·rw [decide_eq_false h, if_neg (by decide), if_neg h]
  rfl
/-- T reads what P reads, of texts of fewer than n bytes. -/
def TGood (T : TkF) (n : Nat) (P : List UInt8 → Option (Ex × List UInt8)) : Prop := ∀ s : List UInt8, s.length < n →
 (∀ x, P s = some x → T (BA s) = some ((encE x.1).f0, (encE x.1).f1, BA x.2, true)) ∧ (P s = none → ∃ x y z, T (BA s) = some (x, y, z, false))
theorem row_loop {T : TkF} {n : Nat} {P : List UInt8 → Option (Ex × List UInt8)} (hT : TGood T n P) (hP : Shrinks P) {mk : Ex → Ex → Ex} {w sep : List UInt8} (hs : 0 < sep.length) (hm : ∀ a b, encE (mk a b) = ⟨BA w, [encE a, encE b]⟩) :
  ∀ (j : Nat) (e : Ex) (s : List UInt8), s.length < j → s.length < n →
   (∀ x, rowL P mk sep j e s = some x → Upto (j + 1) (fun k => impl_row.l0 T (BA w) (BA sep) k (encE e).f0 (encE e).f1 (BA s) true) ((encE x.1).f0, (encE x.1).f1, BA x.2, true)) ∧
   (rowL P mk sep j e s = none → ∃ x y z, Upto (j + 1) (fun k => impl_row.l0 T (BA w) (BA sep) k (encE e).f0 (encE e).f1 (BA s) true) (x, y, z, false))
 | 0, _, _, h, _ => absurd h (by omega)
 | j + 1, e, s, h1, h2 => by
  have hcut := cutPrefix_eq s sep
  unfold rowL
  cases hc : cutL sep s with
  | none =>
   rw [hc] at hcut
   simp only
   refine ⟨fun x hx => ?_, fun hx => by cases hx⟩
   obtain rfl := Option.some.inj hx
   exact Upto.step (d := j + 1) (fun k => rfl) (Upto.iteT rfl (Upto.bind0 hcut (Upto.iteF (by simp) (Upto.some_ rfl))))
  | some r =>
   rw [hc] at hcut
   have hl := cutL_length hc
   obtain ⟨g1, g2⟩ := hT r (by omega)
   simp only
   cases hp : P r with
   | none =>
    obtain ⟨x, y, z, hz⟩ := g2 hp
    simp only
    refine ⟨fun x hx => (by cases hx), fun _ => ⟨_, _, z, Upto.step (d := j + 1) (fun k => rfl) (Upto.iteT rfl (Upto.bind0 hcut (Upto.iteT rfl (Upto.bind0 hz (Upto.step (d := j) (fun k => rfl) (Upto.iteF (by simp) (Upto.some_ rfl)))))))⟩⟩
   | some q =>
    have hz := g1 q hp
    have hq := hP r q.1 q.2 hp
    simp only
    obtain ⟨i1, i2⟩ := row_loop hT hP hs hm j (mk e q.1) q.2 (by omega) (by omega)
    rw [hm e q.1] at i1 i2
    refine ⟨fun x hx => ?_, fun hx => ?_⟩
    ·refine Upto.step (d := j + 1) (fun k => rfl) (Upto.iteT rfl (Upto.bind0 hcut (Upto.iteT rfl (Upto.bind0 hz ?_))))
     simp only [eta_ex]
     exact i1 x hx
    ·obtain ⟨x, y, z, hu⟩ := i2 hx
     refine ⟨x, y, z, Upto.step (d := j + 1) (fun k => rfl) (Upto.iteT rfl (Upto.bind0 hcut (Upto.iteT rfl (Upto.bind0 hz ?_))))⟩
     simp only [eta_ex]
     exact hu
theorem row_good {T : TkF} {n : Nat} {P : List UInt8 → Option (Ex × List UInt8)} (hT : TGood T n P) (hP : Shrinks P) {mk : Ex → Ex → Ex} {w sep : List UInt8} (hs : 0 < sep.length) (hm : ∀ a b, encE (mk a b) = ⟨BA w, [encE a, encE b]⟩) (k m : Nat) (hk : m + 1 ≤ k) (hmn : n ≤ m) :
  TGood (impl_row.f T (BA w) (BA sep) k) n (fun s => (P s).bind fun x => rowL P mk sep m x.1 x.2) := by
 intro s hsn
 obtain ⟨g1, g2⟩ := hT s hsn
 cases hp : P s with
 | none =>
  obtain ⟨x, y, z, hz⟩ := g2 hp
  refine ⟨fun x hx => by simp [hp] at hx, fun _ => ⟨x, y, z, ?_⟩⟩
  unfold impl_row.f
  rw [hz]
  obtain ⟨k, rfl⟩ : ∃ q, k = q + 1 := ⟨k - 1, by omega⟩
  show impl_row.l0 T (BA w) (BA sep) (k + 1) x y z false = _
  unfold impl_row.l0
  rw [if_neg (by decide)]
 | some q =>
  have hz := g1 q hp
  have hq := hP s q.1 q.2 hp
  obtain ⟨i1, i2⟩ := row_loop hT hP hs hm m q.1 q.2 (by omega) (by omega)
  refine ⟨fun x hx => ?_, fun hx => ?_⟩
  ·simp only [hp, Option.bind_some] at hx
   unfold impl_row.f
   rw [hz]
   exact i1 x hx k hk
  ·simp only [hp, Option.bind_some] at hx
   obtain ⟨x, y, z, hu⟩ := i2 hx
   refine ⟨x, y, z, ?_⟩
   unfold impl_row.f
   rw [hz]
   exact hu k hk
theorem bt_BA {s : List UInt8} {i : Nat} {c : UInt8} (h : i < s.length) (hb : s[i] = c) : bt (BA s) (i : Int) = (c.toNat : Int) := by subst hb; exact bt_nat (BA s) i h
theorem take_takeW : ∀ (s : List UInt8), s.take (s.takeWhile lowB).length = s.takeWhile lowB
 | [] => rfl
 | c :: s => by
  rw [List.takeWhile_cons]
  cases h : lowB c with
  | true => rw [if_pos rfl, List.length_cons, List.take_succ_cons, take_takeW s]
  | false => rw [if_neg (by decide)]; rfl
theorem drop_takeW : ∀ (s : List UInt8), s.drop (s.takeWhile lowB).length = s.dropWhile lowB
 | [] => rfl
 | c :: s => by
  rw [List.takeWhile_cons, List.dropWhile_cons]
  cases h : lowB c with
  | true => rw [if_pos rfl, if_pos rfl, List.length_cons, List.drop_succ_cons, drop_takeW s]
  | false => rw [if_neg (by decide), if_neg (by decide)]; rfl
theorem letters_loop (x0 : ByteArray) (name : List UInt8) (b : Bool) (hn : name.length ≤ 4611686018427387903) (r : ByteArray × List S55 × ByteArray × Bool) (d : Nat) : ∀ (t : List UInt8) (i : Nat), name.drop i = t → i ≤ name.length →
  Upto d (fun k => impl_takeFactor.j1 k x0 (BA name) b ((i + (t.takeWhile lowB).length : Nat) : Int)) r → Upto (t.length + d + 1) (fun k => impl_takeFactor.l0 k x0 (BA name) b (i : Int)) r := by
 intro t
 induction t with
 | nil =>
  intro i h hi hj
  have hl := drop_nil h
  refine (Upto.step (d := d) (fun k => rfl) (Upto.iteF (by rw [BA_size]; omega) hj)).le (by simp)
 | cons c t ih =>
  intro i h hi hj
  obtain ⟨hl, hb, ht⟩ := drop_cons h
  refine (Upto.step (d := t.length + d + 1) (fun k => rfl) (Upto.iteT (by rw [BA_size]; omega) (Upto.iteT (by omega) ?_))).le (by simp; omega)
  rw [bt_BA hl hb]
  rw [List.takeWhile_cons] at hj
  by_cases h1 : (c.toNat : Int) ≥ 97
  ·refine Upto.iteT h1 ?_
   by_cases h2 : (c.toNat : Int) ≤ 122
   ·have e : lowB c = true := by simp [lowB]; omega
    rw [if_pos e, List.length_cons, show i + ((t.takeWhile lowB).length + 1) = (i + 1) + (t.takeWhile lowB).length by omega] at hj
    refine Upto.iteT h2 ?_
    rw [wrapN (by omega)]
    exact ih (i + 1) ht (by omega) hj
   ·have e : lowB c = false := by simp [lowB]; omega
    rw [if_neg (by rw [e]; decide)] at hj
    exact Upto.iteF h2 (hj.le (by omega))
  ·have e : lowB c = false := by simp [lowB]; omega
   rw [if_neg (by rw [e]; decide)] at hj
   exact Upto.iteF h1 (hj.le (by omega))
theorem word_good (x0 : ByteArray) (name : List UInt8) (b : Bool) (hn : name.length ≤ 4611686018427387903) :
  (∀ x, wordL name b = some x → Upto (2 * name.length + 4) (fun k => impl_takeFactor.l0 k x0 (BA name) b 0) ((encE x.1).f0, (encE x.1).f1, BA x.2, true)) ∧
  (wordL name b = none → Upto (2 * name.length + 4) (fun k => impl_takeFactor.l0 k x0 (BA name) b 0) (⟨#[]⟩, [], x0, false)) := by
 have hw := takeW_dropW name
 have hsz : (BA name).size = name.length := rfl
 have hok := (nameOk_at (name.takeWhile lowB) (by omega)).le (d' := name.length + 1) (by omega)
 have hx : (BA name).extract 0 (((name.takeWhile lowB).length : Nat) : Int).toNat = BA (name.takeWhile lowB) := by rw [BA_extract, Int.toNat_natCast, List.drop_zero, take_takeW]
 have hy : (BA name).extract (((name.takeWhile lowB).length : Nat) : Int).toNat (BA name).size = BA (name.dropWhile lowB) := by rw [BA_extract, Int.toNat_natCast, BA_size, List.take_of_length_le (Nat.le_refl _), drop_takeW]
 have go : ∀ r, Upto (name.length + 2) (fun k => impl_takeFactor.j1 k x0 (BA name) b (((name.takeWhile lowB).length : Nat) : Int)) r → Upto (2 * name.length + 4) (fun k => impl_takeFactor.l0 k x0 (BA name) b 0) r := fun r hr =>
  (letters_loop x0 name b hn r (name.length + 2) name 0 rfl (Nat.zero_le _) (by rw [Nat.zero_add]; exact hr)).le (by omega)
 unfold wordL
 cases hc : nameL (name.takeWhile lowB) with
 | true =>
  rw [hc] at hok
  refine ⟨fun x h => go _ ?_, fun h => by simp at h⟩
  rw [if_pos rfl] at h
  obtain rfl := Option.some.inj h
  refine Upto.step (d := name.length + 1) (fun k => by rw [impl_takeFactor.j1]) (Upto.iteT (by omega) (Upto.iteT (by omega) ?_))
  rw [hx, hy]
  refine Upto.bind hok (Upto.iteT rfl ?_)
  cases b with
  | true => exact Upto.iteT rfl (Upto.iteT (by omega) (Upto.some_ (by rfl)))
  | false => exact Upto.iteF (by simp) (Upto.some_ rfl)
 | false =>
  rw [hc] at hok
  refine ⟨fun x h => by simp at h, fun _ => go _ ?_⟩
  refine Upto.step (d := name.length + 1) (fun k => by rw [impl_takeFactor.j1]) (Upto.iteT (by omega) (Upto.iteT (by omega) ?_))
  rw [hx, hy]
  exact Upto.bind hok (Upto.iteF (by simp) (Upto.some_ rfl))
theorem or_good {T : TkF} {n : Nat} {P : List UInt8 → Option (Ex × List UInt8)} (hT : TGood T n P) (hP : Shrinks P) (k m : Nat) (hk : m + 1 ≤ k) (hmn : n ≤ m) : TGood (orRow T k) n (orL P m) :=
 row_good (row_good hT hP (mk := .and) (w := [97, 110, 100]) (sep := sAnd) (by decide) (fun _ _ => rfl) k m hk hmn) (andL_shrinks hP m) (mk := .or) (w := [111, 114]) (sep := sOr) (by decide) (fun _ _ => rfl) k m hk hmn
theorem fac_good : ∀ (n k : Nat), 2 * n + 8 ≤ k → n ≤ 4611686018427387903 → TGood (impl_takeFactor.f k) n (facL n)
 | 0, _, _, _ => fun s hs => absurd hs (by omega)
 | _ + 1, 0, h, _ => absurd h (by omega)
 | n + 1, k + 1, hk, hn => fun s hs => by
  have ih := fac_good n k (by omega) (by omega)
  have hO := or_good ih (facL_shrinks n) k n (by omega) (Nat.le_refl _)
  have c1 := cutPrefix_eq s sNot
  have c2 := cutPrefix_eq s [40]
  have c3 := cutPrefix_eq s [64]
  unfold impl_takeFactor.f facL
  rw [show (⟨#[110, 111, 116, 32]⟩ : ByteArray) = BA sNot from rfl, show (⟨#[40]⟩ : ByteArray) = BA [40] from rfl, show (⟨#[64]⟩ : ByteArray) = BA [64] from rfl, show (⟨#[41]⟩ : ByteArray) = BA [41] from rfl, c1]
  cases h1 : cutL sNot s with
  | some r =>
   have hl := cutL_length h1
   simp only [sNot, List.length_cons, List.length_nil] at hl
   obtain ⟨g1, g2⟩ := ih r (by omega)
   simp only [Option.bind_some, if_true]
   cases hf : facL n r with
   | none =>
    obtain ⟨x, y, z, hz⟩ := g2 hf
    rw [hz]
    exact ⟨fun x hx => by simp at hx, fun _ => ⟨_, _, _, rfl⟩⟩
   | some q =>
    rw [g1 q hf]
    refine ⟨fun x hx => ?_, fun hx => by simp at hx⟩
    obtain rfl := Option.some.inj hx
    simp only [Option.bind_some, eta_ex]
    rfl
  | none =>
   simp only [Option.bind_some]
   rw [if_neg (by decide), c2]
   cases h2 : cutL [40] s with
   | some r =>
    have hl := cutL_length h2
    simp only [List.length_cons, List.length_nil] at hl
    obtain ⟨g1, g2⟩ := hO r (by omega)
    simp only [Option.bind_some, if_true]
    cases hf : orL (facL n) n r with
    | none =>
     obtain ⟨x, y, z, hz⟩ := g2 hf
     rw [hz]
     simp only [Option.bind_some]
     obtain ⟨zl, rfl⟩ : ∃ zl, z = BA zl := ⟨_, (BA_of z).symm⟩
     rw [cutPrefix_eq zl [41]]
     exact ⟨fun x hx => by simp at hx, fun _ => ⟨_, _, _, rfl⟩⟩
    | some q =>
     rw [g1 q hf]
     simp only [Option.bind_some]
     rw [cutPrefix_eq q.2 [41]]
     cases h4 : cutL [41] q.2 with
     | none => exact ⟨fun x hx => by simp [h4] at hx, fun _ => ⟨_, _, _, rfl⟩⟩
     | some u =>
      refine ⟨fun x hx => ?_, fun hx => by simp [h4] at hx⟩
      simp only [h4, Option.map_some, Option.some.injEq] at hx
      subst hx
      rfl
   | none =>
    simp only [Option.bind_some]
    rw [if_neg (by decide), c3]
    cases h3 : cutL [64] s with
    | some r =>
     have hl := cutL_length h3
     simp only [List.length_cons, List.length_nil] at hl
     obtain ⟨g1, g2⟩ := word_good (BA s) r true (by omega)
     exact ⟨fun x hx => g1 x hx k (by omega), fun hx => ⟨_, _, _, g2 hx k (by omega)⟩⟩
    | none =>
     obtain ⟨g1, g2⟩ := word_good (BA s) s false (by omega)
     exact ⟨fun x hx => g1 x hx k (by omega), fun hx => ⟨_, _, _, g2 hx k (by omega)⟩⟩
/-- A text of an expression: at most 60 bytes, read whole. -/
def ExprOk (s : List UInt8) : Prop := s.length ≤ 60 ∧ ∃ e, Parses s e
theorem readExpr_yes {s : List UInt8} {e : Ex} (h : Parses s e) (hs : s.length ≤ 60) : Ev (fun k => impl_readExpr.f k (BA s)) ((encE e).f0, (encE e).f1, true) := by
 refine ⟨200, fun k hk => ?_⟩
 have hO := or_good (fac_good (s.length + 1) k (by omega) (by omega)) (facL_shrinks _) k (s.length + 1) (by omega) (Nat.le_refl _)
 have h1 := (hO s (by omega)).1 _ h
 show impl_readExpr.f k (BA s) = _
 unfold impl_readExpr.f impl_takeRow.f
 rw [if_neg (by rw [BA_size]; omega), if_pos rfl, h1]
 simp only [Option.bind_some, if_true]
 rw [Lib.toList_data, BA_data]
 rfl
theorem readExpr_no {s : List UInt8} (h : ¬ ExprOk s) : ∃ x y, Ev (fun k => impl_readExpr.f k (BA s)) (x, y, false) := by
 by_cases hs : s.length ≤ 60
 ·cases hp : orL (facL (s.length + 1)) (s.length + 1) s with
  | none =>
   obtain ⟨x, y, z, hz⟩ := (or_good (fac_good (s.length + 1) 200 (by omega) (by omega)) (facL_shrinks _) 200 (s.length + 1) (by omega) (Nat.le_refl _) s (by omega)).2 hp
   have hz0 : impl_readExpr.f 200 (BA s) = some (x, y, false) := by
    unfold impl_readExpr.f impl_takeRow.f
    rw [if_neg (by rw [BA_size]; omega), if_pos rfl, hz]
    rfl
   exact ⟨x, y, Ev.of (fun k => impl_readExpr.mono (BA s) k) hz0⟩
  | some q =>
   refine ⟨(encE q.1).f0, (encE q.1).f1, 200, fun k hk => ?_⟩
   have hO := or_good (fac_good (s.length + 1) k (by omega) (by omega)) (facL_shrinks _) k (s.length + 1) (by omega) (Nat.le_refl _)
   have h1 := (hO s (by omega)).1 _ hp
   have hne : q.2 ≠ [] := fun e => h ⟨hs, q.1, by unfold Parses; rw [hp, ← e]⟩
   show impl_readExpr.f k (BA s) = _
   unfold impl_readExpr.f impl_takeRow.f
   rw [if_neg (by rw [BA_size]; omega), if_pos rfl, h1]
   simp only [Option.bind_some, if_true]
   rw [Lib.toList_data, BA_data]
   congr 3
   exact beq_eq_false_iff_ne.2 hne
 ·refine ⟨⟨#[]⟩, [], 0, fun k _ => ?_⟩
  show impl_readExpr.f k (BA s) = _
  unfold impl_readExpr.f
  rw [if_pos (by rw [BA_size]; omega)]
theorem hasText_upto (l : List ByteArray) (x : ByteArray) (hl : l.length ≤ 4611686018427387903) : ∀ (t : List ByteArray) (i : Nat), l.drop i = t → i ≤ l.length →
  Upto (t.length + 1) (fun k => spec_hasText.l0 k l x (i : Int)) (memB t x) := by
 intro t
 induction t with
 | nil =>
  intro i h hi
  have hl2 := drop_nil h
  exact Upto.step (d := 0) (fun k => rfl) (Upto.iteF (by omega) (Upto.some_ rfl))
 | cons b t ih =>
  intro i h hi
  obtain ⟨hl2, hb, ht⟩ := drop_cons h
  refine Upto.step (d := t.length + 1) (fun k => by rw [spec_hasText.l0]) (Upto.iteT (by omega) (Upto.iteT (by omega) ?_))
  rw [rdOf_nat _ _ _ hl2, hb, wrapN (by omega)]
  by_cases c : b.toList = x.toList
  ·refine Upto.iteT c (Upto.some_ ?_)
   rw [toList_inj c]
   simp [memB]
  ·refine Upto.iteF c ?_
   have := ih (i + 1) ht (by omega)
   rw [show memB (b :: t) x = memB t x by simp only [memB, List.any_cons]; rw [decide_eq_false (fun e => c (by rw [e])), Bool.false_or]]
   exact this
theorem hasText_at (l : List ByteArray) (x : ByteArray) (hl : l.length ≤ 4611686018427387903) : Upto (l.length + 1) (fun k => spec_hasText.f k l x) (memB l x) := hasText_upto l x hl l 0 rfl (Nat.zero_le _)
theorem eat_eq (text w : List UInt8) (i : Nat) (m nm : ByteArray) (a b : List ByteArray) (ok : Bool) (hi : i ≤ text.length) (hz : text.length + w.length ≤ 4611686018427387903) :
  spec_eat.f (BA text) (i : Int) m nm a b ok (BA w) = some (match cutL w (text.drop i) with | some _ => (true, BA text, ((i + w.length : Nat) : Int), m, nm, ok) | none => (false, BA text, (i : Int), m, nm, ok)) := by
 have hw : wrap64 ((i : Int) + (w.length : Int)) = ((i + w.length : Nat) : Int) := by rw [wrapI (by omega)]; omega
 unfold spec_eat.f
 rw [BA_size, BA_size, hw, cutL_take]
 by_cases h : ((i + w.length : Nat) : Int) > (text.length : Int)
 ·rw [if_pos h, if_neg]
  intro e
  have := congrArg List.length e
  rw [List.length_take, List.length_drop] at this
  omega
 ·rw [if_neg h, if_pos (by omega), if_pos (by omega), if_pos (by omega), Int.toNat_natCast, Int.toNat_natCast, BA_extract, List.drop_take, Nat.add_sub_cancel_left, Lib.toList_data, Lib.toList_data, BA_data, BA_data]
  by_cases c : (text.drop i).take w.length = w
  ·rw [if_pos c, if_pos c]
  ·rw [if_neg c, if_neg c]
theorem nameAt_loop (text : List UInt8) (q : Nat) (m nm : ByteArray) (a b : List ByteArray) (ok : Bool) (hz : text.length ≤ 4611686018427387903) : ∀ (t : List UInt8) (i : Nat), text.drop i = t → i ≤ text.length → q ≤ i →
  Upto (t.length + 1) (fun k => spec_nameAt.l0 k (q : Int) (BA text) (i : Int) m nm a b ok) (BA ((text.take (i + (t.takeWhile lowB).length)).drop q), BA text, ((i + (t.takeWhile lowB).length : Nat) : Int), m, nm, ok) := by
 intro t
 have hsz : (BA text).size = text.length := rfl
 have hend : ∀ (i : Nat), (BA text).extract (q : Int).toNat ((i : Nat) : Int).toNat = BA ((text.take i).drop q) := fun i => by rw [Int.toNat_natCast, Int.toNat_natCast, BA_extract]
 induction t with
 | nil =>
  intro i h hi hq
  have hl := drop_nil h
  refine Upto.step (d := 0) (fun k => by rw [spec_nameAt.l0]) (Upto.iteF (by omega) (Upto.iteT (by omega) (Upto.iteT (by omega) (Upto.iteT (by omega) (Upto.some_ ?_)))))
  rw [hend]
  rfl
 | cons c t ih =>
  intro i h hi hq
  obtain ⟨hl, hb, ht⟩ := drop_cons h
  refine Upto.step (d := t.length + 1) (fun k => by rw [spec_nameAt.l0]) (Upto.iteT (by omega) (Upto.iteT (by omega) ?_))
  rw [bt_BA hl hb, List.takeWhile_cons]
  by_cases h1 : (c.toNat : Int) ≥ 97
  ·refine Upto.iteT h1 ?_
   by_cases h2 : (c.toNat : Int) ≤ 122
   ·have e : lowB c = true := by simp [lowB]; omega
    rw [if_pos e, List.length_cons, show i + ((t.takeWhile lowB).length + 1) = (i + 1) + (t.takeWhile lowB).length by omega]
    refine Upto.iteT h2 ?_
    rw [wrapN (by omega)]
    exact ih (i + 1) ht (by omega) (by omega)
   ·have e : lowB c = false := by simp [lowB]; omega
    rw [if_neg (show ¬ lowB c = true by rw [e]; decide)]
    refine Upto.iteF h2 (Upto.iteT (by omega) (Upto.iteT (by omega) (Upto.iteT (by omega) (Upto.some_ ?_))))
    rw [hend]
    rfl
  ·have e : lowB c = false := by simp [lowB]; omega
   rw [if_neg (show ¬ lowB c = true by rw [e]; decide)]
   refine Upto.iteF h1 (Upto.iteT (by omega) (Upto.iteT (by omega) (Upto.iteT (by omega) (Upto.some_ ?_))))
   rw [hend]
   rfl
theorem nameAt_at (text : List UInt8) (i : Nat) (m nm : ByteArray) (a b : List ByteArray) (ok : Bool) (hz : text.length ≤ 4611686018427387903) (hi : i ≤ text.length) :
  Upto (text.length + 1) (fun k => spec_nameAt.f k (BA text) (i : Int) m nm a b ok) (BA ((text.drop i).takeWhile lowB), BA text, ((i + ((text.drop i).takeWhile lowB).length : Nat) : Int), m, nm, ok) := by
 have h := nameAt_loop text i m nm a b ok hz _ i rfl hi (Nat.le_refl _)
 rw [List.drop_take, Nat.add_sub_cancel_left, take_takeW] at h
 exact h.le (by rw [List.length_drop]; omega)
/-- F reads what P reads of the text from place i on, and says what the tree says. -/
def SGood (F : StF) (text : List UInt8) (m nm : ByteArray) (l d : List ByteArray) (n : Nat) (P : List UInt8 → Option (Ex × List UInt8)) : Prop := ∀ i : Nat, i ≤ text.length → (text.drop i).length < n →
 (∀ x, P (text.drop i) = some x → ∃ q : Nat, q ≤ text.length ∧ text.drop q = x.2 ∧ F (BA text) (i : Int) m nm l d true = some (x.1.ev m l, BA text, (q : Int), m, nm, true)) ∧
 (P (text.drop i) = none → ∃ (b : Bool) (q : Nat), q ≤ text.length ∧ F (BA text) (i : Int) m nm l d true = some (b, BA text, (q : Int), m, nm, false))
theorem srow_loop {G : Nat → StF} {L : Nat → Bool → ByteArray → Int → ByteArray → ByteArray → List ByteArray → List ByteArray → Bool → Option (Bool × ByteArray × Int × ByteArray × ByteArray × Bool)} {op : Bool → Bool → Bool} {mk : Ex → Ex → Ex} {sep : List UInt8} {text : List UInt8} {m nm : ByteArray} {l d : List ByteArray} {n K : Nat} {P : List UInt8 → Option (Ex × List UInt8)}
  (hL : ∀ k x t i m nm a b ok, L (k + 1) x t i m nm a b ok = if ok = true then (spec_eat.f t i m nm a b ok (BA sep)).bind fun e => (if e.1 = true then ((G k e.2.1 e.2.2.1 e.2.2.2.1 e.2.2.2.2.1 a b e.2.2.2.2.2).bind fun y => L k (op x y.1) y.2.1 y.2.2.1 y.2.2.2.1 y.2.2.2.2.1 a b y.2.2.2.2.2) else (some (x, e.2.1, e.2.2.1, e.2.2.2.1, e.2.2.2.2.1, e.2.2.2.2.2))) else (some (x, t, i, m, nm, ok)))
  (hG : ∀ k, K ≤ k → SGood (G k) text m nm l d n P) (hP : Shrinks P) (hs : 0 < sep.length) (hz : text.length + sep.length ≤ 4611686018427387903) (hev : ∀ a b, (mk a b).ev m l = op (a.ev m l) (b.ev m l)) :
  ∀ (j : Nat) (e : Ex) (i : Nat), i ≤ text.length → (text.drop i).length < j → (text.drop i).length < n →
   (∀ x, rowL P mk sep j e (text.drop i) = some x → ∃ q : Nat, q ≤ text.length ∧ text.drop q = x.2 ∧ ∀ k, K + j + 1 ≤ k → L k (e.ev m l) (BA text) (i : Int) m nm l d true = some (x.1.ev m l, BA text, (q : Int), m, nm, true)) ∧
   (rowL P mk sep j e (text.drop i) = none → ∀ k, K + j + 1 ≤ k → ∃ (b : Bool) (q : Nat), q ≤ text.length ∧ L k (e.ev m l) (BA text) (i : Int) m nm l d true = some (b, BA text, (q : Int), m, nm, false))
 | 0, _, _, _, h, _ => absurd h (by omega)
 | j + 1, e, i, hi, h1, h2 => by
  have he := eat_eq text sep i m nm l d true hi hz
  unfold rowL
  cases hc : cutL sep (text.drop i) with
  | none =>
   rw [hc] at he
   simp only at he ⊢
   refine ⟨fun x hx => ⟨i, hi, ?_, fun k hk => ?_⟩, fun hx => (by cases hx)⟩
   ·rw [← Option.some.inj hx]
   ·obtain ⟨k, rfl⟩ : ∃ q, k = q + 1 := ⟨k - 1, by omega⟩
    rw [hL, if_pos rfl, he, ← Option.some.inj hx]
    rfl
  | some r =>
   rw [hc] at he
   have hl := cutL_length hc
   have hr : text.drop (i + sep.length) = r := by
    have := cutL_some hc
    rw [← List.drop_drop, this, List.drop_left]
   rw [List.length_drop] at hl h1 h2
   have hl3 : (text.drop (i + sep.length)).length < n := by rw [List.length_drop]; omega
   simp only at he ⊢
   rw [← hr]
   cases hp : P (text.drop (i + sep.length)) with
   | none =>
    refine ⟨fun x hx => (by cases hx), fun _ k hk => ?_⟩
    obtain ⟨k, rfl⟩ : ∃ q, k = q + 1 + 1 := ⟨k - 2, by omega⟩
    obtain ⟨b, q, hq, hb⟩ := (hG (k + 1) (by omega) (i + sep.length) (by omega) hl3).2 hp
    refine ⟨op (e.ev m l) b, q, hq, ?_⟩
    rw [hL, if_pos rfl, he]
    simp only [Option.bind_some, if_true]
    rw [hb]
    simp only [Option.bind_some]
    rw [hL, if_neg (by decide)]
   | some y =>
    have hy := hP _ y.1 y.2 hp
    rw [hr] at hy
    simp only
    obtain ⟨q0, hq0, hd0, _⟩ := (hG K (Nat.le_refl _) (i + sep.length) (by omega) hl3).1 y hp
    have hgo : ∀ k, K ≤ k → G k (BA text) ((i + sep.length : Nat) : Int) m nm l d true = some (y.1.ev m l, BA text, (q0 : Int), m, nm, true) := by
     intro k hk
     obtain ⟨q, hq, hd, hg⟩ := (hG k hk (i + sep.length) (by omega) hl3).1 y hp
     have : q = q0 := by
      have e1 := congrArg List.length (hd.trans hd0.symm)
      rw [List.length_drop, List.length_drop] at e1
      omega
     rw [← this]
     exact hg
    have hlen : (text.drop q0).length = y.2.length := by rw [hd0]
    obtain ⟨i1, i2⟩ := srow_loop hL hG hP hs hz hev j (mk e y.1) q0 hq0 (by omega) (by omega)
    rw [hd0] at i1 i2
    refine ⟨fun x hx => ?_, fun hx k hk => ?_⟩
    ·obtain ⟨q, hq, hd, hk2⟩ := i1 x hx
     refine ⟨q, hq, hd, fun k hk => ?_⟩
     obtain ⟨k, rfl⟩ : ∃ q, k = q + 1 := ⟨k - 1, by omega⟩
     rw [hL, if_pos rfl, he]
     simp only [Option.bind_some, if_true]
     rw [hgo k (by omega)]
     simp only [Option.bind_some]
     rw [← hev]
     exact hk2 k (by omega)
    ·obtain ⟨k, rfl⟩ : ∃ q, k = q + 1 := ⟨k - 1, by omega⟩
     obtain ⟨b, q, hq, hb⟩ := i2 hx k (by omega)
     refine ⟨b, q, hq, ?_⟩
     rw [hL, if_pos rfl, he]
     simp only [Option.bind_some, if_true]
     rw [hgo k (by omega)]
     simp only [Option.bind_some]
     rw [← hev]
     exact hb
theorem srow_good {G : Nat → StF} {L : Nat → Bool → ByteArray → Int → ByteArray → ByteArray → List ByteArray → List ByteArray → Bool → Option (Bool × ByteArray × Int × ByteArray × ByteArray × Bool)} {op : Bool → Bool → Bool} {mk : Ex → Ex → Ex} {sep : List UInt8} {text : List UInt8} {m nm : ByteArray} {l d : List ByteArray} {n K : Nat} {P : List UInt8 → Option (Ex × List UInt8)}
  (hL : ∀ k x t i m nm a b ok, L (k + 1) x t i m nm a b ok = if ok = true then (spec_eat.f t i m nm a b ok (BA sep)).bind fun e => (if e.1 = true then ((G k e.2.1 e.2.2.1 e.2.2.2.1 e.2.2.2.2.1 a b e.2.2.2.2.2).bind fun y => L k (op x y.1) y.2.1 y.2.2.1 y.2.2.2.1 y.2.2.2.2.1 a b y.2.2.2.2.2) else (some (x, e.2.1, e.2.2.1, e.2.2.2.1, e.2.2.2.2.1, e.2.2.2.2.2))) else (some (x, t, i, m, nm, ok)))
  (hG : ∀ k, K ≤ k → SGood (G k) text m nm l d n P) (hP : Shrinks P) (hs : 0 < sep.length) (hz : text.length + sep.length ≤ 4611686018427387903) (hev : ∀ a b, (mk a b).ev m l = op (a.ev m l) (b.ev m l)) (j k : Nat) (hj : n ≤ j) (hk : K + j + 1 ≤ k) :
  SGood (fun t i m nm a b ok => (G k t i m nm a b ok).bind fun y => L k y.1 y.2.1 y.2.2.1 y.2.2.2.1 y.2.2.2.2.1 a b y.2.2.2.2.2) text m nm l d n (fun s => (P s).bind fun x => rowL P mk sep j x.1 x.2) := by
 intro i hi hn
 obtain ⟨g1, g2⟩ := hG k (by omega) i hi hn
 cases hp : P (text.drop i) with
 | none =>
  obtain ⟨b, q, hq, hb⟩ := g2 hp
  refine ⟨fun x hx => by simp [hp] at hx, fun _ => ⟨b, q, hq, ?_⟩⟩
  obtain ⟨k, rfl⟩ : ∃ q, k = q + 1 := ⟨k - 1, by omega⟩
  simp only [hb, Option.bind_some]
  rw [hL, if_neg (by decide)]
 | some y =>
  obtain ⟨q0, hq0, hd0, hg⟩ := g1 y hp
  have hy := hP _ y.1 y.2 hp
  have hlen : (text.drop q0).length = y.2.length := by rw [hd0]
  obtain ⟨i1, i2⟩ := srow_loop hL hG hP hs hz hev j y.1 q0 hq0 (by omega) (by omega)
  rw [hd0] at i1 i2
  refine ⟨fun x hx => ?_, fun hx => ?_⟩
  ·simp only [hp, Option.bind_some] at hx
   obtain ⟨q, hq, hd, hk2⟩ := i1 x hx
   refine ⟨q, hq, hd, ?_⟩
   simp only [hg, Option.bind_some]
   exact hk2 k hk
  ·simp only [hp, Option.bind_some] at hx
   obtain ⟨b, q, hq, hb⟩ := i2 hx k hk
   refine ⟨b, q, hq, ?_⟩
   simp only [hg, Option.bind_some]
   exact hb
theorem term_step (F : StF) (k : Nat) (x : Bool) (t : ByteArray) (i : Int) (m nm : ByteArray) (a b : List ByteArray) (ok : Bool) : spec_term.l0 F (k + 1) x t i m nm a b ok = if ok = true then (spec_eat.f t i m nm a b ok (BA sAnd)).bind fun e => (if e.1 = true then ((F e.2.1 e.2.2.1 e.2.2.2.1 e.2.2.2.2.1 a b e.2.2.2.2.2).bind fun y => spec_term.l0 F k (x && y.1) y.2.1 y.2.2.1 y.2.2.2.1 y.2.2.2.2.1 a b y.2.2.2.2.2) else (some (x, e.2.1, e.2.2.1, e.2.2.2.1, e.2.2.2.2.1, e.2.2.2.2.2))) else (some (x, t, i, m, nm, ok)) := by
 cases x <;> rfl
theorem expr_step (F : StF) (k : Nat) (x : Bool) (t : ByteArray) (i : Int) (m nm : ByteArray) (a b : List ByteArray) (ok : Bool) : spec_expr0.l0 F (k + 1) x t i m nm a b ok = if ok = true then (spec_eat.f t i m nm a b ok (BA sOr)).bind fun e => (if e.1 = true then ((spec_term.f F k e.2.1 e.2.2.1 e.2.2.2.1 e.2.2.2.2.1 a b e.2.2.2.2.2).bind fun y => spec_expr0.l0 F k (x || y.1) y.2.1 y.2.2.1 y.2.2.2.1 y.2.2.2.2.1 a b y.2.2.2.2.2) else (some (x, e.2.1, e.2.2.1, e.2.2.2.1, e.2.2.2.2.1, e.2.2.2.2.2))) else (some (x, t, i, m, nm, ok)) := by
 cases x <;> rfl
theorem sor_good {F : StF} {text : List UInt8} {m nm : ByteArray} {l d : List ByteArray} {n : Nat} {P : List UInt8 → Option (Ex × List UInt8)} (hF : SGood F text m nm l d n P) (hP : Shrinks P) (hz : text.length ≤ 4611686018427387890) (j k : Nat) (hj : n ≤ j) (hk : 2 * j + 2 ≤ k) : SGood (spec_expr0.f F k) text m nm l d n (orL P j) :=
 srow_good (G := fun q => spec_term.f F q) (L := fun q => spec_expr0.l0 F q) (op := or) (mk := .or) (sep := sOr) (K := j + 1) (expr_step F)
  (fun q hq => srow_good (G := fun _ => F) (L := fun q => spec_term.l0 F q) (op := and) (mk := .and) (sep := sAnd) (K := 0) (term_step F) (fun _ _ => hF) hP (by decide) (by simp [sAnd]; omega) (fun _ _ => rfl) j q hj (by omega))
  (andL_shrinks hP j) (by decide) (by simp [sOr]; omega) (fun _ _ => rfl) j k hj (by omega)
theorem cut_drop {text p r : List UInt8} {i : Nat} (hc : cutL p (text.drop i) = some r) : text.drop (i + p.length) = r ∧ i + p.length + r.length = max i text.length := by
 have := cutL_some hc
 refine ⟨by rw [← List.drop_drop, this, List.drop_left], ?_⟩
 have h2 := congrArg List.length this
 rw [List.length_drop, List.length_append] at h2
 have h3 := cutL_length hc
 rw [List.length_drop] at h3
 by_cases h : i ≤ text.length
 ·omega
 ·rw [List.drop_of_length_le (by omega)] at this
  have h4 := congrArg List.length this
  simp at h4
  omega
theorem drop_word (text : List UInt8) (i : Nat) (hi : i ≤ text.length) : text.drop (i + ((text.drop i).takeWhile lowB).length) = (text.drop i).dropWhile lowB ∧ i + ((text.drop i).takeWhile lowB).length ≤ text.length := by
 refine ⟨by rw [← List.drop_drop, drop_takeW], ?_⟩
 have := takeW_dropW (text.drop i)
 rw [List.length_drop] at this
 omega
theorem toList_beq (a b : ByteArray) : (a.toList == b.toList) = decide (b = a) := by
 rw [Bool.eq_iff_iff, beq_iff_eq, decide_eq_true_iff, toList_iff]
 exact eq_comm
theorem name_not_at {w : List UInt8} (h : nameL w = true) : w.head? ≠ some 64 := by
 unfold nameL nameS at h
 rw [Bool.and_eq_true, List.all_eq_true, BA_data] at h
 cases w with
 | nil => simp
 | cons c w =>
  have := h.1 c List.mem_cons_self
  intro e
  rw [List.head?_cons, Option.some.injEq] at e
  rw [e] at this
  exact absurd this (by decide)
theorem wordE_at (m : ByteArray) (l : List ByteArray) (w : List UInt8) : wordE m l (64 :: w) = decide (BA w = m) := by
 unfold wordE
 rw [List.head?_cons, if_pos rfl, List.tail_cons]
theorem bindS {α β : Type} {x : Option α} {a : α} {f : α → Option β} {r : Option β} (h : x = some a) (k : f a = r) : x.bind f = r := by
 rw [h]
 exact k
theorem iteS {α : Type} {c : Prop} [Decidable c] {a b r : α} (h : c) (k : a = r) : (if c then a else b) = r := (if_pos h).trans k
theorem iteN {α : Type} {c : Prop} [Decidable c] {a b r : α} (h : ¬ c) (k : b = r) : (if c then a else b) = r := (if_neg h).trans k
theorem eat_yes {text w : List UInt8} {i : Nat} {m nm : ByteArray} {a b : List ByteArray} {ok : Bool} (hi : i ≤ text.length) (hz : text.length + w.length ≤ 4611686018427387903) {r : List UInt8} (h : cutL w (text.drop i) = some r) : spec_eat.f (BA text) (i : Int) m nm a b ok (BA w) = some (true, BA text, ((i + w.length : Nat) : Int), m, nm, ok) := by
 rw [eat_eq text w i m nm a b ok hi hz, h]
theorem eat_no {text w : List UInt8} {i : Nat} {m nm : ByteArray} {a b : List ByteArray} {ok : Bool} (hi : i ≤ text.length) (hz : text.length + w.length ≤ 4611686018427387903) (h : cutL w (text.drop i) = none) : spec_eat.f (BA text) (i : Int) m nm a b ok (BA w) = some (false, BA text, (i : Int), m, nm, ok) := by
 rw [eat_eq text w i m nm a b ok hi hz, h]
/-- A factor that begins with not. -/
theorem sfac_not {k : Nat} {text : List UInt8} {i : Nat} {m nm : ByteArray} {l d : List ByteArray} {b ok : Bool} {q : Int}
  (h1 : spec_eat.f (BA text) (i : Int) m nm l d true (BA sNot) = some (true, BA text, ((i + 4 : Nat) : Int), m, nm, true))
  (h2 : spec_factor.f k (BA text) ((i + 4 : Nat) : Int) m nm l d true = some (b, BA text, q, m, nm, ok)) : spec_factor.f (k + 1) (BA text) (i : Int) m nm l d true = some (!b, BA text, q, m, nm, ok) := by
 rw [spec_factor.f]
 exact bindS h1 (iteS rfl (bindS h2 rfl))
/-- .. with a bracket. -/
theorem sfac_par {k : Nat} {text : List UInt8} {i : Nat} {m nm : ByteArray} {l d : List ByteArray} {b ok e : Bool} {q q2 : Int}
  (h1 : spec_eat.f (BA text) (i : Int) m nm l d true (BA sNot) = some (false, BA text, (i : Int), m, nm, true))
  (h2 : spec_eat.f (BA text) (i : Int) m nm l d true (BA [40]) = some (true, BA text, ((i + 1 : Nat) : Int), m, nm, true))
  (h3 : spec_expr0.f (spec_factor.f k) k (BA text) ((i + 1 : Nat) : Int) m nm l d true = some (b, BA text, q, m, nm, ok))
  (h4 : spec_eat.f (BA text) q m nm l d ok (BA [41]) = some (e, BA text, q2, m, nm, ok)) : spec_factor.f (k + 1) (BA text) (i : Int) m nm l d true = some (b, BA text, q2, m, nm, e && ok) := by
 rw [spec_factor.f]
 cases e with
 | true => exact bindS h1 (iteN Bool.false_ne_true (bindS h2 (iteS rfl (bindS h3 (bindS h4 (iteS rfl rfl))))))
 | false => exact bindS h1 (iteN Bool.false_ne_true (bindS h2 (iteS rfl (bindS h3 (bindS h4 (iteN Bool.false_ne_true rfl))))))
/-- .. with @. -/
theorem sfac_mod {k : Nat} {text w : List UInt8} {i : Nat} {m nm : ByteArray} {l d : List ByteArray} {v : Bool} {q : Int}
  (h1 : spec_eat.f (BA text) (i : Int) m nm l d true (BA sNot) = some (false, BA text, (i : Int), m, nm, true))
  (h2 : spec_eat.f (BA text) (i : Int) m nm l d true (BA [40]) = some (false, BA text, (i : Int), m, nm, true))
  (h3 : spec_eat.f (BA text) (i : Int) m nm l d true (BA [64]) = some (true, BA text, ((i + 1 : Nat) : Int), m, nm, true))
  (h4 : spec_nameAt.f k (BA text) ((i + 1 : Nat) : Int) m nm l d true = some (BA w, BA text, q, m, nm, true))
  (h5 : spec_validName.f k (BA w) = some v) : spec_factor.f (k + 1) (BA text) (i : Int) m nm l d true = some (decide (BA w = m), BA text, q, m, nm, v) := by
 rw [spec_factor.f, ← toList_beq]
 exact bindS h1 (iteN Bool.false_ne_true (bindS h2 (iteN Bool.false_ne_true (bindS h3 (iteS rfl (bindS h4 (iteS rfl (bindS h5 rfl))))))))
/-- .. and a mark. -/
theorem sfac_mark {k : Nat} {text w : List UInt8} {i : Nat} {m nm : ByteArray} {l d : List ByteArray} {v t : Bool} {q : Int}
  (h1 : spec_eat.f (BA text) (i : Int) m nm l d true (BA sNot) = some (false, BA text, (i : Int), m, nm, true))
  (h2 : spec_eat.f (BA text) (i : Int) m nm l d true (BA [40]) = some (false, BA text, (i : Int), m, nm, true))
  (h3 : spec_eat.f (BA text) (i : Int) m nm l d true (BA [64]) = some (false, BA text, (i : Int), m, nm, true))
  (h4 : spec_nameAt.f k (BA text) (i : Int) m nm l d true = some (BA w, BA text, q, m, nm, true))
  (h5 : spec_validName.f k (BA w) = some v) (h6 : spec_hasText.f k l (BA w) = some t) : spec_factor.f (k + 1) (BA text) (i : Int) m nm l d true = some (t, BA text, q, m, nm, v) := by
 rw [spec_factor.f]
 exact bindS h1 (iteN Bool.false_ne_true (bindS h2 (iteN Bool.false_ne_true (bindS h3 (iteN Bool.false_ne_true (bindS h4 (iteS rfl (bindS h5 (bindS h6 rfl)))))))))
theorem sfac_good (text : List UInt8) (m nm : ByteArray) (l d : List ByteArray) (hz : text.length ≤ 4611686018427387890) (hl : l.length ≤ 4611686018427387890) : ∀ (n k : Nat), 2 * n + 10 + l.length + text.length ≤ k → SGood (spec_factor.f k) text m nm l d n (facL n)
 | 0, _, _ => fun i hi hn => absurd hn (by omega)
 | _ + 1, 0, h => absurd h (by omega)
 | n + 1, k + 1, hk => fun i hi hn => by
  have ih := sfac_good text m nm l d hz hl n k (by omega)
  have hO := sor_good ih (facL_shrinks n) hz n k (Nat.le_refl _) (by omega)
  have hl4 : sNot.length = 4 := rfl
  have hl1 : ∀ c : UInt8, [c].length = 1 := fun _ => rfl
  rw [List.length_drop] at hn
  unfold facL
  cases h1 : cutL sNot (text.drop i) with
  | some r =>
   have e1 := eat_yes (m := m) (nm := nm) (a := l) (b := d) (ok := true) hi (by rw [hl4]; omega) h1
   obtain ⟨hr, hlen⟩ := cut_drop h1
   rw [hl4] at hr hlen e1
   obtain ⟨g1, g2⟩ := ih (i + 4) (by omega) (by rw [List.length_drop]; omega)
   rw [hr] at g1 g2
   cases hf : facL n r with
   | none =>
    obtain ⟨b, q, hq, hb⟩ := g2 hf
    exact ⟨fun x hx => by simp [hf] at hx, fun _ => ⟨!b, q, hq, sfac_not e1 hb⟩⟩
   | some y =>
    obtain ⟨q, hq, hd, hb⟩ := g1 y hf
    refine ⟨fun x hx => ?_, fun hx => by simp [hf] at hx⟩
    simp only [hf, Option.map_some, Option.some.injEq] at hx
    subst hx
    exact ⟨q, hq, hd, sfac_not e1 hb⟩
  | none =>
   have e1 := eat_no (m := m) (nm := nm) (a := l) (b := d) (ok := true) hi (by rw [hl4]; omega) h1
   simp only
   cases h2 : cutL [40] (text.drop i) with
   | some r =>
    have e2 := eat_yes (m := m) (nm := nm) (a := l) (b := d) (ok := true) hi (by rw [hl1]; omega) h2
    obtain ⟨hr, hlen⟩ := cut_drop h2
    rw [hl1] at hr hlen e2
    obtain ⟨g1, g2⟩ := hO (i + 1) (by omega) (by rw [List.length_drop]; omega)
    rw [hr] at g1 g2
    simp only
    cases hf : orL (facL n) n r with
    | none =>
     obtain ⟨b, q, hq, hb⟩ := g2 hf
     cases h4 : cutL [41] (text.drop q) with
     | none =>
      have e4 := eat_no (m := m) (nm := nm) (a := l) (b := d) (ok := false) hq (by rw [hl1]; omega) h4
      exact ⟨fun x hx => by simp at hx, fun _ => ⟨b, q, hq, sfac_par e1 e2 hb e4⟩⟩
     | some u =>
      have e4 := eat_yes (m := m) (nm := nm) (a := l) (b := d) (ok := false) hq (by rw [hl1]; omega) h4
      obtain ⟨hu, hulen⟩ := cut_drop h4
      rw [hl1] at hulen e4
      exact ⟨fun x hx => by simp at hx, fun _ => ⟨b, q + 1, by omega, sfac_par e1 e2 hb e4⟩⟩
    | some y =>
     obtain ⟨q, hq, hd, hb⟩ := g1 y hf
     rw [Option.bind_some]
     cases h4 : cutL [41] y.2 with
     | none =>
      have e4 := eat_no (m := m) (nm := nm) (a := l) (b := d) (ok := true) hq (by rw [hl1]; omega) (hd.symm ▸ h4)
      exact ⟨fun x hx => by simp at hx, fun _ => ⟨_, q, hq, sfac_par e1 e2 hb e4⟩⟩
     | some u =>
      have h5 : cutL [41] (text.drop q) = some u := by rw [hd]; exact h4
      have e4 := eat_yes (m := m) (nm := nm) (a := l) (b := d) (ok := true) hq (by rw [hl1]; omega) h5
      obtain ⟨hu, hulen⟩ := cut_drop h5
      rw [hl1] at hu hulen e4
      refine ⟨fun x hx => ?_, fun hx => by simp at hx⟩
      simp only [Option.map_some, Option.some.injEq] at hx
      subst hx
      exact ⟨q + 1, by omega, hu, sfac_par e1 e2 hb e4⟩
   | none =>
    have e2 := eat_no (m := m) (nm := nm) (a := l) (b := d) (ok := true) hi (by rw [hl1]; omega) h2
    simp only
    cases h3 : cutL [64] (text.drop i) with
    | some r =>
     have e3 := eat_yes (m := m) (nm := nm) (a := l) (b := d) (ok := true) hi (by rw [hl1]; omega) h3
     obtain ⟨hr, hlen⟩ := cut_drop h3
     rw [hl1] at hr hlen e3
     have hN := nameAt_at text (i + 1) m nm l d true (by omega) (by omega) k (by omega)
     obtain ⟨hd, hq⟩ := drop_word text (i + 1) (by omega)
     rw [hr] at hN hd hq
     have hV := validName_at (r.takeWhile lowB) (by have := takeW_dropW r; omega) k (by have := takeW_dropW r; omega)
     have key := sfac_mod e1 e2 e3 hN hV
     simp only
     unfold wordL
     cases hn : nameL (r.takeWhile lowB) with
     | true =>
      rw [hn] at key
      rw [if_pos rfl]
      refine ⟨fun x hx => ?_, fun hx => by simp at hx⟩
      obtain rfl := Option.some.inj hx
      exact ⟨_, hq, hd, by rw [key, if_pos rfl, Ex.ev, wordE_at]⟩
     | false =>
      rw [hn] at key
      exact ⟨fun x hx => by simp at hx, fun _ => ⟨_, _, hq, key⟩⟩
    | none =>
     have e3 := eat_no (m := m) (nm := nm) (a := l) (b := d) (ok := true) hi (by rw [hl1]; omega) h3
     have hN := nameAt_at text i m nm l d true (by omega) hi k (by omega)
     obtain ⟨hd, hq⟩ := drop_word text i hi
     generalize hr : text.drop i = r at hN hd hq
     have hrl : r.length = text.length - i := by rw [← hr, List.length_drop]
     have hV := validName_at (r.takeWhile lowB) (by have := takeW_dropW r; omega) k (by have := takeW_dropW r; omega)
     have hT := hasText_at l (BA (r.takeWhile lowB)) (by omega) k (by omega)
     have key := sfac_mark e1 e2 e3 hN hV hT
     simp only
     unfold wordL
     cases hn : nameL (r.takeWhile lowB) with
     | true =>
      rw [hn] at key
      rw [if_pos rfl]
      refine ⟨fun x hx => ?_, fun hx => by simp at hx⟩
      obtain rfl := Option.some.inj hx
      refine ⟨_, hq, hd, ?_⟩
      rw [key, if_neg (by decide), Ex.ev]
      unfold wordE
      rw [if_neg (name_not_at hn)]
     | false =>
      rw [hn] at key
      exact ⟨fun x hx => by simp at hx, fun _ => ⟨_, _, hq, key⟩⟩
/-- What evaluate answers: of an expression what its tree says; of another text that it is none. -/
theorem evaluate_yes {s : List UInt8} {e : Ex} (h : Parses s e) (hs : s.length ≤ 60) (m nm : ByteArray) (l d : List ByteArray) (hl : l.length ≤ 4611686018427387890) : Ev (fun k => spec_evaluate.f k (BA s) m nm l d) (e.ev m l, true) := by
 refine ⟨2 * s.length + 20 + l.length + s.length, fun k hk => ?_⟩
 have hF := sfac_good s m nm l d (by omega) hl (s.length + 1) k (by omega)
 have hO := sor_good hF (facL_shrinks _) (by omega) (s.length + 1) k (Nat.le_refl _) (by omega)
 obtain ⟨q, hq, hd, hb⟩ := (hO 0 (Nat.zero_le _) (by rw [List.drop_zero]; omega)).1 (e, []) (by rw [List.drop_zero]; exact h)
 have hqe : q = s.length := by
  have := congrArg List.length hd
  rw [List.length_drop, List.length_nil] at this
  omega
 show spec_evaluate.f k (BA s) m nm l d = _
 unfold spec_evaluate.f spec_expr.f
 rw [if_pos (by rw [BA_size]; omega)]
 have hb2 : spec_expr0.f (spec_factor.f k) k (BA s) 0 m nm l d true = some (e.ev m l, BA s, (q : Int), m, nm, true) := hb
 rw [hb2, BA_size, hqe]
 simp
theorem evaluate_no {s : List UInt8} (h : ¬ ExprOk s) (m nm : ByteArray) (l d : List ByteArray) (hl : l.length ≤ 4611686018427387890) : ∃ b, Ev (fun k => spec_evaluate.f k (BA s) m nm l d) (b, false) := by
 by_cases hs : s.length ≤ 60
 ·have key : ∃ b, spec_evaluate.f (2 * s.length + 20 + l.length + s.length) (BA s) m nm l d = some (b, false) := by
   have hF := sfac_good s m nm l d (by omega) hl (s.length + 1) (2 * s.length + 20 + l.length + s.length) (by omega)
   have hO := sor_good hF (facL_shrinks _) (by omega) (s.length + 1) (2 * s.length + 20 + l.length + s.length) (Nat.le_refl _) (by omega)
   obtain ⟨g1, g2⟩ := hO 0 (Nat.zero_le _) (by rw [List.drop_zero]; omega)
   rw [List.drop_zero] at g1 g2
   unfold spec_evaluate.f spec_expr.f
   rw [if_pos (by rw [BA_size]; omega)]
   cases hp : orL (facL (s.length + 1)) (s.length + 1) s with
   | none =>
    obtain ⟨b, q, hq, hb⟩ := g2 hp
    have hb2 : spec_expr0.f (spec_factor.f (2 * s.length + 20 + l.length + s.length)) (2 * s.length + 20 + l.length + s.length) (BA s) 0 m nm l d true = some (b, BA s, (q : Int), m, nm, false) := hb
    rw [hb2]
    exact ⟨b, rfl⟩
   | some y =>
    obtain ⟨q, hq, hd, hb⟩ := g1 y hp
    have hb2 : spec_expr0.f (spec_factor.f (2 * s.length + 20 + l.length + s.length)) (2 * s.length + 20 + l.length + s.length) (BA s) 0 m nm l d true = some (y.1.ev m l, BA s, (q : Int), m, nm, true) := hb
    have hne : q ≠ s.length := by
     intro e
     rw [e, List.drop_length] at hd
     exact h ⟨hs, y.1, by unfold Parses; rw [hp, hd]⟩
    rw [hb2, BA_size]
    refine ⟨y.1.ev m l, ?_⟩
    simp only [Option.bind_some, Bool.true_and]
    rw [decide_eq_false (by omega)]
  obtain ⟨b, hb⟩ := key
  exact ⟨b, Ev.of (fun k => spec_evaluate.mono (BA s) m nm l d k) hb⟩
 ·refine ⟨false, 0, fun k _ => ?_⟩
  show spec_evaluate.f k (BA s) m nm l d = _
  unfold spec_evaluate.f
  rw [if_neg (by rw [BA_size]; omega)]
theorem toList_BA (l : List UInt8) : (BA l).toList = l := by rw [Lib.toList_data]; rfl
theorem name_parts {w : List UInt8} (h : nameL w = true) : 1 ≤ w.length ∧ w ≠ [97, 110, 100] ∧ w ≠ [111, 114] ∧ w ≠ [110, 111, 116] := by
 have h1 := nameL_pos h
 unfold nameL nameS nameEnd at h
 rw [Bool.and_eq_true, Bool.and_eq_true, Bool.and_eq_true, Bool.and_eq_true, Bool.and_eq_true, toList_BA, bne_iff_ne, bne_iff_ne, bne_iff_ne] at h
 exact ⟨h1.1, h.2.2.2.1, h.2.2.2.2.1, h.2.2.2.2.2⟩
theorem word_parts {w : List UInt8} (h : wordOk w) : 1 ≤ w.length ∧ w ≠ [97, 110, 100] ∧ w ≠ [111, 114] ∧ w ≠ [110, 111, 116] := by
 rcases h with h | ⟨v, rfl, h⟩
 ·exact name_parts h
 ·refine ⟨by rw [List.length_cons]; omega, ?_, ?_, ?_⟩ <;> (intro e; have := (List.cons.inj e).1; exact absurd this (by decide))
theorem holds_ev (m : ByteArray) (l : List ByteArray) (hl : l.length ≤ 4611686018427387903) : ∀ e : Ex, e.WF → Ev (fun k => impl_expr_holds.f k (encE e).f0 (encE e).f1 m l) (e.ev m l)
 | .not a, h => by
  refine Ev.step (fun k => by rw [impl_expr_holds.f]) ?_
  refine Ev.iteT (toList_BA _) (Ev.iteT (by show (0 : Int) < ((1 : Nat) : Int); omega) ?_)
  exact Ev.bind (holds_ev m l hl a h) (Ev.some_ rfl)
 | .and a b, h => by
  refine Ev.step (fun k => by rw [impl_expr_holds.f]) ?_
  refine Ev.iteF (by rw [show (encE (.and a b)).f0 = BA [97, 110, 100] from rfl, toList_BA]; decide) (Ev.iteT (toList_BA _) (Ev.iteT (by show (0 : Int) < ((2 : Nat) : Int); omega) ?_))
  refine Ev.bind (holds_ev m l hl a h.1) ?_
  show Ev _ (a.ev m l && b.ev m l)
  cases a.ev m l with
  | true => exact Ev.iteT rfl (Ev.iteT (by show (1 : Int) < ((2 : Nat) : Int); omega) (Ev.bind (holds_ev m l hl b h.2) (Ev.some_ (Bool.true_and _).symm)))
  | false => exact Ev.iteF (by decide) (Ev.some_ rfl)
 | .or a b, h => by
  refine Ev.step (fun k => by rw [impl_expr_holds.f]) ?_
  refine Ev.iteF (by rw [show (encE (.or a b)).f0 = BA [111, 114] from rfl, toList_BA]; decide) (Ev.iteF (by rw [show (encE (.or a b)).f0 = BA [111, 114] from rfl, toList_BA]; decide) (Ev.iteT (toList_BA _) (Ev.iteT (by show (0 : Int) < ((2 : Nat) : Int); omega) ?_)))
  refine Ev.bind (holds_ev m l hl a h.1) ?_
  show Ev _ (a.ev m l || b.ev m l)
  cases a.ev m l with
  | true => exact Ev.iteT rfl (Ev.some_ rfl)
  | false => exact Ev.iteF (by decide) (Ev.iteT (by show (1 : Int) < ((2 : Nat) : Int); omega) (Ev.bind (holds_ev m l hl b h.2) (Ev.some_ (Bool.false_or _).symm)))
 | .leaf w, h => by
  have hw := word_parts h
  have e0 : (encE (.leaf w)).f0 = BA w := rfl
  have hz : (BA w).size = w.length := rfl
  rw [e0]
  refine Ev.step (fun k => by rw [impl_expr_holds.f]) ?_
  refine Ev.iteF (by rw [toList_BA]; exact hw.2.2.2) (Ev.iteF (by rw [toList_BA]; exact hw.2.1) (Ev.iteF (by rw [toList_BA]; exact hw.2.2.1) (Ev.iteT (by omega) ?_)))
  show Ev _ (wordE m l w)
  cases w with
  | nil => exact absurd hw.1 (by simp)
  | cons c v =>
   have hb : bt (BA (c :: v)) 0 = (c.toNat : Int) := bt_BA (s := c :: v) (i := 0) (by simp) rfl
   rw [hb]
   unfold wordE
   rw [List.head?_cons]
   by_cases hc : c = 64
   ·subst hc
    rw [if_pos rfl]
    refine Ev.iteT rfl (Ev.iteT (by omega) (Ev.some_ ?_))
    rw [BA_extract, toList_beq, List.take_of_length_le (Nat.le_of_eq hz.symm), List.drop_one]
    rw [Bool.eq_iff_iff, decide_eq_true_iff, decide_eq_true_iff]
    exact eq_comm
   ·rw [if_neg (fun e => hc (Option.some.inj e))]
    refine Ev.iteF (fun e => hc (UInt8.toNat_inj.1 (by have : ((64 : UInt8).toNat : Int) = 64 := rfl; omega))) (Ev.bind (contains_ev l _ hl) (Ev.some_ rfl))
/-- How many words a tree has. -/
def Ex.cnt : Ex → Nat
 | .leaf _ => 1
 | .not a => a.cnt
 | .and a b => a.cnt + b.cnt
 | .or a b => a.cnt + b.cnt
theorem at_length : ∀ (e : Ex) (l : List ByteArray), (e.at_ l).length ≤ l.length + e.cnt
 | .leaf w, l => addM_length l _
 | .not a, l => at_length a l
 | .and a b, l => by
  have h1 := at_length a l
  have h2 := at_length b (a.at_ l)
  show (b.at_ (a.at_ l)).length ≤ l.length + (a.cnt + b.cnt)
  omega
 | .or a b, l => by
  have h1 := at_length a l
  have h2 := at_length b (a.at_ l)
  show (b.at_ (a.at_ l)).length ≤ l.length + (a.cnt + b.cnt)
  omega
theorem atoms_ev : ∀ (e : Ex) (l : List ByteArray), l.length + e.cnt ≤ 8796093022207 → Ev (fun k => impl_expr_atoms.f k (encE e).f0 (encE e).f1 l) (e.at_ l)
 | .leaf w, l, h => by
  have h' : l.length + 1 ≤ 8796093022207 := h
  refine Ev.step (fun k => by rw [impl_expr_atoms.f]) ?_
  refine Ev.iteT rfl (Ev.bind (contains_ev l _ (by omega)) ?_)
  show Ev _ (addM l (BA w))
  by_cases hc : memB l (BA w) = true
  ·rw [show addM l (BA w) = l from if_pos hc]
   exact Ev.iteT hc (Ev.some_ rfl)
  ·rw [show addM l (BA w) = l ++ [BA w] from if_neg hc]
   exact Ev.iteF hc (Ev.iteT (by omega) (Ev.some_ rfl))
 | .not a, l, h => by
  refine Ev.step (fun k => by rw [impl_expr_atoms.f]) ?_
  refine Ev.iteF (by show ¬ (1 : Nat) = 0; omega) ?_
  exact Ev.bind (atoms_ev a l h) (Ev.some_ rfl)
 | .and a b, l, h => by
  have h' : l.length + (a.cnt + b.cnt) ≤ 8796093022207 := h
  have h1 := at_length a l
  refine Ev.step (fun k => by rw [impl_expr_atoms.f]) ?_
  refine Ev.iteF (by show ¬ (2 : Nat) = 0; omega) ?_
  exact Ev.bind (atoms_ev a l (by omega)) (Ev.bind (atoms_ev b _ (by omega)) (Ev.some_ rfl))
 | .or a b, l, h => by
  have h' : l.length + (a.cnt + b.cnt) ≤ 8796093022207 := h
  have h1 := at_length a l
  refine Ev.step (fun k => by rw [impl_expr_atoms.f]) ?_
  refine Ev.iteF (by show ¬ (2 : Nat) = 0; omega) ?_
  exact Ev.bind (atoms_ev a l (by omega)) (Ev.bind (atoms_ev b _ (by omega)) (Ev.some_ rfl))
def CntOk (P : List UInt8 → Option (Ex × List UInt8)) : Prop := ∀ s e t, P s = some (e, t) → e.cnt + t.length ≤ s.length
theorem rowL_cnt {P : List UInt8 → Option (Ex × List UInt8)} (hP : CntOk P) {mk : Ex → Ex → Ex} (hm : ∀ a b, (mk a b).cnt = a.cnt + b.cnt) (sep : List UInt8) : ∀ (n : Nat) (e : Ex) (s : List UInt8) (e' : Ex) (t : List UInt8), rowL P mk sep n e s = some (e', t) → e'.cnt + t.length ≤ e.cnt + s.length
 | 0, e, s, e', t, h => by simp [rowL] at h
 | n + 1, e, s, e', t, h => by
  unfold rowL at h
  cases hc : cutL sep s with
  | none =>
   rw [hc] at h
   simp only [Option.some.injEq, Prod.mk.injEq] at h
   rw [h.1, h.2]
   exact Nat.le_refl _
  | some r =>
   rw [hc] at h
   simp only at h
   cases hp : P r with
   | none => rw [hp] at h; simp only at h; cases h
   | some x =>
    rw [hp] at h
    simp only at h
    have h1 := rowL_cnt hP hm sep n _ _ _ _ h
    have h2 := hP r x.1 x.2 hp
    have h3 := cutL_length hc
    rw [hm] at h1
    omega
theorem andL_cnt {P : List UInt8 → Option (Ex × List UInt8)} (hP : CntOk P) (n : Nat) : CntOk (andL P n) := by
 intro s e t h
 obtain ⟨x, hx, h⟩ := Option.bind_eq_some_iff.mp h
 have h1 := hP s x.1 x.2 hx
 have h2 := rowL_cnt hP (mk := .and) (fun _ _ => rfl) _ _ _ _ _ _ h
 omega
theorem orL_cnt {P : List UInt8 → Option (Ex × List UInt8)} (hP : CntOk P) (n : Nat) : CntOk (orL P n) := by
 intro s e t h
 obtain ⟨x, hx, h⟩ := Option.bind_eq_some_iff.mp h
 have h1 := andL_cnt hP n s x.1 x.2 hx
 have h2 := rowL_cnt (andL_cnt hP n) (mk := .or) (fun _ _ => rfl) _ _ _ _ _ _ h
 omega
theorem wordL_cnt {s t : List UInt8} {b : Bool} {e : Ex} (h : wordL s b = some (e, t)) : e.cnt + t.length ≤ s.length := by
 have h1 := wordL_length h
 unfold wordL at h
 split at h
 ·simp only [Option.some.injEq, Prod.mk.injEq] at h
  rw [← h.1]
  show 1 + t.length ≤ s.length
  omega
 ·cases h
theorem facL_cnt : ∀ n, CntOk (facL n)
 | 0 => fun s e t h => by simp [facL] at h
 | n + 1 => fun s e t h => by
  unfold facL at h
  cases h1 : cutL sNot s with
  | some r =>
   rw [h1] at h
   simp only at h
   obtain ⟨x, hx, h⟩ := Option.map_eq_some_iff.mp h
   have h2 := facL_cnt n r x.1 x.2 hx
   have h3 := cutL_length h1
   simp only [Prod.mk.injEq] at h
   rw [← h.1, ← h.2]
   show x.1.cnt + _ ≤ _
   omega
  | none =>
   rw [h1] at h
   simp only at h
   cases h2 : cutL [40] s with
   | some r =>
    rw [h2] at h
    simp only at h
    obtain ⟨x, hx, h⟩ := Option.bind_eq_some_iff.mp h
    obtain ⟨y, hy, h⟩ := Option.map_eq_some_iff.mp h
    have h3 := orL_cnt (facL_cnt n) n r x.1 x.2 hx
    have h4 := cutL_length h2
    have h5 := cutL_length hy
    simp only [Prod.mk.injEq] at h
    rw [← h.1, ← h.2]
    omega
   | none =>
    rw [h2] at h
    simp only at h
    cases h3 : cutL [64] s with
    | some r =>
     rw [h3] at h
     simp only at h
     have h4 := wordL_cnt h
     have h5 := cutL_length h3
     omega
    | none =>
     rw [h3] at h
     simp only at h
     exact wordL_cnt h
theorem Parses.cnt {s : List UInt8} {e : Ex} (h : Parses s e) : e.cnt ≤ s.length := orL_cnt (facL_cnt _) _ _ _ _ h
theorem implValid_yes {s : List UInt8} {e : Ex} (h : Parses s e) (hs : s.length ≤ 60) : Ev (fun k => impl_ValidExpr.f k (BA s)) true := by
 unfold impl_ValidExpr.f
 exact Ev.bind (readExpr_yes h hs) (Ev.some_ rfl)
theorem implValid_no {s : List UInt8} (h : ¬ ExprOk s) : Ev (fun k => impl_ValidExpr.f k (BA s)) false := by
 obtain ⟨x, y, hr⟩ := readExpr_no h
 unfold impl_ValidExpr.f
 exact Ev.bind hr (Ev.some_ rfl)
theorem implAtoms_yes {s : List UInt8} {e : Ex} (h : Parses s e) (hs : s.length ≤ 60) : Ev (fun k => impl_AtomsOf.f k (BA s)) (e.at_ []) := by
 have hc := h.cnt
 unfold impl_AtomsOf.f
 exact Ev.bind (readExpr_yes h hs) (Ev.iteT rfl (Ev.bind (atoms_ev e [] (by simp; omega)) (Ev.some_ rfl)))
theorem specValid_yes {s : List UInt8} {e : Ex} (h : Parses s e) (hs : s.length ≤ 60) : Ev (fun k => spec_validExpr.f k (BA s)) true := by
 unfold spec_validExpr.f
 exact Ev.bind (evaluate_yes h hs _ _ [] [] (by simp)) (Ev.some_ rfl)
theorem specValid_no {s : List UInt8} (h : ¬ ExprOk s) : Ev (fun k => spec_validExpr.f k (BA s)) false := by
 obtain ⟨b, hb⟩ := evaluate_no h ⟨#[]⟩ ⟨#[]⟩ [] [] (by simp)
 unfold spec_validExpr.f
 exact Ev.bind hb (Ev.some_ rfl)
theorem BA_append (a b : List UInt8) : BA a ++ BA b = BA (a ++ b) := BA_ext (by rw [ByteArray.data_append, Array.toList_append]; rfl)
def notT (s : List UInt8) : List UInt8 := sNot ++ 40 :: (s ++ [41])
def andT (a b : List UInt8) : List UInt8 := 40 :: (a ++ 41 :: (sAnd ++ 40 :: (b ++ [41])))
def orT (a b : List UInt8) : List UInt8 := 40 :: (a ++ 41 :: (sOr ++ 40 :: (b ++ [41])))
theorem notT_length (s : List UInt8) : (notT s).length = s.length + 6 := by simp [notT, sNot]
theorem andT_length (a b : List UInt8) : (andT a b).length = a.length + b.length + 9 := by simp [andT, sAnd]; omega
theorem not_text (s : List UInt8) : ((⟨#[110, 111, 116, 32, 40]⟩ : ByteArray) ++ BA s) ++ (⟨#[41]⟩ : ByteArray) = BA (notT s) := by
 show (BA [110, 111, 116, 32, 40] ++ BA s) ++ BA [41] = _
 rw [BA_append, BA_append]
 exact congrArg BA (by simp [notT, sNot])
theorem and_text (a b : List UInt8) : ((((⟨#[40]⟩ : ByteArray) ++ BA a) ++ (⟨#[41, 32, 97, 110, 100, 32, 40]⟩ : ByteArray)) ++ BA b) ++ (⟨#[41]⟩ : ByteArray) = BA (andT a b) := by
 show (((BA [40] ++ BA a) ++ BA [41, 32, 97, 110, 100, 32, 40]) ++ BA b) ++ BA [41] = _
 rw [BA_append, BA_append, BA_append, BA_append]
 exact congrArg BA (by simp [andT, sAnd])
theorem or_text (a b : List UInt8) : ((((⟨#[40]⟩ : ByteArray) ++ BA a) ++ (⟨#[41, 32, 111, 114, 32, 40]⟩ : ByteArray)) ++ BA b) ++ (⟨#[41]⟩ : ByteArray) = BA (orT a b) := by
 show (((BA [40] ++ BA a) ++ BA [41, 32, 111, 114, 32, 40]) ++ BA b) ++ BA [41] = _
 rw [BA_append, BA_append, BA_append, BA_append]
 exact congrArg BA (by simp [orT, sOr])
theorem exprOf_ev (x : List UInt8) : ∃ r, Ev (fun k => impl_exprOf.f k (BA x)) r ∧ Ev (fun k => spec_checkedExpr.f k (BA x)) r ∧ ((ExprOk x ∧ r = BA x) ∨ (¬ ExprOk x ∧ r = BA [])) := by
 unfold impl_exprOf.f spec_checkedExpr.f
 by_cases h : ExprOk x
 ·obtain ⟨h1, e, h2⟩ := h
  exact ⟨_, Ev.bind (implValid_yes h2 h1) (Ev.iteT rfl (Ev.some_ rfl)), Ev.bind (specValid_yes h2 h1) (Ev.iteT rfl (Ev.some_ rfl)), .inl ⟨⟨h1, e, h2⟩, rfl⟩⟩
 ·exact ⟨_, Ev.bind (implValid_no h) (Ev.iteF (by simp) (Ev.some_ rfl)), Ev.bind (specValid_no h) (Ev.iteF (by simp) (Ev.some_ rfl)), .inr ⟨h, rfl⟩⟩
/-- The program's answers alone. -/
theorem notExprI_ev (s : List UInt8) (hs : s.length ≤ 4611686018427387000) : ∃ r, Ev (fun k => impl_NotExpr.f k (BA s)) r ∧ ((ExprOk s ∧ ExprOk (notT s) ∧ r = BA (notT s)) ∨ (¬ (ExprOk s ∧ ExprOk (notT s)) ∧ r = BA [])) := by
 have hz : (BA s).size = s.length := rfl
 unfold impl_NotExpr.f
 rw [not_text]
 by_cases h : ExprOk s
 ·obtain ⟨h1, e, h2⟩ := h
  obtain ⟨r, hr1, hr2, hr⟩ := exprOf_ev (notT s)
  refine ⟨r, Ev.bind (implValid_yes h2 h1) (Ev.iteT rfl (Ev.iteT (by omega) (Ev.iteT (by omega) (Ev.bind hr1 (Ev.some_ rfl))))), ?_⟩
  rcases hr with ⟨a, b⟩ | ⟨a, b⟩
  ·exact .inl ⟨⟨h1, e, h2⟩, a, b⟩
  ·exact .inr ⟨fun q => a q.2, b⟩
 ·exact ⟨_, Ev.bind (implValid_no h) (Ev.iteF (by simp) (Ev.some_ rfl)), .inr ⟨fun q => h q.1, rfl⟩⟩
theorem orExprI_ev (a b : List UInt8) (hs : a.length ≤ 4611686018427380000) (hs2 : b.length ≤ 4611686018427380000) : ∃ r, Ev (fun k => impl_OrExpr.f k (BA a) (BA b)) r ∧ ((ExprOk a ∧ ExprOk b ∧ ExprOk (orT a b) ∧ r = BA (orT a b)) ∨ (¬ (ExprOk a ∧ ExprOk b ∧ ExprOk (orT a b)) ∧ r = BA [])) := by
 have hz : (BA a).size = a.length := rfl
 have hz2 : (BA b).size = b.length := rfl
 unfold impl_OrExpr.f
 rw [or_text]
 by_cases h : ExprOk a
 ·obtain ⟨h1, e, h2⟩ := h
  by_cases g : ExprOk b
  ·obtain ⟨g1, e2, g2⟩ := g
   obtain ⟨r, hr1, hr2, hr⟩ := exprOf_ev (orT a b)
   refine ⟨r, Ev.bind (implValid_yes h2 h1) (Ev.iteT rfl (Ev.bind (implValid_yes g2 g1) (Ev.iteT rfl (Ev.iteT (by omega) (Ev.iteT (by omega) (Ev.iteT (by omega) (Ev.iteT (by omega) (Ev.bind hr1 (Ev.some_ rfl))))))))), ?_⟩
   rcases hr with ⟨p, q⟩ | ⟨p, q⟩
   ·exact .inl ⟨⟨h1, e, h2⟩, ⟨g1, e2, g2⟩, p, q⟩
   ·exact .inr ⟨fun z => p z.2.2, q⟩
  ·exact ⟨_, Ev.bind (implValid_yes h2 h1) (Ev.iteT rfl (Ev.bind (implValid_no g) (Ev.iteF (by simp) (Ev.some_ rfl)))), .inr ⟨fun q => g q.2.1, rfl⟩⟩
 ·exact ⟨_, Ev.bind (implValid_no h) (Ev.iteF (by simp) (Ev.some_ rfl)), .inr ⟨fun q => h q.1, rfl⟩⟩
theorem andExpr_ev (a b : List UInt8) (hs : a.length ≤ 4611686018427380000) (hs2 : b.length ≤ 4611686018427380000) : ∃ r, Ev (fun k => impl_AndExpr.f k (BA a) (BA b)) r ∧ Ev (fun k => spec_AndExpr.f k (BA a) (BA b)) r ∧ ((ExprOk a ∧ ExprOk b ∧ ExprOk (andT a b) ∧ r = BA (andT a b)) ∨ (¬ (ExprOk a ∧ ExprOk b ∧ ExprOk (andT a b)) ∧ r = BA [])) := by
 have hz : (BA a).size = a.length := rfl
 have hz2 : (BA b).size = b.length := rfl
 unfold impl_AndExpr.f spec_AndExpr.f
 rw [and_text]
 by_cases h : ExprOk a
 ·obtain ⟨h1, e, h2⟩ := h
  by_cases g : ExprOk b
  ·obtain ⟨g1, e2, g2⟩ := g
   obtain ⟨r, hr1, hr2, hr⟩ := exprOf_ev (andT a b)
   refine ⟨r, Ev.bind (implValid_yes h2 h1) (Ev.iteT rfl (Ev.bind (implValid_yes g2 g1) (Ev.iteT rfl (Ev.iteT (by omega) (Ev.iteT (by omega) (Ev.iteT (by omega) (Ev.iteT (by omega) (Ev.bind hr1 (Ev.some_ rfl))))))))), Ev.bind (specValid_yes h2 h1) (Ev.iteT rfl (Ev.bind (specValid_yes g2 g1) (Ev.iteT rfl (Ev.iteT (by omega) (Ev.iteT (by omega) (Ev.iteT (by omega) (Ev.iteT (by omega) (Ev.bind hr2 (Ev.some_ rfl))))))))), ?_⟩
   rcases hr with ⟨p, q⟩ | ⟨p, q⟩
   ·exact .inl ⟨⟨h1, e, h2⟩, ⟨g1, e2, g2⟩, p, q⟩
   ·exact .inr ⟨fun z => p z.2.2, q⟩
  ·exact ⟨_, Ev.bind (implValid_yes h2 h1) (Ev.iteT rfl (Ev.bind (implValid_no g) (Ev.iteF (by simp) (Ev.some_ rfl)))), Ev.bind (specValid_yes h2 h1) (Ev.iteT rfl (Ev.bind (specValid_no g) (Ev.iteF (by simp) (Ev.some_ rfl)))), .inr ⟨fun q => g q.2.1, rfl⟩⟩
 ·exact ⟨_, Ev.bind (implValid_no h) (Ev.iteF (by simp) (Ev.some_ rfl)), Ev.bind (specValid_no h) (Ev.iteF (by simp) (Ev.some_ rfl)), .inr ⟨fun q => h q.1, rfl⟩⟩
theorem exprOk_nil : ¬ ExprOk [] := fun ⟨_, _, h⟩ => parses_nil h
theorem BA_ne {c : UInt8} {t : List UInt8} : ¬ (BA (c :: t)).toList = [] := by rw [toList_BA]; simp
def Ex.ws : Ex → List ByteArray
 | .leaf w => [BA w]
 | .not a => a.ws
 | .and a b => a.ws ++ b.ws
 | .or a b => a.ws ++ b.ws
theorem addM_mem {l : List ByteArray} {x y : ByteArray} : y ∈ addM l x ↔ y ∈ l ∨ y = x := by
 unfold addM
 split
 ·next h => exact ⟨.inl, fun e => e.elim id (fun e => e ▸ memB_iff.1 h)⟩
 ·rw [List.mem_append, List.mem_singleton]
theorem at_mem : ∀ (e : Ex) (l : List ByteArray) (x : ByteArray), x ∈ e.at_ l ↔ x ∈ l ∨ x ∈ e.ws
 | .leaf w, l, x => by
  show x ∈ addM l (BA w) ↔ x ∈ l ∨ x ∈ [BA w]
  rw [addM_mem, List.mem_singleton]
 | .not a, l, x => at_mem a l x
 | .and a b, l, x => by
  show x ∈ b.at_ (a.at_ l) ↔ x ∈ l ∨ x ∈ a.ws ++ b.ws
  rw [at_mem b, at_mem a, List.mem_append, or_assoc]
 | .or a b, l, x => by
  show x ∈ b.at_ (a.at_ l) ↔ x ∈ l ∨ x ∈ a.ws ++ b.ws
  rw [at_mem b, at_mem a, List.mem_append, or_assoc]
theorem at_old : ∀ (e : Ex) (l : List ByteArray), (∀ x ∈ e.ws, x ∈ l) → e.at_ l = l
 | .leaf w, l, h => by
  show addM l (BA w) = l
  exact if_pos (memB_iff.2 (h _ (List.mem_singleton.2 rfl)))
 | .not a, l, h => at_old a l h
 | .and a b, l, h => by
  show b.at_ (a.at_ l) = l
  rw [at_old a l (fun x hx => h x (List.mem_append_left _ hx)), at_old b l (fun x hx => h x (List.mem_append_right _ hx))]
 | .or a b, l, h => by
  show b.at_ (a.at_ l) = l
  rw [at_old a l (fun x hx => h x (List.mem_append_left _ hx)), at_old b l (fun x hx => h x (List.mem_append_right _ hx))]
theorem ws_in (e : Ex) (l : List ByteArray) : ∀ x ∈ e.ws, x ∈ e.at_ l := fun x hx => (at_mem e l x).2 (.inr hx)
theorem mutx_j0 {b : List Int} (hb : Code_ b) (p : Int) (h0 : 0 ≤ p) (h1 : p ≤ 1000000) (s : ByteArray) (hs : s.size ≤ 1000000) (i : Int) (hi0 : 0 ≤ i) (hi1 : i ≤ s.size) (n : Int) : ∀ c : Bool,
  ∃ t q, Ev (fun k => spec_mutate.j0 k s i n c b p) (t, q) ∧ t.size ≤ s.size + 1 ∧ 0 ≤ q ∧ q ≤ p + 1 := by
 intro c
 obtain ⟨x, hx, he⟩ := of_ev hb p h0 (by omega) [(⟨#[32]⟩ : ByteArray), ⟨#[97]⟩, ⟨#[40]⟩, ⟨#[41]⟩, ⟨#[46]⟩, ⟨#[44]⟩, ⟨#[45]⟩, ⟨#[10]⟩, ⟨#[64]⟩] (by decide) (by decide)
 have hx1 : x.size = 1 := by
  simp only [List.mem_cons, List.not_mem_nil, or_false] at hx
  rcases hx with rfl | rfl | rfl | rfl | rfl | rfl | rfl | rfl | rfl <;> rfl
 obtain ⟨y, hy, he2⟩ := of_ev hb p h0 (by omega) [(⟨#[32]⟩ : ByteArray), ⟨#[10]⟩, ⟨#[120]⟩, ⟨#[41]⟩] (by decide) (by decide)
 have hy1 : y.size = 1 := by
  simp only [List.mem_cons, List.not_mem_nil, or_false] at hy
  rcases hy with rfl | rfl | rfl | rfl <;> rfl
 by_cases cc : c = true
 ·by_cases ci : i < (s.size : Int)
  ·have ew : wrap64 (i + 1) = i + 1 := wrapI (by omega)
   have e1 := extract_size_le s 0 i.toNat
   have e2 := extract_size_le s (i + 1).toNat s.size
   refine ⟨_, _, Ev.step (fun k => rfl) (Ev.iteT cc (Ev.iteT ci (Ev.iteT (by omega) (Ev.iteT (by omega) (Ev.bind he (Ev.iteT (by dsimp only; omega) (Ev.iteT (by rw [ew]; omega) (Ev.iteT (by rw [ew]; omega) (Ev.iteT (by rw [ew]; dsimp only; omega) (Ev.some_ rfl)))))))))), ?_⟩
   have e3 : (s.extract 0 i.toNat).size = i.toNat := by rw [← size_list, data_extract, List.drop_zero, List.length_take, size_list]; omega
   have e4 : (s.extract (i + 1).toNat s.size).size = s.size - (i + 1).toNat := by rw [← size_list, data_extract, List.length_drop, List.length_take, size_list]; omega
   simp only [ByteArray.size_append, ew]
   omega
  ·exact ⟨s, p, Ev.step (fun k => rfl) (Ev.iteT cc (Ev.iteF ci (Ev.some_ rfl))), by omega⟩
 ·by_cases c2 : n = 2
  ·have e1 := extract_size_le s 0 i.toNat
   exact ⟨_, _, Ev.step (fun k => rfl) (Ev.iteF cc (Ev.iteT c2 (Ev.iteT (by omega) (Ev.iteT (by omega) (Ev.some_ rfl))))), by omega⟩
  ·by_cases c3 : n = 3
   ·exact ⟨_, _, Ev.step (fun k => rfl) (Ev.iteF cc (Ev.iteF c2 (Ev.iteT c3 (Ev.bind he2 (Ev.iteT (by dsimp only; omega) (Ev.some_ rfl)))))), by simp only [ByteArray.size_append]; omega⟩
   ·exact ⟨s, p, Ev.step (fun k => rfl) (Ev.iteF cc (Ev.iteF c2 (Ev.iteF c3 (Ev.some_ rfl)))), by omega⟩
theorem mutx_ev {b : List Int} (hb : Code_ b) (p : Int) (h0 : 0 ≤ p) (h1 : p ≤ 900000) (s : ByteArray) (hs : s.size ≤ 1000000) :
  ∃ t q, Ev (fun k => spec_mutate.f k b p s) (t, q) ∧ t.size ≤ s.size + 1 ∧ 0 ≤ q ∧ q ≤ p + 3 := by
 unfold spec_mutate.f
 have ew : wrap64 ((s.size : Int) + 1) = (s.size : Int) + 1 := wrapI (by omega)
 rw [ew]
 obtain ⟨i, hi, i0, i1⟩ := pick_ev hb p ((s.size : Int) + 1) h0 (by omega) (by omega)
 have i1 := i1 (by omega)
 obtain ⟨n, hn, n0, n1⟩ := pick_ev hb (p + 1) 5 (by omega) (by omega) (by omega)
 by_cases c : n = 0
 ·obtain ⟨t, q, ht, hsz⟩ := mutx_j0 hb (p + 1 + 1) (by omega) (by omega) s hs i i0 (by omega) n (n == 0)
  exact ⟨t, q, Ev.bind hi (Ev.bind hn (Ev.iteT c ht)), by omega⟩
 ·obtain ⟨t, q, ht, hsz⟩ := mutx_j0 hb (p + 1 + 1) (by omega) (by omega) s hs i i0 (by omega) n (n == 1)
  exact ⟨t, q, Ev.bind hi (Ev.bind hn (Ev.iteF c ht)), by omega⟩
def AnOk (b : List Int) (d : Int) (n : Nat) (c M : Int) : Prop := ∀ p, 0 ≤ p → p ≤ M → ∃ t q, Ev (fun k => spec_anExpr.f k b p d) (t, q) ∧ t.size ≤ n ∧ 0 ≤ q ∧ q ≤ p + c
theorem an_deep {b : List Int} (hb : Code_ b) (d : Int) (hd : 2 < d) : AnOk b d 4 1 900000 := by
 intro p h0 h1
 obtain ⟨x, hx, he⟩ := of_ev hb p h0 (by omega) [(⟨#[115, 108, 111, 119]⟩ : ByteArray), (⟨#[102, 97, 115, 116]⟩ : ByteArray), (⟨#[110, 101, 116]⟩ : ByteArray), (⟨#[64, 109]⟩ : ByteArray), (⟨#[64, 110]⟩ : ByteArray)] (by decide) (by decide)
 have hs : x.size ≤ 4 := by
  simp only [List.mem_cons, List.not_mem_nil, or_false] at hx
  rcases hx with rfl | rfl | rfl | rfl | rfl <;> decide
 refine ⟨x, p + 1, ?_, hs, by omega, by omega⟩
 refine Ev.step (fun k => by rw [spec_anExpr.f]) ?_
 exact Ev.iteT (by omega) (Ev.bind he (Ev.some_ rfl))
theorem an_j0 {b : List Int} (hb : Code_ b) (d : Int) (hd0 : 0 ≤ d) (hd : d ≤ 2) (n1 n2 : Nat) (c1 c2 : Int) (hn1 : n1 ≤ 1000) (hn2 : n2 ≤ 1000) (hc1 : 0 ≤ c1) (hc : c1 ≤ 100) (hc2 : 0 ≤ c2) (hc3 : c2 ≤ 100) (M : Int) (hM : M ≤ 900000) (g1 : AnOk b (d + 1) n1 c1 M) (g2 : AnOk b (d + 2) n2 c2 M) (p : Int) (h0 : 0 ≤ p) (h1 : p ≤ M - 100) (x : Int) : ∀ e : Bool,
  ∃ t q, Ev (fun k => spec_anExpr.j0 k d x e b p) (t, q) ∧ t.size ≤ n1 + n2 + 13 ∧ 0 ≤ q ∧ q ≤ p + c1 + c2 + 1 := by
 intro e
 have w1 : wrap64 (d + 1) = d + 1 := wrapI (by omega)
 have w2 : wrap64 (d + 2) = d + 2 := wrapI (by omega)
 obtain ⟨t1, q1, ht1, hs1, ha1, hb1⟩ := g1 p h0 (by omega)
 by_cases ce : e = true
 ·obtain ⟨y, hy, he⟩ := of_ev hb p h0 (by omega) [(⟨#[115, 108, 111, 119]⟩ : ByteArray), (⟨#[102, 97, 115, 116]⟩ : ByteArray), (⟨#[110, 101, 116]⟩ : ByteArray), (⟨#[64, 109]⟩ : ByteArray), (⟨#[64, 110]⟩ : ByteArray), (⟨#[115, 107, 105, 112]⟩ : ByteArray)] (by decide) (by decide)
  have hs : y.size ≤ 4 := by
   simp only [List.mem_cons, List.not_mem_nil, or_false] at hy
   rcases hy with rfl | rfl | rfl | rfl | rfl | rfl <;> decide
  refine ⟨y, p + 1, ?_, by omega, by omega, by omega⟩
  refine Ev.step (fun k => by rw [spec_anExpr.j0]) ?_
  exact Ev.iteT ce (Ev.bind he (Ev.some_ rfl))
 ·by_cases x2 : x = 2
  ·obtain ⟨y, hy, he⟩ := of_ev hb p h0 (by omega) [(⟨#[115, 108, 111, 119]⟩ : ByteArray), (⟨#[40, 102, 97, 115, 116, 41]⟩ : ByteArray), (⟨#[64, 109]⟩ : ByteArray)] (by decide) (by decide)
   have hs : y.size ≤ 6 := by
    simp only [List.mem_cons, List.not_mem_nil, or_false] at hy
    rcases hy with rfl | rfl | rfl <;> decide
   refine ⟨(⟨#[110, 111, 116, 32]⟩ : ByteArray) ++ y, p + 1, ?_, ?_, by omega, by omega⟩
   ·refine Ev.step (fun k => by rw [spec_anExpr.j0]) ?_
    exact Ev.iteF ce (Ev.iteT x2 (Ev.bind he (Ev.iteT (by dsimp only; omega) (Ev.some_ rfl))))
   ·rw [ByteArray.size_append, show (⟨#[110, 111, 116, 32]⟩ : ByteArray).size = 4 from rfl]; omega
  ·by_cases x3 : x = 3
   ·obtain ⟨y, hy, he⟩ := of_ev hb q1 ha1 (by omega) [(⟨#[110, 101, 116]⟩ : ByteArray), (⟨#[110, 111, 116, 32, 115, 108, 111, 119]⟩ : ByteArray), (⟨#[64, 107]⟩ : ByteArray)] (by decide) (by decide)
    have hs : y.size ≤ 8 := by
     simp only [List.mem_cons, List.not_mem_nil, or_false] at hy
     rcases hy with rfl | rfl | rfl <;> decide
    refine ⟨(t1 ++ (⟨#[32, 97, 110, 100, 32]⟩ : ByteArray)) ++ y, q1 + 1, ?_, ?_, by omega, by omega⟩
    ·refine Ev.step (fun k => by rw [spec_anExpr.j0, w1]) ?_
     exact Ev.iteF ce (Ev.iteF x2 (Ev.iteT x3 (Ev.bind ht1 (Ev.iteT (by dsimp only; omega) (Ev.bind he (Ev.iteT (by dsimp only; omega) (Ev.some_ rfl)))))))
    ·rw [ByteArray.size_append, ByteArray.size_append, show (⟨#[32, 97, 110, 100, 32]⟩ : ByteArray).size = 5 from rfl]; omega
   ·by_cases x4 : x = 4
    ·obtain ⟨t2, q2, ht2, hs2, ha2, hb2⟩ := g2 q1 ha1 (by omega)
     refine ⟨(t1 ++ (⟨#[32, 111, 114, 32]⟩ : ByteArray)) ++ t2, q2, ?_, ?_, by omega, by omega⟩
     ·refine Ev.step (fun k => by rw [spec_anExpr.j0, w1, w2]) ?_
      exact Ev.iteF ce (Ev.iteF x2 (Ev.iteF x3 (Ev.iteT x4 (Ev.bind ht1 (Ev.iteT (by dsimp only; omega) (Ev.bind ht2 (Ev.iteT (by dsimp only; omega) (Ev.some_ rfl))))))))
     ·rw [ByteArray.size_append, ByteArray.size_append, show (⟨#[32, 111, 114, 32]⟩ : ByteArray).size = 4 from rfl]; omega
    ·refine ⟨((⟨#[40]⟩ : ByteArray) ++ t1) ++ (⟨#[41]⟩ : ByteArray), q1, ?_, ?_, by omega, by omega⟩
     ·refine Ev.step (fun k => by rw [spec_anExpr.j0, w1]) ?_
      exact Ev.iteF ce (Ev.iteF x2 (Ev.iteF x3 (Ev.iteF x4 (Ev.bind ht1 (Ev.iteT (by dsimp only; omega) (Ev.iteT (by dsimp only; omega) (Ev.some_ rfl)))))))
     ·rw [ByteArray.size_append, ByteArray.size_append, show (⟨#[40]⟩ : ByteArray).size = 1 from rfl, show (⟨#[41]⟩ : ByteArray).size = 1 from rfl]; omega
theorem an_up {b : List Int} (hb : Code_ b) (d : Int) (hd0 : 0 ≤ d) (hd : d ≤ 2) (n1 n2 : Nat) (c1 c2 : Int) (hn1 : n1 ≤ 1000) (hn2 : n2 ≤ 1000) (hc1 : 0 ≤ c1) (hc : c1 ≤ 100) (hc2 : 0 ≤ c2) (hc3 : c2 ≤ 100) (M : Int) (hM : M ≤ 900000) (g1 : AnOk b (d + 1) n1 c1 M) (g2 : AnOk b (d + 2) n2 c2 M) : AnOk b d (n1 + n2 + 13) (c1 + c2 + 2) (M - 200) := by
 intro p h0 h1
 obtain ⟨v, hv, _, _⟩ := pick_ev hb p 6 h0 (by omega) (by omega)
 by_cases c : v = 0
 ·obtain ⟨t, q, ht, a1, a2, a3⟩ := an_j0 hb d hd0 hd n1 n2 c1 c2 hn1 hn2 hc1 hc hc2 hc3 M hM g1 g2 (p + 1) (by omega) (by omega) v (v == 0)
  refine ⟨t, q, ?_, a1, a2, by omega⟩
  refine Ev.step (fun k => by rw [spec_anExpr.f]) ?_
  exact Ev.iteF (by omega) (Ev.bind hv (Ev.iteT c ht))
 ·obtain ⟨t, q, ht, a1, a2, a3⟩ := an_j0 hb d hd0 hd n1 n2 c1 c2 hn1 hn2 hc1 hc hc2 hc3 M hM g1 g2 (p + 1) (by omega) (by omega) v (v == 1)
  refine ⟨t, q, ?_, a1, a2, by omega⟩
  refine Ev.step (fun k => by rw [spec_anExpr.f]) ?_
  exact Ev.iteF (by omega) (Ev.bind hv (Ev.iteF c ht))
/-- The draw of an expression, from early places on. -/
theorem anExpr_ev {b : List Int} (hb : Code_ b) (p : Int) (h0 : 0 ≤ p) (h1 : p ≤ 100000) : ∃ t q, Ev (fun k => spec_anExpr.f k b p 0) (t, q) ∧ t.size ≤ 200 ∧ 0 ≤ q ∧ q ≤ p + 60 := by
 have lim : ∀ {d : Int} {n : Nat} {c M M' : Int}, AnOk b d n c M → M' ≤ M → AnOk b d n c M' := fun h hm p a z => h p a (by omega)
 have e2 := an_up hb 2 (by omega) (by omega) 4 4 1 1 (by omega) (by omega) (by omega) (by omega) (by omega) (by omega) 900000 (by omega) (an_deep hb _ (by omega)) (an_deep hb _ (by omega))
 have e1 := an_up hb 1 (by omega) (by omega) _ _ _ _ (by omega) (by omega) (by omega) (by omega) (by omega) (by omega) (900000 - 200) (by omega) e2 (lim (an_deep hb _ (by omega)) (by omega))
 have e0 := an_up hb 0 (by omega) (by omega) _ _ _ _ (by omega) (by omega) (by omega) (by omega) (by omega) (by omega) (900000 - 200 - 200) (by omega) e1 (lim e2 (by omega))
 obtain ⟨t, q, a1, a2, a3, a4⟩ := e0 p h0 (by omega)
 exact ⟨t, q, a1, by omega, a3, by omega⟩
theorem someExpr_ev {b : List Int} (hb : Code_ b) (p : Int) (h0 : 0 ≤ p) (h1 : p ≤ 100000) : ∃ t q, Ev (fun k => spec_someExpr.f k b p) (t, q) ∧ t.size ≤ 300 ∧ 0 ≤ q ∧ q ≤ p + 80 := by
 obtain ⟨t, q, ht, hs, ha, hz⟩ := anExpr_ev hb p h0 h1
 obtain ⟨v, hv, _, _⟩ := pick_ev hb q 8 ha (by omega) (by omega)
 unfold spec_someExpr.f
 by_cases c : v = 0
 ·obtain ⟨u, r, hu, us, ra, rz⟩ := mutx_ev hb (q + 1) (by omega) (by omega) t (by omega)
  exact ⟨u, r, Ev.bind ht (Ev.bind hv (Ev.iteT c (Ev.bind hu (Ev.some_ rfl)))), by omega, ra, by omega⟩
 ·exact ⟨t, q + 1, Ev.bind ht (Ev.bind hv (Ev.iteF c (Ev.some_ rfl))), by omega, by omega, by omega⟩
theorem drawAnd_ev (c : List Int) (h : ∀ x ∈ c, 0 ≤ x ∧ x ≤ 255) : ∃ s t, Ev (fun k => spec_DrawAndExpr.f k c) (s, t) ∧ s.size ≤ 400 ∧ t.size ≤ 400 := by
 obtain ⟨b, hb, hc⟩ := newReader_ev c h
 obtain ⟨t, q, ht, hs, hq, hz⟩ := someExpr_ev hc 0 (by omega) (by omega)
 obtain ⟨u, r, hu, us, hr, hy⟩ := someExpr_ev hc q (by omega) (by omega)
 unfold spec_DrawAndExpr.f
 exact ⟨t, u, Ev.bind0 hb (Ev.bind ht (Ev.bind hu (Ev.some_ rfl))), by omega, by omega⟩
theorem and_one (n : Nat) (hn : n < 4611686018427387904) : Go.bits .and .i64 (n : Int) 1 = ((n % 2 : Nat) : Int) := by
 have hk : IntKind.i64.bits = 64 := rfl
 have ha' : n % 2 ^ 64 = n := Nat.mod_eq_of_lt (by omega)
 have h1 : (1 : Int) = ((1 : Nat) : Int) := rfl
 rw [h1]
 simp only [Go.bits, hk, BitVec.ofInt_natCast, BitVec.toNat_and, BitVec.toNat_ofNat, ha']
 rw [IntKind.wrap_i64, show (1 : Nat) % 2 ^ 64 = 1 from rfl, Nat.and_one_is_mod]
 omega
theorem shr_nat (s i : Nat) (hi : i ≤ 60) : shr .i64 (s : Int) (i : Int) = ((s / 2 ^ i : Nat) : Int) := by
 unfold shr
 have hk : IntKind.i64.bits = 64 := rfl
 rw [Int.toNat_natCast, hk, Nat.min_eq_left (by omega)]
 simp
theorem two_pow_le {n : Nat} (h : n ≤ 6) : 1 ≤ 2 ^ n ∧ 2 ^ n ≤ 64 := by
 have h1 : n = 0 ∨ n = 1 ∨ n = 2 ∨ n = 3 ∨ n = 4 ∨ n = 5 ∨ n = 6 := by omega
 rcases h1 with rfl | rfl | rfl | rfl | rfl | rfl | rfl <;> decide
theorem shl_nat (n : Nat) (hn : n ≤ 6) : shl .i64 1 (n : Int) = ((2 ^ n : Nat) : Int) := by
 unfold shl
 have hk : IntKind.i64.bits = 64 := rfl
 have hp := two_pow_le hn
 have e : (1 : Int) * 2 ^ n = ((2 ^ n : Nat) : Int) := by simp
 rw [Int.toNat_natCast, hk, Nat.min_eq_left (by omega), e, IntKind.wrap_i64]
 omega
/-- The marks that a number chooses. -/
def selB : List ByteArray → Nat → List ByteArray
 | [], _ => []
 | x :: t, n => if n % 2 = 1 then x :: selB t (n / 2) else selB t (n / 2)
def allN (f : Nat → Bool) : Nat → Nat → Bool
 | _, 0 => true
 | s, d + 1 => f s && allN f (s + 1) d
def okAt (ea eb : Ex) (marks : List ByteArray) (m : ByteArray) (s : Nat) : Bool := ea.ev m (selB marks s) == eb.ev m (selB marks s)
theorem same_l3 (ea eb : Ex) (hea : ea.WF) (heb : eb.WF) (marks mods : List ByteArray) (m : ByteArray) (ml mi cap : Int) (s : Nat) (hs : s ≤ 64) (hm : marks.length ≤ 6) (r : Bool) : ∀ (t : List ByteArray) (i : Nat) (acc : List ByteArray), marks.drop i = t → i ≤ marks.length → acc.length ≤ i →
  ((ea.ev m (acc ++ selB t (s / 2 ^ i)) == eb.ev m (acc ++ selB t (s / 2 ^ i))) = false → r = false) →
  ((ea.ev m (acc ++ selB t (s / 2 ^ i)) == eb.ev m (acc ++ selB t (s / 2 ^ i))) = true → Ev (fun k => impl_SameExpr.l2 k marks m mods ml mi cap ((s + 1 : Nat) : Int) (encE ea).f0 (encE ea).f1 (encE eb).f0 (encE eb).f1) r) →
  Ev (fun k => impl_SameExpr.l3 k marks m (s : Int) acc mods ml mi cap (s : Int) marks (marks.length : Int) (i : Int) (encE ea).f0 (encE ea).f1 (encE eb).f0 (encE eb).f1) r := by
 intro t
 induction t with
 | nil =>
  intro i acc h hi hac h0 h1
  have hl := drop_nil h
  have e : acc ++ selB [] (s / 2 ^ i) = acc := List.append_nil _
  rw [e] at h0 h1
  refine Ev.step (fun k => by rw [impl_SameExpr.l3]) ?_
  refine Ev.iteF (by omega) (Ev.bind (holds_ev m acc (by omega) ea hea) (Ev.bind (holds_ev m acc (by omega) eb heb) ?_))
  cases hc : (ea.ev m acc == eb.ev m acc) with
  | false =>
   rw [h0 hc]
   exact Ev.iteT (by rw [bne, hc]; rfl) (Ev.some_ rfl)
  | true =>
   refine Ev.iteF (by rw [bne, hc]; decide) ?_
   rw [wrapN (by omega)]
   exact h1 hc
 | cons b t ih =>
  intro i acc h hi hac h0 h1
  obtain ⟨hl, hb, ht⟩ := drop_cons h
  have hdiv : s / 2 ^ (i + 1) = s / 2 ^ i / 2 := by rw [Nat.pow_succ, Nat.div_div_eq_div_mul]
  have hsm : s / 2 ^ i ≤ s := Nat.div_le_self _ _
  refine Ev.step (fun k => by rw [impl_SameExpr.l3]) ?_
  refine Ev.iteT (by omega) (Ev.iteT (by omega) (Ev.iteT (by omega) ?_))
  rw [rdOf_nat _ _ _ hl, hb, shr_nat s i (by omega), and_one _ (by omega), wrapN (by omega)]
  by_cases hc : s / 2 ^ i % 2 = 1
  ·have e : acc ++ selB (b :: t) (s / 2 ^ i) = (acc ++ [b]) ++ selB t (s / 2 ^ (i + 1)) := by
    rw [hdiv, show selB (b :: t) (s / 2 ^ i) = b :: selB t (s / 2 ^ i / 2) from if_pos hc, List.append_assoc]
    rfl
   rw [e] at h0 h1
   exact Ev.iteT (by omega) (Ev.iteT (by omega) (ih (i + 1) (acc ++ [b]) ht (by omega) (by rw [List.length_append, List.length_singleton]; omega) h0 h1))
  ·have e : acc ++ selB (b :: t) (s / 2 ^ i) = acc ++ selB t (s / 2 ^ (i + 1)) := by
    rw [hdiv, show selB (b :: t) (s / 2 ^ i) = selB t (s / 2 ^ i / 2) from if_neg hc]
   rw [e] at h0 h1
   exact Ev.iteF (by omega) (ih (i + 1) acc ht (by omega) (by omega) h0 h1)
theorem same_l2 (ea eb : Ex) (hea : ea.WF) (heb : eb.WF) (marks mods : List ByteArray) (m : ByteArray) (ml : Int) (mi : Nat) (hmi : mi ≤ 100) (hm : marks.length ≤ 6) (r : Bool) (hr : Ev (fun k => impl_SameExpr.l1 k marks mods ml ((mi + 1 : Nat) : Int) (encE ea).f0 (encE ea).f1 (encE eb).f0 (encE eb).f1) r) : ∀ (d s : Nat), s + d = 2 ^ marks.length →
  Ev (fun k => impl_SameExpr.l2 k marks m mods ml (mi : Int) ((2 ^ marks.length : Nat) : Int) (s : Int) (encE ea).f0 (encE ea).f1 (encE eb).f0 (encE eb).f1) (allN (okAt ea eb marks m) s d && r)
 | 0, s, h => by
  refine Ev.step (fun k => by rw [impl_SameExpr.l2]) ?_
  refine Ev.iteF (by omega) ?_
  rw [wrapN (by omega)]
  exact hr
 | d + 1, s, h => by
  have hp := two_pow_le hm
  have ih := same_l2 ea eb hea heb marks mods m ml mi hmi hm r hr d (s + 1) (by omega)
  refine Ev.step (fun k => by rw [impl_SameExpr.l2]) ?_
  refine Ev.iteT (by omega) ?_
  have e0 : s / 2 ^ 0 = s := by simp
  have hd : okAt ea eb marks m s = (ea.ev m (selB marks s) == eb.ev m (selB marks s)) := rfl
  refine same_l3 ea eb hea heb marks mods m ml mi _ s (by omega) hm _ marks 0 [] rfl (Nat.zero_le _) (by simp) ?_ ?_
  ·rw [e0, List.nil_append]
   intro hc
   show (okAt ea eb marks m s && allN (okAt ea eb marks m) (s + 1) d && r) = false
   rw [hd, hc, Bool.false_and, Bool.false_and]
  ·rw [e0, List.nil_append]
   intro hc
   show Ev _ (okAt ea eb marks m s && allN (okAt ea eb marks m) (s + 1) d && r)
   rw [hd, hc, Bool.true_and]
   exact ih
theorem same_l1 (ea eb : Ex) (hea : ea.WF) (heb : eb.WF) (marks mods : List ByteArray) (hm : marks.length ≤ 6) (hz : mods.length ≤ 100) : ∀ (t : List ByteArray) (i : Nat), mods.drop i = t → i ≤ mods.length →
  Ev (fun k => impl_SameExpr.l1 k marks mods (mods.length : Int) (i : Int) (encE ea).f0 (encE ea).f1 (encE eb).f0 (encE eb).f1) (t.all fun m => allN (okAt ea eb marks m) 0 (2 ^ marks.length)) := by
 intro t
 induction t with
 | nil =>
  intro i h hi
  have hl := drop_nil h
  refine Ev.step (fun k => by rw [impl_SameExpr.l1]) ?_
  exact Ev.iteF (by omega) (Ev.some_ rfl)
 | cons b t ih =>
  intro i h hi
  obtain ⟨hl, hb, ht⟩ := drop_cons h
  refine Ev.step (fun k => by rw [impl_SameExpr.l1]) ?_
  refine Ev.iteT (by omega) (Ev.iteT (by omega) (Ev.iteT (by omega) ?_))
  rw [rdOf_nat _ _ _ hl, hb, shl_nat _ hm, List.all_cons]
  exact same_l2 ea eb hea heb marks mods b _ i (by omega) hm _ (ih (i + 1) ht (by omega)) _ 0 (by omega)
/-- A word's bytes begin with @. -/
def isMod (x : ByteArray) : Bool := x.data.toList.head? == some 64
def modsOf (l : List ByteArray) : List ByteArray := (l.filter isMod).map fun x => x.extract 1 x.size
def marksOf (l : List ByteArray) : List ByteArray := l.filter fun x => !(isMod x)
theorem modsOf_cons_t {x : ByteArray} {t : List ByteArray} (h : isMod x = true) : modsOf (x :: t) = x.extract 1 x.size :: modsOf t := by simp [modsOf, h]
theorem modsOf_cons_f {x : ByteArray} {t : List ByteArray} (h : isMod x = false) : modsOf (x :: t) = modsOf t := by simp [modsOf, h]
theorem marksOf_cons_t {x : ByteArray} {t : List ByteArray} (h : isMod x = true) : marksOf (x :: t) = marksOf t := by simp [marksOf, h]
theorem marksOf_cons_f {x : ByteArray} {t : List ByteArray} (h : isMod x = false) : marksOf (x :: t) = x :: marksOf t := by simp [marksOf, h]
theorem marksOf_length (l : List ByteArray) : (marksOf l).length ≤ l.length := List.length_filter_le ..
theorem modsOf_length (l : List ByteArray) : (modsOf l).length ≤ l.length := by
 unfold modsOf
 rw [List.length_map]
 exact List.length_filter_le ..
/-- A list of words. -/
def Words (l : List ByteArray) : Prop := ∀ x ∈ l, ∃ w, x = BA w ∧ wordOk w
theorem addM_words {l : List ByteArray} {w : List UInt8} (h : Words l) (hw : wordOk w) : Words (addM l (BA w)) := by
 unfold addM
 split
 ·exact h
 ·intro x hx
  rcases List.mem_append.1 hx with hx | hx
  ·exact h x hx
  ·exact ⟨w, List.mem_singleton.1 hx, hw⟩
theorem at_words : ∀ (e : Ex) (l : List ByteArray), e.WF → Words l → Words (e.at_ l)
 | .leaf w, l, h, hl => addM_words hl h
 | .not a, l, h, hl => at_words a l h hl
 | .and a b, l, h, hl => at_words b _ h.2 (at_words a l h.1 hl)
 | .or a b, l, h, hl => at_words b _ h.2 (at_words a l h.1 hl)
theorem same_l0 (ea eb : Ex) (A : List ByteArray) (hA : Words A) (hz : A.length ≤ 6) (r : Bool) : ∀ (t : List ByteArray) (i : Nat) (x10 x11 : List ByteArray), A.drop i = t → i ≤ A.length → x10.length ≤ i + 1 → x11.length ≤ i →
  Ev (fun k => impl_SameExpr.l1 k (x11 ++ marksOf t) (x10 ++ modsOf t) ((x10 ++ modsOf t).length : Int) 0 (encE ea).f0 (encE ea).f1 (encE eb).f0 (encE eb).f1) r →
  Ev (fun k => impl_SameExpr.l0 k x10 x11 A (A.length : Int) (i : Int) (encE ea).f0 (encE ea).f1 (encE eb).f0 (encE eb).f1) r := by
 intro t
 induction t with
 | nil =>
  intro i x10 x11 h hi h10 h11 hr
  have hl := drop_nil h
  have e1 : x11 ++ marksOf [] = x11 := List.append_nil _
  have e2 : x10 ++ modsOf [] = x10 := List.append_nil _
  rw [e1, e2] at hr
  refine Ev.step (fun k => by rw [impl_SameExpr.l0]) ?_
  exact Ev.iteF (by omega) hr
 | cons b t ih =>
  intro i x10 x11 h hi h10 h11 hr
  obtain ⟨hl, hb, ht⟩ := drop_cons h
  obtain ⟨w, hw, hok⟩ := hA b (hb ▸ List.getElem_mem hl)
  have hwp := word_parts hok
  have hsz : b.size = w.length := by rw [hw]; rfl
  refine Ev.step (fun k => by rw [impl_SameExpr.l0]) ?_
  refine Ev.iteT (by omega) (Ev.iteT (by omega) (Ev.iteT (by omega) ?_))
  rw [rdOf_nat _ _ _ hl, hb, wrapN (by omega)]
  refine Ev.iteT (by omega) ?_
  cases w with
  | nil => exact absurd hwp.1 (by simp)
  | cons c v =>
   have hbt : bt b 0 = (c.toNat : Int) := by rw [hw]; exact bt_BA (s := c :: v) (i := 0) (by simp) rfl
   rw [hbt]
   by_cases hc : c = 64
   ·have hm : isMod b = true := by rw [hw, hc]; rfl
    rw [modsOf_cons_t hm, marksOf_cons_t hm] at hr
    rw [hc]
    refine Ev.iteT rfl (Ev.iteT (by omega) (Ev.iteT (by omega) (ih (i + 1) _ _ ht (by omega) (by rw [List.length_append, List.length_singleton]; omega) (by omega) ?_)))
    rw [List.append_assoc]
    exact hr
   ·have hm : isMod b = false := by
     rw [hw]
     show ((c :: v).head? == some (64 : UInt8)) = false
     rw [List.head?_cons, beq_eq_false_iff_ne]
     exact fun e => hc (Option.some.inj e)
    rw [modsOf_cons_f hm, marksOf_cons_f hm] at hr
    refine Ev.iteF (fun e => hc (UInt8.toNat_inj.1 (by have : ((64 : UInt8).toNat : Int) = 64 := rfl; omega))) (Ev.iteT (by omega) (ih (i + 1) _ _ ht (by omega) (by omega) (by rw [List.length_append, List.length_singleton]; omega) ?_))
    rw [List.append_assoc]
    exact hr
/-- Do two trees say the same, whatever the module, and the marks? (As far as the program looks.) -/
def sameV (ea eb : Ex) : Bool := decide ((eb.at_ (ea.at_ [])).length ≤ 6) && ((BA [] :: modsOf (eb.at_ (ea.at_ []))).all fun m => allN (okAt ea eb (marksOf (eb.at_ (ea.at_ []))) m) 0 (2 ^ (marksOf (eb.at_ (ea.at_ []))).length))
theorem implSame_yes {a b : List UInt8} {ea eb : Ex} (ha : Parses a ea) (hb : Parses b eb) (hsa : a.length ≤ 60) (hsb : b.length ≤ 60) : Ev (fun k => impl_SameExpr.f k (BA a) (BA b)) (sameV ea eb) := by
 have h1 := ha.cnt
 have h2 := hb.cnt
 have h3 := at_length ea []
 have hn0 : ([] : List ByteArray).length = 0 := rfl
 unfold impl_SameExpr.f
 refine Ev.bind (readExpr_yes ha hsa) (Ev.bind (readExpr_yes hb hsb) (Ev.iteT rfl ?_))
 refine Ev.step (fun k => by rw [impl_SameExpr.j0]) ?_
 refine Ev.iteF (by simp) (Ev.bind (atoms_ev ea [] (by omega)) (Ev.bind (atoms_ev eb _ (by omega)) ?_))
 unfold sameV
 by_cases hc : (eb.at_ (ea.at_ [])).length ≤ 6
 ·rw [decide_eq_true hc, Bool.true_and]
  have hm := marksOf_length (eb.at_ (ea.at_ []))
  have hd := modsOf_length (eb.at_ (ea.at_ []))
  refine Ev.iteF (by omega) (same_l0 ea eb _ (at_words eb _ hb.wf (at_words ea _ ha.wf (fun x hx => by cases hx))) hc _ _ 0 _ _ rfl (Nat.zero_le _) (by simp) (by simp) ?_)
  rw [List.nil_append]
  exact same_l1 ea eb ha.wf hb.wf (marksOf (eb.at_ (ea.at_ []))) (BA [] :: modsOf (eb.at_ (ea.at_ []))) (by omega) (by rw [List.length_cons]; omega) _ 0 rfl (Nat.zero_le _)
 ·rw [decide_eq_false hc, Bool.false_and]
  exact Ev.iteT (by omega) (Ev.some_ rfl)
theorem allN_true {f : Nat → Bool} (h : ∀ n, f n = true) : ∀ (d s : Nat), allN f s d = true
 | 0, _ => rfl
 | d + 1, s => by
  unfold allN
  rw [h, Bool.true_and]
  exact allN_true h d _
theorem same_true {ea eb : Ex} (h : ∀ m l, ea.ev m l = eb.ev m l) (hc : (eb.at_ (ea.at_ [])).length ≤ 6) : sameV ea eb = true := by
 unfold sameV
 rw [decide_eq_true hc, Bool.true_and, List.all_eq_true]
 intro m _
 exact allN_true (fun n => by unfold okAt; rw [h, beq_self_eq_true]) _ _
end Go.Proofs.Ytdllommmccgleaa.A
