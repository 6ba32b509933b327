/- Plain laws, without Go, that the law FnSummaryText leans on. No condition. -/
import Derived.Test.YtieghkchhjailaaDoorZx0
import Derived.Test.YtieghkchhjailaaDoorZx1
import Derived.Test.YtieghkchhjailaaDoorZx2
import Derived.Test.YtieghkchhjailaaDoorZx3
import Derived.Test.YtieghkchhjailaaDoorZx4
import Derived.Test.YtieghkchhjailaaDoorZx5
import Derived.Test.YtieghkchhjailaaDoorWMore
import Derived.IntWalk
import Derived.Laws.BitsLemmas
import Derived.Lib.Bytealg
import Derived.Lib.ItoaNum
import Derived.Lib.Join
import Derived.Lib.Strings
set_option linter.unusedSimpArgs false
set_option linter.unusedVariables false
namespace Go.Proofs.YtieghkchhjailaaDoor.Z
open Go.RowKit Go.Proofs.YtieghkchhjailaaDoorW.PrintWords Go.Proofs.YtieghkchhjailaaDoorW.PrintLast Go.Proofs.YtieghkchhjailaaDoorW.PrintMore
theorem Ev.iteT {α : Type} {c : Prop} [Decidable c] {g f : Nat → Option α} {r : α} (h : c) (k : Ev g r) : Ev (fun n => if c then g n else f n) r := by
 simpa only [if_pos h] using k
theorem Ev.iteF {α : Type} {c : Prop} [Decidable c] {g f : Nat → Option α} {r : α} (h : ¬ c) (k : Ev f r) : Ev (fun n => if c then g n else f n) r := by
 simpa only [if_neg h] using k
/-- A callee without rounds. -/
theorem Ev.bind0 {α β : Type} {g : Option α} {f : Nat → α → Option β} {a : α} {r : β} (h : g = some a) (k : Ev (fun n => f n a) r) : Ev (fun n => g.bind (f n)) r := by
 subst h
 simpa only [Option.bind_some] using k
theorem Ev.some_ {α : Type} {x r : α} (h : x = r) : Ev (fun _ => some x) r := ⟨0, fun _ _ => by rw [h]⟩
theorem wrapN {i : Nat} (h : i < 4611686018427387904) : wrap64 ((i : Int) + 1) = ((i + 1 : Nat) : Int) := by
 unfold wrap64
 omega
theorem wrapI {x : Int} (h : -9223372036854775808 ≤ x ∧ x ≤ 9223372036854775807) : wrap64 x = x := by
 unfold wrap64
 omega
theorem rdOf_nat {α : Type} (d : α) (l : List α) (i : Nat) (h : i < l.length) : rdOf d l (i : Int) = l[i] := by
 simp [rdOf, List.getD_eq_getElem?_getD, List.getElem?_eq_getElem h]
theorem rd_nat (l : List Int) (i : Nat) (h : i < l.length) : rd l (i : Int) = l[i] := by
 simp [rd, List.getD_eq_getElem?_getD, List.getElem?_eq_getElem h]
theorem getD_nat {α : Type} (d : α) (l : List α) (i : Nat) (h : i < l.length) : l.getD (i : Int).toNat d = l[i] := by
 simp [List.getD_eq_getElem?_getD, List.getElem?_eq_getElem h]
theorem size_list (s : ByteArray) : s.data.toList.length = s.size := by rw [Array.length_toList]; rfl
/-- A list seen from place i on. -/
theorem drop_cons {α : Type} {l : List α} {i : Nat} {b : α} {t : List α} (h : l.drop i = b :: t) : ∃ hi : i < l.length, l[i] = b ∧ l.drop (i + 1) = t := by
 have hi : i < l.length := by
  rcases Nat.lt_or_ge i l.length with h1 | h1
  ·exact h1
  ·rw [List.drop_of_length_le h1] at h
   cases h
 refine ⟨hi, ?_, ?_⟩
 ·rw [List.drop_eq_getElem_cons hi] at h
  exact (List.cons.inj h).1
 ·rw [List.drop_eq_getElem_cons hi] at h
  exact (List.cons.inj h).2
theorem drop_nil {α : Type} {l : List α} {i : Nat} (h : l.drop i = []) : l.length ≤ i := by
 have := congrArg List.length h
 rw [List.length_drop] at this
 simpa using Nat.sub_eq_zero_iff_le.1 this
theorem xor_nat (a b : Nat) (ha : a < 2 ^ 62) (hb : b < 2 ^ 62) : bits .xor .i64 a b = ((a ^^^ b : Nat) : Int) := by
 have hk : IntKind.i64.bits = 64 := rfl
 have ha' : a % 2 ^ 64 = a := Nat.mod_eq_of_lt (by omega)
 have hb' : b % 2 ^ 64 = b := Nat.mod_eq_of_lt (by omega)
 have hx := Nat.xor_lt_two_pow ha hb
 simp only [bits, hk, BitVec.ofInt_natCast, BitVec.toNat_xor, BitVec.toNat_ofNat, ha', hb']
 rw [IntKind.wrap_i64]
 omega
theorem xor_nonneg (a b : Int) (ha : 0 ≤ a) (ha' : a < 4611686018427387904) (hb : 0 ≤ b) (hb' : b < 4611686018427387904) : 0 ≤ bits .xor .i64 a b := by
 obtain ⟨x, rfl⟩ := Int.eq_ofNat_of_zero_le ha
 obtain ⟨y, rfl⟩ := Int.eq_ofNat_of_zero_le hb
 rw [xor_nat x y (by omega) (by omega)]
 omega
/-- A code: what a reader reads. -/
structure Code_ (b : List Int) : Prop where
 len : b.length ≤ 2000
 byte : ∀ x ∈ b, 0 ≤ x ∧ x ≤ 255
theorem Code_.at_ {b : List Int} (h : Code_ b) (i : Int) (h0 : 0 ≤ i) (h1 : i < b.length) : 0 ≤ rd b i ∧ rd b i ≤ 255 := by
 obtain ⟨j, rfl⟩ := Int.eq_ofNat_of_zero_le h0
 rw [rd_nat b j (by omega)]
 exact h.byte _ (List.getElem_mem _)
theorem Code_.nil : Code_ [] := ⟨by simp, by simp⟩
theorem newReader_ev (l : List Int) (h : ∀ x ∈ l, 0 ≤ x ∧ x ≤ 255) : ∃ b, spec_newReader.f l = some (b, 0) ∧ Code_ b := by
 unfold spec_newReader.f
 by_cases h1 : (l.length : Int) > 2000
 ·rw [if_pos h1, if_pos (by omega)]
  exact ⟨_, rfl, ⟨by rw [List.length_take]; omega, fun x hx => h x (List.mem_of_mem_take hx)⟩⟩
 ·rw [if_neg h1]
  exact ⟨_, rfl, ⟨by omega, h⟩⟩
theorem pick_ev {b : List Int} (hb : Code_ b) (p n : Int) (h0 : 0 ≤ p) (h1 : p ≤ 1099511627776) (hn : n ≤ 1099511627776) :
  ∃ v, Ev (fun k => spec_reader_pick.f k b p n) (v, p + 1) ∧ 0 ≤ v ∧ (1 ≤ n → v < n) := by
 have w1 : wrap64 (p + 1) = p + 1 := wrapI (by omega)
 have w0 : wrap64 (p + 1 - 1) = p := by rw [wrapI (by omega)]; omega
 have hl := hb.len
 unfold spec_reader_pick.f
 rw [w1]
 by_cases c1 : n < 1
 ·exact ⟨0, ⟨1, fun k hk => by obtain ⟨m, rfl⟩ : ∃ m, k = m + 1 := ⟨k - 1, by omega⟩; exact (if_pos c1).trans rfl⟩, by omega, by omega⟩
 ·simp only [if_neg c1]
  by_cases c2 : b.length = 0
  ·exact ⟨0, Ev.step (fun k => rfl) (Ev.iteT (by simp [c2]) (Ev.some_ rfl)), by omega, by omega⟩
  ·by_cases c3 : p < (b.length : Int)
   ·have ha := hb.at_ p h0 c3
    have w2 : wrap64 (rd b p) = rd b p := wrapI (by omega)
    refine ⟨Int.tmod (rd b p) n, Ev.step (fun k => rfl) (Ev.iteF (by simp only [beq_iff_eq]; omega) (Ev.iteT (by rw [w0]; exact c3) (Ev.iteT (by rw [w0]; exact h0) (Ev.iteF (by omega) (Ev.some_ ?_))))), Int.tmod_nonneg _ ha.1, fun _ => Int.tmod_lt_of_pos _ (by omega)⟩
    rw [w0, w2]
   ·have hL : (0 : Int) < b.length := by omega
    have t1 : 0 ≤ Int.tmod p b.length := Int.tmod_nonneg _ h0
    have t2 : Int.tmod p b.length < b.length := Int.tmod_lt_of_pos _ hL
    have w3 : wrap64 (p * 7) = p * 7 := wrapI (by omega)
    have w4 : wrap64 (p * 7 + 3) = p * 7 + 3 := wrapI (by omega)
    have t3 : 0 ≤ Int.tmod (p * 7 + 3) b.length := Int.tmod_nonneg _ (by omega)
    have t4 : Int.tmod (p * 7 + 3) b.length < b.length := Int.tmod_lt_of_pos _ hL
    have a1 := hb.at_ _ t1 t2
    have a2 := hb.at_ _ t3 t4
    have d0 : 0 ≤ Int.tdiv p b.length := Int.tdiv_nonneg h0 (by omega)
    have d1 : Int.tdiv p b.length ≤ p := by
     rw [Int.tdiv_eq_ediv_of_nonneg h0]
     exact Int.ediv_le_self _ h0
    generalize hA : rd b (Int.tmod p b.length) = A at a1
    generalize hB : rd b (Int.tmod (p * 7 + 3) b.length) = B at a2
    generalize hQ : Int.tdiv p b.length = Q at d0 d1
    have v1 : wrap64 A = A := wrapI (by omega)
    have v2 : wrap64 (A * 131) = A * 131 := wrapI (by omega)
    have v3 : wrap64 B = B := wrapI (by omega)
    have v4 : wrap64 (B * 1117) = B * 1117 := wrapI (by omega)
    have v5 : wrap64 (A * 131 + B * 1117) = A * 131 + B * 1117 := wrapI (by omega)
    have v6 : wrap64 (p * 29) = p * 29 := wrapI (by omega)
    have v7 : wrap64 (A * 131 + B * 1117 + p * 29) = A * 131 + B * 1117 + p * 29 := wrapI (by omega)
    have v8 : wrap64 Q = Q := wrapI (by omega)
    have v9 : wrap64 (Q * 53) = Q * 53 := wrapI (by omega)
    have v10 : wrap64 (A * 131 + B * 1117 + p * 29 + Q * 53) = A * 131 + B * 1117 + p * 29 + Q * 53 := wrapI (by omega)
    have x0 : 0 ≤ A * 131 + B * 1117 + p * 29 + Q * 53 := by omega
    have x1 : A * 131 + B * 1117 + p * 29 + Q * 53 < 4611686018427387904 := by omega
    generalize hX : A * 131 + B * 1117 + p * 29 + Q * 53 = X at v10 x0 x1
    have e0 : 0 ≤ Int.tdiv X 64 := Int.tdiv_nonneg x0 (by omega)
    have e1 : Int.tdiv X 64 ≤ X := by
     rw [Int.tdiv_eq_ediv_of_nonneg x0]
     exact Int.ediv_le_self _ x0
    have v11 : wrap64 (Int.tdiv X 64) = Int.tdiv X 64 := wrapI (by omega)
    have hx := xor_nonneg X (Int.tdiv X 64) x0 x1 e0 (by omega)
    refine ⟨Int.tmod (bits .xor .i64 X (Int.tdiv X 64)) n, ?_, Int.tmod_nonneg _ hx, fun _ => Int.tmod_lt_of_pos _ (by omega)⟩
    refine Ev.step (fun k => rfl) (Ev.iteF (by simp only [beq_iff_eq]; omega) (Ev.iteF (by rw [w0]; exact c3) (Ev.iteF (by omega) ?_)))
    simp only [w0, w3, w4]
    refine Ev.iteT t1 (Ev.iteT t2 (Ev.iteT t3 (Ev.iteT t4 (Ev.iteF (by omega) (Ev.some_ ?_)))))
    simp only [hA, hB, hQ, v1, v2, v3, v4, v5, v6, v7, v8, v9, hX, v10, v11]
theorem of_ev {b : List Int} (hb : Code_ b) (p : Int) (h0 : 0 ≤ p) (h1 : p ≤ 1099511627776) (l : List ByteArray) (hl : 1 ≤ l.length) (hl' : l.length ≤ 1000) :
  ∃ x, x ∈ l ∧ Ev (fun k => spec_reader_of.f k b p l) (x, p + 1) := by
 obtain ⟨v, hv, v0, v1⟩ := pick_ev hb p (l.length : Int) h0 h1 (by omega)
 have v1 := v1 (by omega)
 obtain ⟨j, rfl⟩ := Int.eq_ofNat_of_zero_le v0
 refine ⟨l[j]'(by omega), List.getElem_mem _, ?_⟩
 unfold spec_reader_of.f
 exact Ev.bind hv (Ev.iteT v0 (Ev.iteT v1 (Ev.some_ (by rw [rdOf_nat _ _ _ (by omega)]))))
theorem one_ev {b : List Int} (hb : Code_ b) (p : Int) (h0 : 0 ≤ p) (h1 : p ≤ 1099511627776) (l : List Int) (hl : 1 ≤ l.length) (hl' : l.length ≤ 1000) :
  ∃ x, x ∈ l ∧ Ev (fun k => spec_reader_one.f k b p l) (x, p + 1) := by
 obtain ⟨v, hv, v0, v1⟩ := pick_ev hb p (l.length : Int) h0 h1 (by omega)
 have v1 := v1 (by omega)
 obtain ⟨j, rfl⟩ := Int.eq_ofNat_of_zero_le v0
 refine ⟨l[j]'(by omega), List.getElem_mem _, ?_⟩
 unfold spec_reader_one.f
 exact Ev.bind hv (Ev.iteT v0 (Ev.iteT v1 (Ev.some_ (by rw [rd_nat _ _ (by omega)]))))
theorem aModule_ev {b : List Int} (hb : Code_ b) (p : Int) (h0 : 0 ≤ p) (h1 : p ≤ 1099511627776) :
  ∃ x, x.size = 1 ∧ Ev (fun k => spec_aModule.f k b p) (x, p + 1) := by
 obtain ⟨x, hx, he⟩ := of_ev hb p h0 h1 [(⟨#[109]⟩ : ByteArray), (⟨#[110]⟩ : ByteArray), (⟨#[109]⟩ : ByteArray), (⟨#[107]⟩ : ByteArray)] (by decide) (by decide)
 refine ⟨x, ?_, Ev.bind he (Ev.some_ rfl)⟩
 simp only [List.mem_cons, List.not_mem_nil, or_false] at hx
 rcases hx with rfl | rfl | rfl | rfl <;> rfl
theorem anId_ev {b : List Int} (hb : Code_ b) (p : Int) (h0 : 0 ≤ p) (h1 : p ≤ 1099511627775) :
  ∃ x, x.size = 3 ∧ Ev (fun k => spec_anId.f k b p) (x, p + 2) := by
 obtain ⟨m, hm, he⟩ := aModule_ev hb p h0 (by omega)
 obtain ⟨y, hy, he2⟩ := of_ev hb (p + 1) (by omega) (by omega) [(⟨#[97]⟩ : ByteArray), (⟨#[98]⟩ : ByteArray), (⟨#[99]⟩ : ByteArray), (⟨#[100]⟩ : ByteArray), (⟨#[101]⟩ : ByteArray)] (by decide) (by decide)
 have hy1 : y.size = 1 := by
  simp only [List.mem_cons, List.not_mem_nil, or_false] at hy
  rcases hy with rfl | rfl | rfl | rfl | rfl <;> rfl
 refine ⟨(m ++ ⟨#[46]⟩) ++ y, by rw [ByteArray.size_append, ByteArray.size_append, hm, hy1]; rfl, ?_⟩
 unfold spec_anId.f
 exact Ev.bind he (Ev.iteT (by show m.size + 1 ≤ _; omega) (Ev.bind he2 (Ev.iteT (by show m.size + 1 + y.size ≤ _; omega) (Ev.some_ (by simp; omega)))))
theorem wfByte {x : Int} (h : (Lit.int .u8 x).wf = true) : 0 ≤ x ∧ x ≤ 255 := by
 simp [Lit.wf, IntKind.min, IntKind.max, IntKind.signed, IntKind.bits] at h
 omega
structure SmallRes (l : List S30) : Prop where
 len : l.length ≤ 9
 ids : ∀ q ∈ l, q.f0.size ≤ 1000
structure SmallTexts (l : List ByteArray) : Prop where
 len : l.length ≤ 9
 ids : ∀ x ∈ l, x.size ≤ 1000
theorem someReport_j2 {b : List Int} (hb : Code_ b) (c : Bool) (p : Int) (h0 : 0 ≤ p) (h1 : p ≤ 1000000) (rs : List S30) (ds : List ByteArray) (hr : SmallRes rs) (hd : SmallTexts ds) (hc : c = true → 0 < rs.length) :
  ∃ rs' ds' p', Ev (fun k => spec_someReport.j2 k c b p rs ds) (rs', ds', p') ∧ SmallRes rs' ∧ SmallTexts ds' ∧ 0 ≤ p' ∧ p' ≤ p + 2 := by
 by_cases c1 : c = true
 ·obtain ⟨x, hx, he⟩ := of_ev hb p h0 (by omega) [(⟨#[109]⟩ : ByteArray), (⟨#[109, 46, 97, 46, 98]⟩ : ByteArray), (⟨#[77, 46, 97]⟩ : ByteArray)] (by decide) (by decide)
  obtain ⟨y, hy, he2⟩ := one_ev hb (p + 1) (by omega) (by omega) [0, 6, -1] (by decide) (by decide)
  have hx2 : x.size ≤ 1000 := by
   simp only [List.mem_cons, List.not_mem_nil, or_false] at hx
   rcases hx with rfl | rfl | rfl <;> decide
  have := hc c1
  refine ⟨_, _, _, Ev.step (fun k => rfl) (Ev.iteT c1 (Ev.bind he (Ev.bind he2 (Ev.iteT (by omega) (Ev.some_ rfl))))), ⟨?_, ?_⟩, hd, by omega, by omega⟩
  ·rw [List.length_set]; exact hr.len
  ·intro q hq
   rcases List.mem_or_eq_of_mem_set hq with h | rfl
   ·exact hr.ids q h
   ·exact hx2
 ·exact ⟨_, _, _, Ev.step (fun k => rfl) (Ev.iteF c1 (Ev.some_ rfl)), hr, hd, h0, by omega⟩
theorem someReport_l1 {b : List Int} (hb : Code_ b) : ∀ (n : Nat) (p : Int) (rs : List S30) (ds : List ByteArray), n ≤ 50 → ds.length + n ≤ 9 → 0 ≤ p → p + n ≤ 500000 → SmallRes rs → (∀ x ∈ ds, x.size ≤ 1000) →
  ∃ rs' ds' p', Ev (fun k => spec_someReport.l1 k (n : Int) b p rs ds) (rs', ds', p') ∧ SmallRes rs' ∧ SmallTexts ds' ∧ 0 ≤ p' ∧ p' ≤ p + n + 3 := by
 intro n
 induction n with
 | zero =>
  intro p rs ds hn hl h0 h1 hr hd
  have hd2 : SmallTexts ds := ⟨by omega, hd⟩
  by_cases c1 : (rs.length : Int) > 0
  ·obtain ⟨v, hv, v0, v1⟩ := pick_ev hb p 24 h0 (by omega) (by omega)
   obtain ⟨rs', ds', p', he, g1, g2, g3, g4⟩ := someReport_j2 hb (v == 0) (p + 1) (by omega) (by omega) rs ds hr hd2 (fun _ => by omega)
   exact ⟨rs', ds', p', Ev.step (fun k => rfl) (Ev.iteF (by omega) (Ev.iteT c1 (Ev.bind hv he))), g1, g2, g3, by omega⟩
  ·obtain ⟨rs', ds', p', he, g1, g2, g3, g4⟩ := someReport_j2 hb false p (by omega) (by omega) rs ds hr hd2 (fun h => by cases h)
   exact ⟨rs', ds', p', Ev.step (fun k => rfl) (Ev.iteF (by omega) (Ev.iteF c1 he)), g1, g2, g3, by omega⟩
 | succ n ih =>
  intro p rs ds hn hl h0 h1 hr hd
  obtain ⟨x, hx, he⟩ := of_ev hb p h0 (by omega) [(⟨#[100, 98]⟩ : ByteArray), (⟨#[116, 109, 112]⟩ : ByteArray)] (by decide) (by decide)
  have hx2 : x.size ≤ 1000 := by
   simp only [List.mem_cons, List.not_mem_nil, or_false] at hx
   rcases hx with rfl | rfl <;> decide
  have ew : wrap64 (((n + 1 : Nat) : Int) - 1) = (n : Int) := by rw [wrapI (by omega)]; omega
  obtain ⟨rs', ds', p', hr', g1, g2, g3, g4⟩ := ih (p + 1) rs (ds ++ [x]) (by omega) (by simp; omega) (by omega) (by omega) hr (fun q hq => by
   rcases List.mem_append.1 hq with hq | hq
   ·exact hd q hq
   ·rw [List.mem_singleton.1 hq]; exact hx2)
  refine ⟨rs', ds', p', Ev.step (fun k => rfl) (Ev.iteT (by omega) (Ev.bind he (Ev.iteT (by omega) ?_))), g1, g2, g3, by omega⟩
  rw [ew]
  exact hr'
theorem someReport_l0 {b : List Int} (hb : Code_ b) : ∀ (n : Nat) (p : Int) (rs : List S30), n ≤ 50 → rs.length + n ≤ 9 → 0 ≤ p → p + 3 * n ≤ 400000 → (∀ q ∈ rs, q.f0.size ≤ 1000) →
  ∃ rs' ds' p', Ev (fun k => spec_someReport.l0 k (n : Int) b p rs []) (rs', ds', p') ∧ SmallRes rs' ∧ SmallTexts ds' ∧ 0 ≤ p' ∧ p' ≤ p + 3 * n + 10 := by
 intro n
 induction n with
 | zero =>
  intro p rs hn hl h0 h1 hr
  obtain ⟨y, hy, he⟩ := one_ev hb p h0 (by omega) [0, 1, 2, 0] (by decide) (by decide)
  have hy2 : 0 ≤ y ∧ y ≤ 2 := by
   simp only [List.mem_cons, List.not_mem_nil, or_false] at hy
   omega
  obtain ⟨m, rfl⟩ := Int.eq_ofNat_of_zero_le hy2.1
  obtain ⟨rs', ds', p', hr', g1, g2, g3, g4⟩ := someReport_l1 hb m (p + 1) rs [] (by omega) (by simp; omega) (by omega) (by omega) ⟨by omega, hr⟩ (fun x hx => by cases hx)
  exact ⟨rs', ds', p', Ev.step (fun k => rfl) (Ev.iteF (by omega) (Ev.bind he hr')), g1, g2, g3, by omega⟩
 | succ n ih =>
  intro p rs hn hl h0 h1 hr
  obtain ⟨x, hx, he⟩ := anId_ev hb p h0 (by omega)
  obtain ⟨y, hy, he2⟩ := one_ev hb (p + 2) (by omega) (by omega) [0, 1, 2, 3, 4, 5, 0, 1] (by decide) (by decide)
  have ew : wrap64 (((n + 1 : Nat) : Int) - 1) = (n : Int) := by rw [wrapI (by omega)]; omega
  obtain ⟨rs', ds', p', hr', g1, g2, g3, g4⟩ := ih (p + 2 + 1) (rs ++ [(⟨x, y⟩ : S30)]) (by omega) (by simp; omega) (by omega) (by omega) (fun q hq => by
   rcases List.mem_append.1 hq with hq | hq
   ·exact hr q hq
   ·rw [List.mem_singleton.1 hq]; show x.size ≤ 1000; omega)
  refine ⟨rs', ds', p', Ev.step (fun k => rfl) (Ev.iteT (by omega) (Ev.bind he (Ev.bind he2 (Ev.iteT (by omega) ?_)))), g1, g2, g3, by omega⟩
  rw [ew]
  exact hr'
theorem someReport_ev {b : List Int} (hb : Code_ b) (p : Int) (h0 : 0 ≤ p) (h1 : p ≤ 100000) :
  ∃ rs ds p', Ev (fun k => spec_someReport.f k b p) (rs, ds, p') ∧ SmallRes rs ∧ SmallTexts ds ∧ 0 ≤ p' ∧ p' ≤ p + 100 := by
 obtain ⟨y, hy, he⟩ := one_ev hb p h0 (by omega) [4, 3, 5, 2, 1, 0] (by decide) (by decide)
 have hy2 : 0 ≤ y ∧ y ≤ 5 := by
  simp only [List.mem_cons, List.not_mem_nil, or_false] at hy
  omega
 obtain ⟨n, rfl⟩ := Int.eq_ofNat_of_zero_le hy2.1
 obtain ⟨rs, ds, p', hr, g1, g2, g3, g4⟩ := someReport_l0 hb n (p + 1) [] (by omega) (by simp; omega) (by omega) (by omega) (fun q hq => by cases hq)
 exact ⟨rs, ds, p', Ev.bind he hr, g1, g2, g3, by omega⟩
theorem rdRes_nat (l : List S30) (i : Nat) (h : i < l.length) : rd_T30 l (i : Int) = l[i] := by
 unfold rd_T30
 exact getD_nat _ _ _ h
def digS (n : Nat) : ByteArray := (⟨#[48, 49, 50, 51, 52, 53, 54, 55, 56, 57]⟩ : ByteArray).extract n (n + 1)
theorem digS_cases (n : Nat) (h : n < 10) : ∃ b : UInt8, b ≠ 110 ∧ digS n = ⟨#[b]⟩ ∧ (⟨(Lib.decDigits n).toArray⟩ : ByteArray) = ⟨#[b]⟩ := by
 rw [Lib.decDigits, dif_pos h]
 have hc : n = 0 ∨ n = 1 ∨ n = 2 ∨ n = 3 ∨ n = 4 ∨ n = 5 ∨ n = 6 ∨ n = 7 ∨ n = 8 ∨ n = 9 := by omega
 rcases hc with rfl | rfl | rfl | rfl | rfl | rfl | rfl | rfl | rfl | rfl
 ·exact ⟨48, by decide, rfl, rfl⟩
 ·exact ⟨49, by decide, rfl, rfl⟩
 ·exact ⟨50, by decide, rfl, rfl⟩
 ·exact ⟨51, by decide, rfl, rfl⟩
 ·exact ⟨52, by decide, rfl, rfl⟩
 ·exact ⟨53, by decide, rfl, rfl⟩
 ·exact ⟨54, by decide, rfl, rfl⟩
 ·exact ⟨55, by decide, rfl, rfl⟩
 ·exact ⟨56, by decide, rfl, rfl⟩
 ·exact ⟨57, by decide, rfl, rfl⟩
theorem digS_size (n : Nat) (h : n < 10) : (digS n).size = 1 := by
 obtain ⟨b, _, e, _⟩ := digS_cases n h
 rw [e]
 rfl
theorem itoa_eq (n : Nat) (h : n < 10) : strconv_Itoa.f (n : Int) = some (digS n) := by
 obtain ⟨b, _, e, e2⟩ := digS_cases n h
 unfold strconv_Itoa.f
 rw [if_pos ⟨by omega, by omega⟩, Int.toNat_natCast, e, e2]
theorem number_ev (n : Nat) (h : n < 10) : Ev (fun k => spec_number.f k (n : Int)) (digS n) := by
 refine Ev.step (fun k => rfl) (Ev.iteT (by omega) (Ev.iteT (by omega) (Ev.iteT (by rw [wrapN (by omega)]; omega) (Ev.iteT (by rw [wrapN (by omega)]; omega) (Ev.some_ ?_)))))
 rw [wrapN (by omega), Int.toNat_natCast, Int.toNat_natCast]
 rfl
def cntV (l : List S30) (oc : Int) : Nat := l.countP fun q => decide (q.f1 = oc)
theorem cntV_le (l : List S30) (oc : Int) : cntV l oc ≤ l.length := List.countP_le_length
theorem implCnt_loop (l : List S30) (oc : Int) (hl : l.length ≤ 4194304) : ∀ (t : List S30) (i n : Nat), l.drop i = t → i ≤ l.length → n ≤ i → Ev (fun k => impl_CountOutcome.l0 k oc (n : Int) l (l.length : Int) (i : Int)) ((n + cntV t oc : Nat) : Int) := by
 intro t
 induction t with
 | nil =>
  intro i n h hi hn
  have hl2 := drop_nil h
  exact Ev.step (fun k => rfl) (Ev.iteF (by omega) (Ev.some_ (by simp [cntV])))
 | cons b t ih =>
  intro i n h hi hn
  obtain ⟨hl2, hb, ht⟩ := drop_cons h
  refine Ev.step (fun k => rfl) (Ev.iteT (by omega) (Ev.iteT (by omega) (Ev.iteT (by omega) ?_)))
  rw [rdRes_nat _ _ hl2, hb, wrapN (i := i) (by omega), wrapN (i := n) (by omega)]
  by_cases c : b.f1 = oc
  ·have := ih (i + 1) (n + 1) ht (by omega) (by omega)
   rw [show n + 1 + cntV t oc = n + cntV (b :: t) oc by unfold cntV; rw [List.countP_cons_of_pos (by simp [c])]; omega] at this
   exact Ev.iteT c this
  ·have := ih (i + 1) n ht (by omega) (by omega)
   rw [show n + cntV t oc = n + cntV (b :: t) oc by unfold cntV; rw [List.countP_cons_of_neg (by simp [c])]] at this
   exact Ev.iteF c this
theorem implCnt_ev (l : List S30) (ds : List ByteArray) (oc : Int) (hl : l.length ≤ 4194304) : Ev (fun k => impl_CountOutcome.f k l ds oc) ((cntV l oc : Nat) : Int) := by
 have h := implCnt_loop l oc hl l 0 0 rfl (Nat.zero_le _) (Nat.le_refl _)
 rw [Nat.zero_add] at h
 exact h
theorem specCnt_loop (l : List S30) (ds : List ByteArray) (oc : Int) (hl : l.length ≤ 4194304) : ∀ (t : List S30) (i n : Nat), l.drop i = t → i ≤ l.length → n ≤ i → Ev (fun k => spec_CountOutcome.l0 k oc (n : Int) (i : Int) l ds) ((n + cntV t oc : Nat) : Int) := by
 intro t
 induction t with
 | nil =>
  intro i n h hi hn
  have hl2 := drop_nil h
  exact Ev.step (fun k => rfl) (Ev.iteF (by omega) (Ev.some_ (by simp [cntV])))
 | cons b t ih =>
  intro i n h hi hn
  obtain ⟨hl2, hb, ht⟩ := drop_cons h
  refine Ev.step (fun k => rfl) (Ev.iteT (by omega) (Ev.iteT (by omega) ?_))
  rw [rdRes_nat _ _ hl2, hb, wrapN (i := i) (by omega), wrapN (i := n) (by omega)]
  by_cases c : b.f1 = oc
  ·have := ih (i + 1) (n + 1) ht (by omega) (by omega)
   rw [show n + 1 + cntV t oc = n + cntV (b :: t) oc by unfold cntV; rw [List.countP_cons_of_pos (by simp [c])]; omega] at this
   exact Ev.iteT c this
  ·have := ih (i + 1) n ht (by omega) (by omega)
   rw [show n + cntV t oc = n + cntV (b :: t) oc by unfold cntV; rw [List.countP_cons_of_neg (by simp [c])]] at this
   exact Ev.iteF c this
theorem specCnt_ev (l : List S30) (ds : List ByteArray) (oc : Int) (hl : l.length ≤ 4194304) : Ev (fun k => spec_CountOutcome.f k l ds oc) ((cntV l oc : Nat) : Int) := by
 have h := specCnt_loop l ds oc hl l 0 0 rfl (Nat.zero_le _) (Nat.le_refl _)
 rw [Nat.zero_add] at h
 exact h
def glueS (sep : ByteArray) (a y : ByteArray) : ByteArray := (a ++ sep) ++ y
def joinB (sep : ByteArray) : List ByteArray → ByteArray
 | [] => ⟨#[]⟩
 | x :: r => r.foldl (glueS sep) (⟨#[]⟩ ++ x)
theorem data_app (a b : ByteArray) : (a ++ b).data.toList = a.data.toList ++ b.data.toList := by rw [ByteArray.data_append, Array.toList_append]
theorem foldl_data (sep : ByteArray) : ∀ (r : List ByteArray) (a : ByteArray), (r.foldl (glueS sep) a).data.toList = a.data.toList ++ Lib.joinTail sep.data.toList (r.map fun x => x.data.toList)
 | [], a => by simp [Lib.joinTail]
 | y :: r, a => by
  rw [List.foldl_cons, foldl_data sep r, glueS, data_app, data_app]
  simp [Lib.joinTail, List.append_assoc]
theorem joinB_data (sep : ByteArray) (l : List ByteArray) : (joinB sep l).data.toList = Lib.join (l.map fun x => x.data.toList) sep.data.toList := by
 cases l with
 | nil => rfl
 | cons x r =>
  rw [joinB, foldl_data, data_app, List.map_cons, Lib.join_cons]
  rfl
theorem joinB_eq (sep : ByteArray) (l : List ByteArray) : (⟨(Lib.join (l.map fun x => x.data.toList) sep.data.toList).toArray⟩ : ByteArray) = joinB sep l := by
 rw [← joinB_data]
theorem lens_le (c : Nat) : ∀ l : List (List UInt8), (∀ x ∈ l, x.length ≤ c) → Lib.lens l ≤ c * l.length
 | [], _ => by simp [Lib.lens]
 | x :: t, h => by
  have h1 := h x (by simp)
  have h2 := lens_le c t (fun y hy => h y (by simp [hy]))
  simp only [Lib.lens, List.map_cons, List.sum_cons, List.length_cons, Nat.mul_succ] at h2 ⊢
  omega
theorem join_some (sep : ByteArray) (l : List ByteArray) (hs : sep.size ≤ 10) (hl : l.length ≤ 100) (hz : ∀ x ∈ l, x.size ≤ 100) : strings_Join.f l sep = some (joinB sep l) := by
 unfold strings_Join.f
 have hlen : (Lib.join (l.map fun x => x.data.toList) sep.data.toList).length ≤ 140737488355328 := by
  cases l with
  | nil => simp [Lib.join_nil]
  | cons x r =>
   rw [List.map_cons, Lib.join_length]
   have h1 := lens_le 100 ((x :: r).map fun x => x.data.toList) (fun y hy => by
    obtain ⟨q, hq, rfl⟩ := List.mem_map.1 hy
    rw [size_list]
    exact hz q hq)
   rw [List.length_map, List.map_cons] at h1
   rw [size_list, List.length_map]
   have h3 : sep.size * r.length ≤ 10 * r.length := Nat.mul_le_mul_right _ hs
   simp only [List.length_cons] at hl h1
   omega
 rw [if_pos ⟨by omega, hlen⟩, joinB_eq]
theorem glueS_size (sep a y : ByteArray) : (glueS sep a y).size = a.size + sep.size + y.size := by rw [glueS, ByteArray.size_append, ByteArray.size_append]
theorem joinWith_loop (sep : ByteArray) (l : List ByteArray) (hs : sep.size ≤ 10) (hl : l.length ≤ 100) (hz : ∀ x ∈ l, x.size ≤ 100) : ∀ (t : List ByteArray) (i : Nat) (a : ByteArray), l.drop i = t → 1 ≤ i → a.size ≤ 200 * i → Ev (fun k => spec_joinWith.l0 k l sep a (i : Int)) (t.foldl (glueS sep) a) := by
 intro t
 induction t with
 | nil =>
  intro i a h hi ha
  have hl2 := drop_nil h
  exact Ev.step (fun k => rfl) (Ev.iteF (by omega) (Ev.some_ rfl))
 | cons b t ih =>
  intro i a h hi ha
  obtain ⟨hl2, hb, ht⟩ := drop_cons h
  have hb2 := hz b (hb ▸ List.getElem_mem hl2)
  have hg := glueS_size sep a b
  refine Ev.step (fun k => rfl) (Ev.iteT (by omega) (Ev.iteT (by omega) (Ev.iteT (by omega) (Ev.iteT (by omega) ?_))))
  rw [rdOf_nat _ _ _ hl2, hb, wrapN (by omega)]
  exact Ev.iteT (by omega) (ih (i + 1) (glueS sep a b) ht (by omega) (by omega))
theorem joinWith_ev (sep : ByteArray) (l : List ByteArray) (hs : sep.size ≤ 10) (hl : l.length ≤ 100) (hz : ∀ x ∈ l, x.size ≤ 100) : Ev (fun k => spec_joinWith.f k l sep) (joinB sep l) := by
 unfold spec_joinWith.f
 cases l with
 | nil => exact Ev.step (fun k => rfl) (Ev.iteF (by simp) (Ev.some_ rfl))
 | cons x r =>
  have hx := hz x (by simp)
  have e0 : (⟨#[]⟩ : ByteArray).size = 0 := rfl
  have hsz : ((⟨#[]⟩ : ByteArray) ++ x).size = x.size := by rw [ByteArray.size_append, e0, Nat.zero_add]
  have er : rdOf ByteArray.empty (x :: r) ((0 : Nat) : Int) = x := rdOf_nat _ _ 0 (by simp)
  refine Ev.step (fun k => rfl) (Ev.iteT (by simp) (Ev.iteF (by omega) (Ev.iteT (by omega) ?_)))
  change Ev (fun k => if (⟨#[]⟩ : ByteArray).size + (rdOf ByteArray.empty (x :: r) ((0 : Nat) : Int)).size ≤ 9223372036854775807 then spec_joinWith.l0 k (x :: r) sep ((⟨#[]⟩ : ByteArray) ++ (rdOf ByteArray.empty (x :: r) ((0 : Nat) : Int))) (wrap64 (((0 : Nat) : Int) + 1)) else none) _
  rw [er, wrapN (by omega)]
  exact Ev.iteT (by omega) (joinWith_loop sep (x :: r) hs hl hz r 1 _ rfl (Nat.le_refl _) (by omega))
def wordsL : List ByteArray := [(⟨#[112, 97, 115, 115]⟩ : ByteArray), (⟨#[102, 97, 105, 108]⟩ : ByteArray), (⟨#[101, 114, 114, 111, 114]⟩ : ByteArray), (⟨#[115, 107, 105, 112]⟩ : ByteArray), (⟨#[120, 102, 97, 105, 108]⟩ : ByteArray), (⟨#[120, 112, 97, 115, 115]⟩ : ByteArray)]
theorem wordsL_size : ∀ x ∈ wordsL, x.size ≤ 10 := by
 intro x hx
 simp only [wordsL, List.mem_cons, List.not_mem_nil, or_false] at hx
 rcases hx with rfl | rfl | rfl | rfl | rfl | rfl <;> (show _ ≤ 10; decide)
def partF (l : List S30) : List ByteArray → Nat → List ByteArray
 | [], _ => []
 | w :: t, i => if 0 < cntV l (i : Int) then ((digS (cntV l (i : Int)) ++ (⟨#[32]⟩ : ByteArray)) ++ w) :: partF l t (i + 1) else partF l t (i + 1)
def downF (ds : List ByteArray) : List ByteArray := if 0 < ds.length then [digS ds.length ++ (⟨#[32, 100, 111, 119, 110]⟩ : ByteArray)] else []
def finF (p : List ByteArray) : ByteArray := if p = [] then (⟨#[110, 111, 116, 104, 105, 110, 103]⟩ : ByteArray) else joinB (⟨#[44, 32]⟩ : ByteArray) p
def summV (l : List S30) (ds : List ByteArray) : ByteArray := finF (partF l wordsL 0 ++ downF ds)
theorem size32 : (⟨#[32]⟩ : ByteArray).size = 1 := rfl
theorem sizeDown : (⟨#[32, 100, 111, 119, 110]⟩ : ByteArray).size = 5 := rfl
theorem finF_impl (p : List ByteArray) (hp : p.length ≤ 100) (hz : ∀ x ∈ p, x.size ≤ 100) : Ev (fun _ => if (p.length : Int) = 0 then some (⟨#[110, 111, 116, 104, 105, 110, 103]⟩ : ByteArray) else (strings_Join.f p (⟨#[44, 32]⟩ : ByteArray)).bind fun t209 => some t209) (finF p) := by
 unfold finF
 by_cases c : p = []
 ·rw [if_pos c]
  subst c
  exact Ev.iteT rfl (Ev.some_ rfl)
 ·rw [if_neg c]
  have hc : ¬ (p.length : Int) = 0 := fun e => c (List.eq_nil_of_length_eq_zero (by omega))
  exact Ev.iteF hc (Ev.bind0 (join_some (⟨#[44, 32]⟩ : ByteArray) p (by show 2 ≤ 10; decide) hp hz) (Ev.some_ rfl))
theorem finF_spec (p : List ByteArray) (hp : p.length ≤ 100) (hz : ∀ x ∈ p, x.size ≤ 100) : Ev (fun k => if (p.length : Int) = 0 then some (⟨#[110, 111, 116, 104, 105, 110, 103]⟩ : ByteArray) else (spec_joinWith.f k p (⟨#[44, 32]⟩ : ByteArray)).bind fun t209 => some t209) (finF p) := by
 unfold finF
 by_cases c : p = []
 ·rw [if_pos c]
  subst c
  exact Ev.iteT rfl (Ev.some_ rfl)
 ·rw [if_neg c]
  have hc : ¬ (p.length : Int) = 0 := fun e => c (List.eq_nil_of_length_eq_zero (by omega))
  exact Ev.iteF hc (Ev.bind (joinWith_ev (⟨#[44, 32]⟩ : ByteArray) p (by show 2 ≤ 10; decide) hp hz) (Ev.some_ rfl))
theorem down_size (ds : List ByteArray) (h : ds.length ≤ 9) : (digS ds.length ++ (⟨#[32, 100, 111, 119, 110]⟩ : ByteArray)).size ≤ 100 := by
 rw [ByteArray.size_append, digS_size _ (by omega), sizeDown]
 omega
theorem implSumm_loop (l : List S30) (hl : l.length ≤ 9) (ds : List ByteArray) (hd : ds.length ≤ 9) (ws : List ByteArray) (hw : ws.length ≤ 10) (hw2 : ∀ x ∈ ws, x.size ≤ 10) : ∀ (t : List ByteArray) (i : Nat) (a : List ByteArray), ws.drop i = t → i ≤ ws.length → a.length ≤ i → (∀ x ∈ a, x.size ≤ 100) →
  Ev (fun k => impl_SummaryText.l0 k a ws (ws.length : Int) (i : Int) l ds) (finF ((a ++ partF l t i) ++ downF ds)) := by
 intro t
 induction t with
 | nil =>
  intro i a h hi ha hz
  have hl2 := drop_nil h
  rw [partF, List.append_nil]
  refine Ev.step (fun k => rfl) (Ev.iteF (by omega) ?_)
  by_cases c : 0 < ds.length
  ·have hds := down_size ds hd
   have hf := finF_impl (a ++ downF ds) (by unfold downF; rw [if_pos c]; simp; omega) (fun x hx => by
    unfold downF at hx
    rw [if_pos c] at hx
    rcases List.mem_append.1 hx with hx | hx
    ·exact hz x hx
    ·rw [List.mem_singleton.1 hx]; exact hds)
   unfold downF at hf ⊢
   rw [if_pos c] at hf ⊢
   exact Ev.iteT (by omega) (Ev.bind0 (itoa_eq ds.length (by omega)) (Ev.iteT (by rw [digS_size _ (by omega)]; omega) (Ev.iteT (by omega) (Ev.bind0 rfl hf))))
  ·have hf := finF_impl a (by omega) hz
   unfold downF
   rw [if_neg c, List.append_nil]
   exact Ev.iteF (by omega) hf
 | cons b t ih =>
  intro i a h hi ha hz
  obtain ⟨hl2, hb, ht⟩ := drop_cons h
  have hb2 := hw2 b (hb ▸ List.getElem_mem hl2)
  have hcn := cntV_le l (i : Int)
  refine Ev.step (fun k => rfl) (Ev.iteT (by omega) (Ev.iteT (by omega) (Ev.iteT (by omega) (Ev.bind (implCnt_ev l ds (i : Int) (by omega)) ?_))))
  rw [rdOf_nat _ _ _ hl2, hb, wrapN (by omega), partF]
  by_cases c : 0 < cntV l (i : Int)
  ·rw [if_pos c]
   have hns := digS_size (cntV l (i : Int)) (by omega)
   have := ih (i + 1) (a ++ [(digS (cntV l (i : Int)) ++ (⟨#[32]⟩ : ByteArray)) ++ b]) ht (by omega) (by simp; omega) (fun x hx => by
    rcases List.mem_append.1 hx with hx | hx
    ·exact hz x hx
    ·rw [List.mem_singleton.1 hx, ByteArray.size_append, ByteArray.size_append, hns, size32]; omega)
   rw [List.append_assoc a, List.singleton_append] at this
   exact Ev.iteT (by omega) (Ev.bind0 (itoa_eq (cntV l (i : Int)) (by omega)) (Ev.iteT (by rw [hns]; omega) (Ev.iteT (by rw [hns]; omega) (Ev.iteT (by omega) this))))
  ·rw [if_neg c]
   exact Ev.iteF (by omega) (ih (i + 1) a ht (by omega) (by omega) hz)
theorem implSumm_ev (l : List S30) (hl : l.length ≤ 9) (ds : List ByteArray) (hd : ds.length ≤ 9) : Ev (fun k => impl_SummaryText.f k l ds) (summV l ds) := by
 have h := implSumm_loop l hl ds hd wordsL (by simp [wordsL]) wordsL_size wordsL 0 [] rfl (Nat.zero_le _) (Nat.le_refl _) (fun x hx => by cases hx)
 rw [List.nil_append] at h
 exact Ev.bind0 (show impl_outcomeWords.f = some wordsL from rfl) h
theorem specSumm_loop (l : List S30) (hl : l.length ≤ 9) (ds : List ByteArray) (hd : ds.length ≤ 9) : ∀ (t : List ByteArray) (i : Nat) (a : List ByteArray), wordsL.drop i = t → i ≤ 6 → a.length ≤ i → (∀ x ∈ a, x.size ≤ 100) →
  Ev (fun k => spec_SummaryText.l0 k a (i : Int) l ds) (finF ((a ++ partF l t i) ++ downF ds)) := by
 have h6 : wordsL.length = 6 := rfl
 intro t
 induction t with
 | nil =>
  intro i a h hi ha hz
  have hl2 := drop_nil h
  rw [partF, List.append_nil]
  refine Ev.step (fun k => rfl) (Ev.iteF (by omega) ?_)
  by_cases c : 0 < ds.length
  ·have hds := down_size ds hd
   have hf := finF_spec (a ++ downF ds) (by unfold downF; rw [if_pos c]; simp; omega) (fun x hx => by
    unfold downF at hx
    rw [if_pos c] at hx
    rcases List.mem_append.1 hx with hx | hx
    ·exact hz x hx
    ·rw [List.mem_singleton.1 hx]; exact hds)
   unfold downF at hf ⊢
   rw [if_pos c] at hf ⊢
   exact Ev.iteT (by omega) (Ev.bind (number_ev ds.length (by omega)) (Ev.iteT (by rw [digS_size _ (by omega)]; omega) (Ev.iteT (by omega) (Ev.bind0 rfl hf))))
  ·have hf := finF_spec a (by omega) hz
   unfold downF
   rw [if_neg c, List.append_nil]
   exact Ev.iteF (by omega) hf
 | cons b t ih =>
  intro i a h hi ha hz
  obtain ⟨hl2, hb, ht⟩ := drop_cons h
  have hb2 := wordsL_size b (hb ▸ List.getElem_mem hl2)
  have hcn := cntV_le l (i : Int)
  refine Ev.step (fun k => rfl) (Ev.iteT (by omega) (Ev.bind (specCnt_ev l ds (i : Int) (by omega)) ?_))
  rw [wrapN (by omega), partF]
  by_cases c : 0 < cntV l (i : Int)
  ·rw [if_pos c]
   have hns := digS_size (cntV l (i : Int)) (by omega)
   have := ih (i + 1) (a ++ [(digS (cntV l (i : Int)) ++ (⟨#[32]⟩ : ByteArray)) ++ b]) ht (by omega) (by simp; omega) (fun x hx => by
    rcases List.mem_append.1 hx with hx | hx
    ·exact hz x hx
    ·rw [List.mem_singleton.1 hx, ByteArray.size_append, ByteArray.size_append, hns, size32]; omega)
   rw [List.append_assoc a, List.singleton_append] at this
   have hr : rdOf ByteArray.empty wordsL (i : Int) = b := by rw [rdOf_nat _ _ _ hl2, hb]
   refine Ev.iteT (by omega) (Ev.bind (number_ev (cntV l (i : Int)) (by omega)) (Ev.iteT (by rw [hns]; omega) (Ev.bind0 (show spec_outcomeWords.f = some wordsL from rfl) (Ev.iteT (by omega) (Ev.iteT (by omega) ?_)))))
   rw [hr]
   exact Ev.iteT (by rw [hns]; omega) (Ev.iteT (by omega) this)
  ·rw [if_neg c]
   exact Ev.iteF (by omega) (ih (i + 1) a ht (by omega) (by omega) hz)
theorem specSumm_ev (l : List S30) (hl : l.length ≤ 9) (ds : List ByteArray) (hd : ds.length ≤ 9) : Ev (fun k => spec_SummaryText.f k l ds) (summV l ds) := by
 have h := specSumm_loop l hl ds hd wordsL 0 [] rfl (by omega) (Nat.le_refl _) (fun x hx => by cases hx)
 rw [List.nil_append] at h
 exact h
def okN (l : List S30) : Nat := l.countP fun q => decide (0 ≤ q.f1) && decide (q.f1 ≤ 5)
theorem partF_nil (l : List S30) : ∀ (t : List ByteArray) (i : Nat), partF l t i = [] ↔ ∀ j, j < t.length → cntV l ((i + j : Nat) : Int) = 0
 | [], i => by simp [partF]
 | w :: t, i => by
  have ih := partF_nil l t (i + 1)
  rw [partF]
  by_cases c : 0 < cntV l (i : Int)
  ·rw [if_pos c]
   constructor
   ·intro h; cases h
   ·intro h
    have := h 0 (by simp)
    rw [Nat.add_zero] at this
    omega
  ·rw [if_neg c, ih]
   constructor
   ·intro h j hj
    cases j with
    | zero => rw [Nat.add_zero]; omega
    | succ j =>
     have := h j (by simpa using hj)
     rw [show i + (j + 1) = i + 1 + j by omega]
     exact this
   ·intro h j hj
    have := h (j + 1) (by simpa using hj)
    rw [show i + (j + 1) = i + 1 + j by omega] at this
    exact this
theorem okN_zero (l : List S30) : okN l = 0 ↔ partF l wordsL 0 = [] := by
 rw [partF_nil]
 unfold okN cntV
 rw [List.countP_eq_zero]
 constructor
 ·intro h j hj
  rw [List.countP_eq_zero]
  intro q hq e
  have hj2 : j < 6 := hj
  have := h q hq
  simp only [decide_eq_true_eq] at e
  simp only [Bool.and_eq_true, decide_eq_true_eq] at this
  omega
 ·intro h q hq e
  simp only [Bool.and_eq_true, decide_eq_true_eq] at e
  have := h q.f1.toNat (show q.f1.toNat < 6 by omega)
  rw [List.countP_eq_zero] at this
  refine this q hq ?_
  simp only [decide_eq_true_eq]
  omega
def digit1 (x : ByteArray) : Prop := ∃ b t, x.data.toList = b :: t ∧ b ≠ 110
theorem digit1_num (n : Nat) (h : n < 10) (y : ByteArray) : digit1 (digS n ++ y) := by
 obtain ⟨b, hb, e, _⟩ := digS_cases n h
 exact ⟨b, y.data.toList, by rw [data_app, e]; rfl, hb⟩
theorem partF_digit (l : List S30) (hl : l.length ≤ 9) : ∀ (t : List ByteArray) (i : Nat), ∀ x ∈ partF l t i, digit1 x
 | [], i, x, hx => by simp [partF] at hx
 | w :: t, i, x, hx => by
  have hcn := cntV_le l (i : Int)
  rw [partF] at hx
  split at hx
  ·rcases List.mem_cons.1 hx with rfl | hx
   ·obtain ⟨b, hb, e, _⟩ := digS_cases (cntV l (i : Int)) (by omega)
    exact ⟨b, (⟨#[32]⟩ : ByteArray).data.toList ++ w.data.toList, by rw [data_app, data_app, e]; rfl, hb⟩
   ·exact partF_digit l hl t (i + 1) x hx
  ·exact partF_digit l hl t (i + 1) x hx
theorem summ_nothing (l : List S30) (hl : l.length ≤ 9) (ds : List ByteArray) (hd : ds.length ≤ 9) : ((summV l ds).toList == ([110, 111, 116, 104, 105, 110, 103] : List UInt8)) = (decide (okN l = 0) && decide (ds.length = 0)) := by
 unfold summV finF
 by_cases c : partF l wordsL 0 ++ downF ds = []
 ·rw [if_pos c]
  have c1 := (List.append_eq_nil_iff.1 c).1
  have c2 := (List.append_eq_nil_iff.1 c).2
  have c3 : ds.length = 0 := by
   unfold downF at c2
   split at c2
   ·cases c2
   ·omega
  rw [decide_eq_true ((okN_zero l).2 c1), decide_eq_true c3]
  rw [Lib.toList_data]
  rfl
 ·rw [if_neg c]
  have hr : (decide (okN l = 0) && decide (ds.length = 0)) = false := by
   rw [Bool.and_eq_false_iff, decide_eq_false_iff_not, decide_eq_false_iff_not]
   by_cases h1 : okN l = 0
   ·refine .inr (fun h2 => c ?_)
    rw [(okN_zero l).1 h1]
    unfold downF
    rw [if_neg (by omega)]
    rfl
   ·exact .inl h1
  rw [hr, beq_eq_false_iff_ne]
  intro e
  rw [Lib.toList_data] at e
  have hdig : ∀ x ∈ partF l wordsL 0 ++ downF ds, digit1 x := by
   intro x hx
   rcases List.mem_append.1 hx with hx | hx
   ·exact partF_digit l hl wordsL 0 x hx
   ·unfold downF at hx
    split at hx
    ·rw [List.mem_singleton.1 hx]; exact digit1_num _ (by omega) _
    ·cases hx
  generalize partF l wordsL 0 ++ downF ds = p at c e hdig
  cases p with
  | nil => exact c rfl
  | cons x r =>
   obtain ⟨b, t, hb, hne⟩ := hdig x (by simp)
   rw [joinB_data, List.map_cons, Lib.join_cons, hb, List.cons_append] at e
   exact hne (List.cons.inj e).1
theorem cntV_reverse (l : List S30) (oc : Int) : cntV l.reverse oc = cntV l oc := by
 unfold cntV
 exact List.countP_reverse
theorem partF_reverse (l : List S30) : ∀ (t : List ByteArray) (i : Nat), partF l.reverse t i = partF l t i
 | [], i => rfl
 | w :: t, i => by rw [partF, partF, cntV_reverse, partF_reverse l t (i + 1)]
theorem summV_reverse (l : List S30) (ds : List ByteArray) : summV l.reverse ds = summV l ds := by
 unfold summV
 rw [partF_reverse]
theorem summLaw_loop (l : List S30) (hl : l.length ≤ 9) (ds : List ByteArray) (hd : ds.length ≤ 9) : ∀ (i : Nat), i ≤ l.length → Ev (fun k => laws_FnSummaryText.l0 k (summV l ds) ((okN (l.drop i) : Nat) : Int) ((i : Int) - 1) l ds (l.drop i).reverse ds) true := by
 intro i
 induction i with
 | zero =>
  intro _
  rw [List.drop_zero]
  refine Ev.step (fun k => rfl) (Ev.iteF (by omega) ?_)
  have h := implSumm_ev l.reverse (by rw [List.length_reverse]; exact hl) ds hd
  rw [summV_reverse] at h
  have hn := summ_nothing l hl ds hd
  refine Ev.bind h (Ev.iteT rfl ?_)
  rw [hn]
  by_cases c : okN l = 0
  ·refine Ev.iteT (by omega) (Ev.some_ ?_)
   rw [decide_eq_true c, Bool.true_and]
   by_cases d : ds.length = 0
   ·rw [decide_eq_true d, d]; rfl
   ·rw [decide_eq_false d, beq_eq_false_iff_ne.2 (show (ds.length : Int) ≠ 0 by omega)]; rfl
  ·refine Ev.iteF (by omega) (Ev.some_ ?_)
   rw [decide_eq_false c]
   rfl
 | succ i ih =>
  intro hi
  have hi2 : i < l.length := by omega
  have e1 : (((i + 1 : Nat) : Int) - 1) = (i : Int) := by omega
  have hdrop : l.drop i = l[i] :: l.drop (i + 1) := List.drop_eq_getElem_cons hi2
  have hrev : (l.drop i).reverse = (l.drop (i + 1)).reverse ++ [l[i]] := by rw [hdrop, List.reverse_cons]
  have hih := ih (by omega)
  rw [e1]
  refine Ev.step (fun k => rfl) (Ev.iteT (by omega) (Ev.iteT (by omega) (Ev.iteT (by omega) (Ev.iteT (by rw [List.length_reverse, List.length_drop]; omega) (Ev.bind0 rfl ?_)))))
  rw [rdRes_nat _ _ hi2]
  have ew : wrap64 ((i : Int) - 1) = (i : Int) - 1 := wrapI (by omega)
  have hle : okN (l.drop (i + 1)) ≤ l.length := by
   have h1 : okN (l.drop (i + 1)) ≤ (l.drop (i + 1)).length := List.countP_le_length
   rw [List.length_drop] at h1
   omega
  rw [ew]
  rw [hrev] at hih
  by_cases c1 : l[i].f1 ≥ 0
  ·by_cases c2 : l[i].f1 ≤ 5
   ·have e2 : okN (l.drop i) = okN (l.drop (i + 1)) + 1 := by
     unfold okN
     rw [hdrop, List.countP_cons_of_pos (by simp only [Bool.and_eq_true, decide_eq_true_eq]; omega)]
    rw [e2] at hih
    rw [wrapN (by omega)]
    exact Ev.iteT c1 (Ev.iteT c2 hih)
   ·have e2 : okN (l.drop i) = okN (l.drop (i + 1)) := by
     unfold okN
     rw [hdrop, List.countP_cons_of_neg (by simp only [Bool.and_eq_true, decide_eq_true_eq]; omega)]
    rw [e2] at hih
    exact Ev.iteT c1 (Ev.iteF c2 hih)
  ·have e2 : okN (l.drop i) = okN (l.drop (i + 1)) := by
    unfold okN
    rw [hdrop, List.countP_cons_of_neg (by simp only [Bool.and_eq_true, decide_eq_true_eq]; omega)]
   rw [e2] at hih
   exact Ev.iteF c1 hih
theorem drawSumm_ev (c : List Int) (h : ∀ x ∈ c, 0 ≤ x ∧ x ≤ 255) : ∃ rs ds, Ev (fun k => spec_DrawSummaryText.f k c) (rs, ds) ∧ SmallRes rs ∧ SmallTexts ds := by
 obtain ⟨b, hb, hb2⟩ := newReader_ev c h
 obtain ⟨rs, ds, p, hr, h1, h2, _, _⟩ := someReport_ev hb2 0 (by omega) (by omega)
 exact ⟨rs, ds, Ev.bind0 hb (Ev.bind hr (Ev.some_ rfl)), h1, h2⟩
end Go.Proofs.YtieghkchhjailaaDoor.Z
