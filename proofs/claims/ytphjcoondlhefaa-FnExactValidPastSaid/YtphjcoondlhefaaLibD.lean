/- Plain laws, without Go: what the drawn numbers are. No condition. -/
import Derived.Test.YtphjcoondlhefaaQx2
import Derived.Test.YtphjcoondlhefaaQx3
import Derived.Test.YtphjcoondlhefaaLibA
import Derived.Laws.BitsLemmas
namespace Go.Proofs.Ytphjcoondlhefaa.Q
open Go.RowKit Go.Proofs.YtphjcoondlhefaaW.PrintWords Go.Proofs.YtphjcoondlhefaaW.PrintLast Go.Proofs.YtphjcoondlhefaaW.PrintMore

theorem xor_nat (a b : Nat) (ha : a < 2 ^ 62) (hb : b < 2 ^ 62) : bits .xor .i64 a b = ((a ^^^ b : Nat) : Int) := by
  have hk : IntKind.i64.bits = 64 := rfl
  have ha' : a % 2 ^ 64 = a := Nat.mod_eq_of_lt (by omega)
  have hb' : b % 2 ^ 64 = b := Nat.mod_eq_of_lt (by omega)
  have hx := Nat.xor_lt_two_pow ha hb
  simp only [bits, hk, BitVec.ofInt_natCast, BitVec.toNat_xor, BitVec.toNat_ofNat, ha', hb']
  rw [IntKind.wrap_i64]
  omega
theorem xor_nonneg (a b : Int) (ha : 0 ≤ a) (ha' : a < 4611686018427387904) (hb : 0 ≤ b) (hb' : b < 4611686018427387904) : 0 ≤ bits .xor .i64 a b := by
  obtain ⟨x, rfl⟩ := Int.eq_ofNat_of_zero_le ha
  obtain ⟨y, rfl⟩ := Int.eq_ofNat_of_zero_le hb
  rw [xor_nat x y (by omega) (by omega)]
  omega

/-- A code: what a reader reads. -/
structure Code_ (b : List Int) : Prop where
  len : b.length ≤ 2000
  byte : ∀ x ∈ b, 0 ≤ x ∧ x ≤ 255
theorem Code_.at_ {b : List Int} (h : Code_ b) (i : Int) (h0 : 0 ≤ i) (h1 : i < b.length) : 0 ≤ rd b i ∧ rd b i ≤ 255 := by
  obtain ⟨j, rfl⟩ := Int.eq_ofNat_of_zero_le h0
  rw [rd_nat b j (by omega)]
  exact h.byte _ (List.getElem_mem _)
theorem Code_.nil : Code_ [] := ⟨by simp, by simp⟩
theorem newReader_ev (l : List Int) (h : ∀ x ∈ l, 0 ≤ x ∧ x ≤ 255) : ∃ b, spec_newReader.f l = some (b, 0) ∧ Code_ b := by
  unfold spec_newReader.f
  by_cases h1 : (l.length : Int) > 2000
  · rw [if_pos h1, if_pos (by omega)]
    exact ⟨_, rfl, ⟨by rw [List.length_take]; omega, fun x hx => h x (List.mem_of_mem_take hx)⟩⟩
  · rw [if_neg h1]
    exact ⟨_, rfl, ⟨by omega, h⟩⟩

theorem pick_ev {b : List Int} (hb : Code_ b) (p n : Int) (h0 : 0 ≤ p) (h1 : p ≤ 1099511627776) (hn : n ≤ 1099511627776) :
    ∃ v, Ev (fun k => spec_reader_pick.f k b p n) (v, p + 1) ∧ 0 ≤ v ∧ (1 ≤ n → v < n) := by
  have w1 : wrap64 (p + 1) = p + 1 := wrapI (by omega)
  have w0 : wrap64 (p + 1 - 1) = p := by rw [wrapI (by omega)]; omega
  have hl := hb.len
  unfold spec_reader_pick.f
  rw [w1]
  by_cases c1 : n < 1
  · exact ⟨0, ⟨1, fun k hk => by obtain ⟨m, rfl⟩ : ∃ m, k = m + 1 := ⟨k - 1, by omega⟩; exact (if_pos c1).trans rfl⟩, by omega, by omega⟩
  · simp only [if_neg c1]
    by_cases c2 : b.length = 0
    · exact ⟨0, Ev.step (fun k => rfl) (Ev.iteT (by simp [c2]) (Ev.some_ rfl)), by omega, by omega⟩
    · by_cases c3 : p < (b.length : Int)
      · have ha := hb.at_ p h0 c3
        have w2 : wrap64 (rd b p) = rd b p := wrapI (by omega)
        refine ⟨Int.tmod (rd b p) n, Ev.step (fun k => rfl) (Ev.iteF (by simp only [beq_iff_eq]; omega) (Ev.iteT (by rw [w0]; exact c3) (Ev.iteT (by rw [w0]; exact h0) (Ev.iteF (by omega) (Ev.some_ ?_))))), Int.tmod_nonneg _ ha.1, fun _ => Int.tmod_lt_of_pos _ (by omega)⟩
        rw [w0, w2]
      · have hL : (0 : Int) < b.length := by omega
        have t1 : 0 ≤ Int.tmod p b.length := Int.tmod_nonneg _ h0
        have t2 : Int.tmod p b.length < b.length := Int.tmod_lt_of_pos _ hL
        have w3 : wrap64 (p * 7) = p * 7 := wrapI (by omega)
        have w4 : wrap64 (p * 7 + 3) = p * 7 + 3 := wrapI (by omega)
        have t3 : 0 ≤ Int.tmod (p * 7 + 3) b.length := Int.tmod_nonneg _ (by omega)
        have t4 : Int.tmod (p * 7 + 3) b.length < b.length := Int.tmod_lt_of_pos _ hL
        have a1 := hb.at_ _ t1 t2
        have a2 := hb.at_ _ t3 t4
        have d0 : 0 ≤ Int.tdiv p b.length := Int.tdiv_nonneg h0 (by omega)
        have d1 : Int.tdiv p b.length ≤ p := by
          rw [Int.tdiv_eq_ediv_of_nonneg h0]
          exact Int.ediv_le_self _ h0
        generalize hA : rd b (Int.tmod p b.length) = A at a1
        generalize hB : rd b (Int.tmod (p * 7 + 3) b.length) = B at a2
        generalize hQ : Int.tdiv p b.length = Q at d0 d1
        have v1 : wrap64 A = A := wrapI (by omega)
        have v2 : wrap64 (A * 131) = A * 131 := wrapI (by omega)
        have v3 : wrap64 B = B := wrapI (by omega)
        have v4 : wrap64 (B * 1117) = B * 1117 := wrapI (by omega)
        have v5 : wrap64 (A * 131 + B * 1117) = A * 131 + B * 1117 := wrapI (by omega)
        have v6 : wrap64 (p * 29) = p * 29 := wrapI (by omega)
        have v7 : wrap64 (A * 131 + B * 1117 + p * 29) = A * 131 + B * 1117 + p * 29 := wrapI (by omega)
        have v8 : wrap64 Q = Q := wrapI (by omega)
        have v9 : wrap64 (Q * 53) = Q * 53 := wrapI (by omega)
        have v10 : wrap64 (A * 131 + B * 1117 + p * 29 + Q * 53) = A * 131 + B * 1117 + p * 29 + Q * 53 := wrapI (by omega)
        have x0 : 0 ≤ A * 131 + B * 1117 + p * 29 + Q * 53 := by omega
        have x1 : A * 131 + B * 1117 + p * 29 + Q * 53 < 4611686018427387904 := by omega
        generalize hX : A * 131 + B * 1117 + p * 29 + Q * 53 = X at v10 x0 x1
        have e0 : 0 ≤ Int.tdiv X 64 := Int.tdiv_nonneg x0 (by omega)
        have e1 : Int.tdiv X 64 ≤ X := by
          rw [Int.tdiv_eq_ediv_of_nonneg x0]
          exact Int.ediv_le_self _ x0
        have v11 : wrap64 (Int.tdiv X 64) = Int.tdiv X 64 := wrapI (by omega)
        have hx := xor_nonneg X (Int.tdiv X 64) x0 x1 e0 (by omega)
        refine ⟨Int.tmod (bits .xor .i64 X (Int.tdiv X 64)) n, ?_, Int.tmod_nonneg _ hx, fun _ => Int.tmod_lt_of_pos _ (by omega)⟩
        refine Ev.step (fun k => rfl) (Ev.iteF (by simp only [beq_iff_eq]; omega) (Ev.iteF (by rw [w0]; exact c3) (Ev.iteF (by omega) ?_)))
        simp only [w0, w3, w4]
        refine Ev.iteT t1 (Ev.iteT t2 (Ev.iteT t3 (Ev.iteT t4 (Ev.iteF (by omega) (Ev.some_ ?_)))))
        simp only [hA, hB, hQ, v1, v2, v3, v4, v5, v6, v7, v8, v9, hX, v10, v11]

theorem of_ev {b : List Int} (hb : Code_ b) (p : Int) (h0 : 0 ≤ p) (h1 : p ≤ 1099511627776) (l : List ByteArray) (hl : 1 ≤ l.length) (hl' : l.length ≤ 1000) :
    ∃ x, x ∈ l ∧ Ev (fun k => spec_reader_of.f k b p l) (x, p + 1) := by
  obtain ⟨v, hv, v0, v1⟩ := pick_ev hb p (l.length : Int) h0 h1 (by omega)
  have v1 := v1 (by omega)
  obtain ⟨j, rfl⟩ := Int.eq_ofNat_of_zero_le v0
  refine ⟨l[j]'(by omega), List.getElem_mem _, ?_⟩
  unfold spec_reader_of.f
  exact Ev.bind hv (Ev.iteT v0 (Ev.iteT v1 (Ev.some_ (by rw [rdOf_nat _ _ _ (by omega)]))))
theorem one_ev {b : List Int} (hb : Code_ b) (p : Int) (h0 : 0 ≤ p) (h1 : p ≤ 1099511627776) (l : List Int) (hl : 1 ≤ l.length) (hl' : l.length ≤ 1000) :
    ∃ x, x ∈ l ∧ Ev (fun k => spec_reader_one.f k b p l) (x, p + 1) := by
  obtain ⟨v, hv, v0, v1⟩ := pick_ev hb p (l.length : Int) h0 h1 (by omega)
  have v1 := v1 (by omega)
  obtain ⟨j, rfl⟩ := Int.eq_ofNat_of_zero_le v0
  refine ⟨l[j]'(by omega), List.getElem_mem _, ?_⟩
  unfold spec_reader_one.f
  exact Ev.bind hv (Ev.iteT v0 (Ev.iteT v1 (Ev.some_ (by rw [rd_nat _ _ (by omega)]))))
theorem aModule_ev {b : List Int} (hb : Code_ b) (p : Int) (h0 : 0 ≤ p) (h1 : p ≤ 1099511627776) :
    ∃ x, x.size = 1 ∧ Ev (fun k => spec_aModule.f k b p) (x, p + 1) := by
  obtain ⟨x, hx, he⟩ := of_ev hb p h0 h1 [(⟨#[109]⟩ : ByteArray), (⟨#[110]⟩ : ByteArray), (⟨#[109]⟩ : ByteArray), (⟨#[107]⟩ : ByteArray)] (by decide) (by decide)
  refine ⟨x, ?_, Ev.bind he (Ev.some_ rfl)⟩
  simp only [List.mem_cons, List.not_mem_nil, or_false] at hx
  rcases hx with rfl | rfl | rfl | rfl <;> rfl
theorem anId_ev {b : List Int} (hb : Code_ b) (p : Int) (h0 : 0 ≤ p) (h1 : p ≤ 1099511627775) :
    ∃ x, x.size = 3 ∧ Ev (fun k => spec_anId.f k b p) (x, p + 2) := by
  obtain ⟨m, hm, he⟩ := aModule_ev hb p h0 (by omega)
  obtain ⟨y, hy, he2⟩ := of_ev hb (p + 1) (by omega) (by omega) [(⟨#[97]⟩ : ByteArray), (⟨#[98]⟩ : ByteArray), (⟨#[99]⟩ : ByteArray), (⟨#[100]⟩ : ByteArray), (⟨#[101]⟩ : ByteArray)] (by decide) (by decide)
  have hy1 : y.size = 1 := by
    simp only [List.mem_cons, List.not_mem_nil, or_false] at hy
    rcases hy with rfl | rfl | rfl | rfl | rfl <;> rfl
  refine ⟨(m ++ ⟨#[46]⟩) ++ y, by rw [ByteArray.size_append, ByteArray.size_append, hm, hy1]; rfl, ?_⟩
  unfold spec_anId.f
  exact Ev.bind he (Ev.iteT (by show m.size + 1 ≤ _; omega) (Ev.bind he2 (Ev.iteT (by show m.size + 1 + y.size ≤ _; omega) (Ev.some_ (by simp; omega)))))

end Go.Proofs.Ytphjcoondlhefaa.Q
