-- WRITTEN by this session's wip/ext.py (the kit's printer, with contracts of this session's own in it): Lean checks it.
import Derived.Test.YtphjcoondlhefaaQx0
namespace Go.Proofs.Ytphjcoondlhefaa.Q
open Go.RowKit Go.Proofs.YtphjcoondlhefaaW.PrintWords Go.Proofs.YtphjcoondlhefaaW.PrintLast Go.Proofs.YtphjcoondlhefaaW.PrintMore
attribute [local go_sem] max2_int min2_int max_two min_two max_three min_three max_four min_four   -- for this text's walks alone
set_option linter.unusedVariables false
set_option linter.unusedSimpArgs false

/-! ### impl_pastAt: function 71 -/
/-- The closure of pastAt: is this the id that it captured? -/
theorem impl_pastAt.lit (x : S54) (b : Nat) (id : ByteArray) (w : World) (hb : w.cell? ⟨b, 0, none⟩ = some (.string id)) :
    Calls Try.prog 85 #[.agg #[.string x.f0, .bool x.f1, .int .i64 x.f2], .pointer (some ⟨b, 0, none⟩)] w fun e w' => e = .returned (.bool (x.f0.toList == id.toList)) ∧ Below w.heap.size w w' := by
  have hB : b < w.heap.size := World.block_lt_of_cell? w _ hb
  have hne : b ≠ w.heap.size := Nat.ne_of_lt hB
  go_enter Try.func85, Try.ntmps85
  go_wp2
  go_ret
  exact ⟨rfl, (Below.refl _ _).alloc (Nat.le_refl _) _⟩
/-- Where an id first stands in what is known, from place i on; -1 if nowhere. -/
def impl_pastAt.find (id : ByteArray) : List S54 → Nat → Int
  | [], _ => -1
  | x :: t, i => if x.f0.toList = id.toList then (i : Int) else impl_pastAt.find id t (i + 1)
set_option maxHeartbeats 2000000 in
set_option maxRecDepth 100000 in
/-- slices.IndexFunc with that closure. -/
theorem impl_pastAt.index (A0 : Option Addr) (c0 : Nat) (l0 : List S54) (b : Nat) (id : ByteArray) (w : World) (hr0 : Kd.C k54 w A0 l0.length l0) (hb : w.cell? ⟨b, 0, none⟩ = some (.string id)) :
    Calls Try.prog 84 #[.slice A0 l0.length c0, .func (.func 85) #[] #[.pointer (some ⟨b, 0, none⟩)]] w fun e w' => e = .returned (.int .i64 (impl_pastAt.find id l0 0)) ∧ Below w.heap.size w w' := by
  have HR := Aside0.mk hr0
  have HBX := Aside0.mk hb
  have hmax : (l0.length : Int) ≤ 9223372036854775807 := by have := hr0.2.1; omega
  clear hr0 hb
  go_enter Try.func84, Try.ntmps84
  go_wp2
  go_loopg [5, 8] l0.length (fun gg _ s8 wr => ∃ kk : Nat, kk ≤ l0.length ∧ l0.length - kk ≤ gg ∧ s8 = .int .i64 kk ∧ Aside0 (Below w.heap.size w wr) ∧ Aside0 (impl_pastAt.find id (l0.drop kk) kk = impl_pastAt.find id l0 0))
  case atStart => exact ⟨0, Nat.zero_le _, by omega, rfl, ⟨Below.refl _ w⟩, ⟨rfl⟩⟩
  case round =>
    obtain ⟨kk, hkk, hg, rfl, BW, HF⟩ := hrel
    by_cases hlt : kk < l0.length
    · have hltz : (kk : Int) < (l0.length : Int) := by omega
      have h0z : (0 : Int) ≤ (kk : Int) := by omega
      obtain ⟨ad, e, hx0, hx1, hx2⟩ := at_T54 (Kd.C_below HR.out BW.out) (kk : Int) h0z hltz
      cases e
      rw [Int.toNat_natCast] at hx0 hx1 hx2
      have hd : l0.drop kk = rd_T54 l0 (kk : Int) :: l0.drop (kk + 1) := by
        rw [List.drop_eq_getElem_cons hlt]
        simp [rd_T54, List.getD_eq_getElem?_getD, List.getElem?_eq_getElem hlt]
      have hf := HF.out
      rw [hd] at hf
      clear HF hd
      generalize hy : rd_T54 l0 (kk : Int) = y at hx0 hx1 hx2 hf
      clear hy
      have hcall := impl_pastAt.lit y b id wr ((BW.out.cell (p := ⟨b, 0, none⟩) (World.block_lt_of_cell? w _ HBX.out)).trans HBX.out)
      by_cases hq : y.f0.toList = id.toList
      · rw [impl_pastAt.find, if_pos hq] at hf
        have HQ := Aside0.mk hf
        clear hf
        have eq1 : (y.f0.toList == id.toList) = true := beq_iff_eq.2 hq
        rw [eq1] at hcall
        have HC := Aside0.mk hcall
        clear hcall eq1 hq
        go_wp2_with (go_at_call 85; refine HC.out.mono ?_; rintro e w' ⟨rfl, hb'⟩)
        go_ret
        exact ⟨by rw [← HQ.out]; rfl, below_step BW.out hb'⟩
      · rw [impl_pastAt.find, if_neg hq] at hf
        have HQ := Aside0.mk hf
        clear hf
        have eq1 : (y.f0.toList == id.toList) = false := beq_eq_false_iff_ne.2 hq
        rw [eq1] at hcall
        have HC := Aside0.mk hcall
        clear hcall eq1 hq
        go_wp2_with (go_at_call 85; refine HC.out.mono ?_; rintro e w' ⟨rfl, hb'⟩)
        go_roundg (l0.length - (kk + 1))
        case measure => omega
        case rel => exact ⟨kk + 1, by omega, by omega, by go_num, ⟨below_step BW.out hb'⟩, HQ⟩
    · have hltz : ¬ (kk : Int) < (l0.length : Int) := by omega
      have hf := HF.out
      rw [List.drop_of_length_le (by omega), impl_pastAt.find] at hf
      have HQ := Aside0.mk hf
      clear hf HF
      go_wp2
      go_ret
      exact ⟨by rw [← HQ.out]; rfl, BW.out⟩
theorem impl_pastAt.find_lt (id : ByteArray) : ∀ (l : List S54) (i : Nat), impl_pastAt.find id l i < (i : Int) + l.length
  | [], i => by simp [impl_pastAt.find]; omega
  | x :: t, i => by
    have := impl_pastAt.find_lt id t (i + 1)
    rw [impl_pastAt.find, List.length_cons]
    split <;> omega
def impl_pastAt.f (l0 : List (S54)) (a1 : ByteArray) : Option (Int) := some (impl_pastAt.find a1 l0 0)
set_option maxHeartbeats 2000000 in
set_option maxRecDepth 100000 in
theorem impl_pastAt.calls (A0 : Option Addr) (c0 : Nat) (l0 : List (S54)) (a1 : ByteArray) (r : Int) (w : World) (hr0 : Kd.C k54 w A0 l0.length l0) (hc0 : l0.length ≤ c0) (h : impl_pastAt.f l0 a1 = some r) :
    Calls Try.prog 71 #[.slice A0 l0.length c0, .string a1] w fun e w' => e = .returned (.int .i64 r) ∧ Below w.heap.size w w' := by
  have hi := impl_pastAt.index A0 c0 l0 w.heap.size a1 (w.alloc (.cells #[.string a1] 9)) (Kd.C_alloc hr0 _) (by simp)
  rw [Option.some.inj h] at hi
  have HI := Aside0.mk hi
  clear hi h hr0 hc0
  go_enter Try.func71, Try.ntmps71
  go_wp2_with (go_at_call 84; refine HI.out.mono ?_; rintro e w' ⟨rfl, hb'⟩)
  go_ret
  exact ⟨rfl, below_step ((Below.refl _ _).alloc (Nat.le_refl _) _) hb'⟩
theorem impl_pastAt.lt {l0 : List (S54)} {a1 : ByteArray} {r : Int} (h : impl_pastAt.f l0 a1 = some r) : r < l0.length := by
  have := impl_pastAt.find_lt a1 l0 0
  rw [Option.some.inj h] at this
  omega

end Go.Proofs.Ytphjcoondlhefaa.Q
