-- WRITTEN by this session's wip/ext.py (the kit's printer, with contracts of this session's own in it): Lean checks it.
import Derived.Test.YtlnaejkbanpcjaaDx0
import Derived.Test.YtlnaejkbanpcjaaDx3
namespace Go.Proofs.Ytlnaejkbanpcjaa.D
open Go.RowKit Go.Proofs.YtlnaejkbanpcjaaW.PrintWords Go.Proofs.YtlnaejkbanpcjaaW.PrintLast Go.Proofs.YtlnaejkbanpcjaaW.PrintMore
attribute [local go_sem] max2_int min2_int max_two min_two max_three min_three max_four min_four   -- for this text's walks alone
set_option linter.unusedVariables false
set_option linter.unusedSimpArgs false

/-! ### impl_fails: function 39 -/
/-- What the closure of fails says of one cause. -/
def impl_fails.one (k : Nat) (ids c : List ByteArray) : Option Bool := (impl_inOrderOf.f k ids c).bind fun x => some (decide ((x.length : Int) = (c.length : Int)))
/-- Where the first cause stands of which it says yes, from place i on; -1 if nowhere. -/
def impl_fails.find (k : Nat) (ids : List ByteArray) : List (List ByteArray) → Nat → Option Int
  | [], _ => some (-1)
  | c :: t, i => (impl_fails.one k ids c).bind fun b => if b = true then some (i : Int) else impl_fails.find k ids t (i + 1)
def impl_fails.f (k : Nat) (l0 : List (List ByteArray)) (l1 : List ByteArray) : Option Bool := (impl_fails.find k l1 l0 0).bind fun j => some (decide (j ≥ 0))
theorem impl_fails.mono_find (k : Nat) (ids : List ByteArray) : ∀ (l : List (List ByteArray)) (i : Nat), LeO (impl_fails.find k ids l i) (impl_fails.find (k + 1) ids l i)
  | [], _ => LeO.refl _
  | c :: t, i => by
    unfold impl_fails.find impl_fails.one
    exact LeO.bind (LeO.bind (impl_inOrderOf.mono _ _ _) fun _ => LeO.refl _) fun b => LeO.ite (LeO.refl _) (impl_fails.mono_find k ids t (i + 1))
theorem impl_fails.mono : ∀ a0 a1 k, LeO (impl_fails.f k a0 a1) (impl_fails.f (k + 1) a0 a1) := fun a0 a1 k => LeO.bind (impl_fails.mono_find k a1 a0 0) fun _ => LeO.refl _
set_option maxHeartbeats 2000000 in
set_option maxRecDepth 100000 in
/-- The closure of fails, called. -/
theorem impl_fails.lit (k : Nat) (b : Nat) (A1 : Option Addr) (c1 : Nat) (ids : List ByteArray) (A0 : Option Addr) (c0 : Nat) (c : List ByteArray) (r : Bool) (w : World) (hb : w.cell? ⟨b, 0, none⟩ = some (.slice A1 ids.length c1)) (hr1 : Kd.C Kd.string w A1 ids.length ids) (hc1 : ids.length ≤ c1) (hr0 : Kd.C Kd.string w A0 c.length c) (hc0 : c.length ≤ c0) (h : impl_fails.one k ids c = some r) :
    Calls Try.prog 62 #[.slice A0 c.length c0, .pointer (some ⟨b, 0, none⟩)] w fun e w' => e = .returned (.bool r) ∧ Below w.heap.size w w' := by
  obtain ⟨x, hx, hxr⟩ := Option.bind_eq_some_iff.mp h
  have HC := Aside0.mk (impl_inOrderOf.calls k A1 c1 ids A0 c0 c x w hr1 hc1 hr0 hc0 hx)
  have E := Aside0.mk (Option.some.inj hxr)
  clear hr1 hc1 hr0 hc0 h hx hxr
  go_enter Try.func62, Try.ntmps62
  go_wp2_with (go_at_call 63; refine HC.out.mono ?_; rintro e w' ⟨v, rfl, ho, hb'⟩; have n0_ := Aside0.mk ho; have n1_ := Aside0.mk hb'; clear ho hb'; obtain ⟨A2, c2, e2⟩ := Kd.R_slice n0_.out; subst e2)
  go_ret
  exact ⟨by rw [← E.out]; first | rfl | simp, n1_.out⟩
set_option maxHeartbeats 2000000 in
set_option maxRecDepth 100000 in
/-- slices.IndexFunc with that closure. -/
theorem impl_fails.index (k : Nat) (b : Nat) (A1 : Option Addr) (c1 : Nat) (ids : List ByteArray) (A0 : Option Addr) (c0 : Nat) (l0 : List (List ByteArray)) (r : Int) (w : World) (hb : w.cell? ⟨b, 0, none⟩ = some (.slice A1 ids.length c1)) (hr1 : Kd.C Kd.string w A1 ids.length ids) (hc1 : ids.length ≤ c1) (hr0 : Kd.C (Kd.slice 9 Kd.string) w A0 l0.length l0) (h : impl_fails.find k ids l0 0 = some r) :
    Calls Try.prog 79 #[.slice A0 l0.length c0, .func (.func 62) #[] #[.pointer (some ⟨b, 0, none⟩)]] w fun e w' => e = .returned (.int .i64 r) ∧ Below w.heap.size w w' := by
  have HR := Aside0.mk hr0
  have HBX := Aside0.mk hb
  have HR1 := Aside0.mk hr1
  have HC1 := Aside0.mk hc1
  have HF0 := Aside0.mk h
  have hmax : (l0.length : Int) ≤ 9223372036854775807 := by have := hr0.2.1; omega
  clear hr0 hb hr1 hc1 h
  go_enter Try.func79, Try.ntmps79
  go_wp2
  go_loopg [5, 8] l0.length (fun gg _ s8 wr => ∃ kk : Nat, kk ≤ l0.length ∧ l0.length - kk ≤ gg ∧ s8 = .int .i64 kk ∧ Aside0 (Below w.heap.size w wr) ∧ Aside0 (impl_fails.find k ids (l0.drop kk) kk = some r))
  case atStart => exact ⟨0, Nat.zero_le _, by omega, rfl, ⟨Below.refl _ w⟩, HF0⟩
  case round =>
    obtain ⟨kk, hkk, hg, rfl, BW, HF⟩ := hrel
    by_cases hlt : kk < l0.length
    · have hltz : (kk : Int) < (l0.length : Int) := by omega
      have h0z : (0 : Int) ≤ (kk : Int) := by omega
      obtain ⟨ad, Ay, cy, e, hx0, hcy, hry⟩ := at_L1 (Kd.C_below HR.out BW.out) (kk : Int) h0z hltz
      cases e
      rw [Int.toNat_natCast] at hx0
      have hd : l0.drop kk = rd_L1 l0 (kk : Int) :: l0.drop (kk + 1) := by
        rw [List.drop_eq_getElem_cons hlt]
        simp [rd_L1, List.getD_eq_getElem?_getD, List.getElem?_eq_getElem hlt]
      have hf := HF.out
      rw [hd] at hf
      clear HF hd
      generalize hy : rd_L1 l0 (kk : Int) = y at hx0 hcy hry hf
      clear hy
      obtain ⟨bb, hone, hrest⟩ := Option.bind_eq_some_iff.mp hf
      have hcall := impl_fails.lit k b A1 c1 ids Ay cy y bb wr ((BW.out.cell (p := ⟨b, 0, none⟩) (World.block_lt_of_cell? w _ HBX.out)).trans HBX.out) (Kd.C_below HR1.out BW.out) HC1.out hry hcy hone
      clear hf hone hcy hry
      cases bb with
      | true =>
        have HQ := Aside0.mk (Option.some.inj (show some (kk : Int) = some r from hrest))
        have HC := Aside0.mk hcall
        clear hcall hrest
        go_wp2_with (go_at_call 62; refine HC.out.mono ?_; rintro e w' ⟨rfl, hb'⟩)
        go_ret
        exact ⟨by rw [← HQ.out]; rfl, below_step BW.out hb'⟩
      | false =>
        have HQ := Aside0.mk (show impl_fails.find k ids (l0.drop (kk + 1)) (kk + 1) = some r from hrest)
        have HC := Aside0.mk hcall
        clear hcall hrest
        go_wp2_with (go_at_call 62; refine HC.out.mono ?_; rintro e w' ⟨rfl, hb'⟩)
        go_roundg (l0.length - (kk + 1))
        case measure => omega
        case rel => exact ⟨kk + 1, by omega, by omega, by go_num, ⟨below_step BW.out hb'⟩, HQ⟩
    · have hltz : ¬ (kk : Int) < (l0.length : Int) := by omega
      have hf := HF.out
      rw [List.drop_of_length_le (by omega), impl_fails.find] at hf
      have HQ := Aside0.mk (Option.some.inj hf)
      clear hf HF
      go_wp2
      go_ret
      exact ⟨by rw [← HQ.out]; rfl, BW.out⟩
set_option maxHeartbeats 2000000 in
set_option maxRecDepth 100000 in
/-- slices.ContainsFunc with that closure. -/
theorem impl_fails.contains (k : Nat) (b : Nat) (A1 : Option Addr) (c1 : Nat) (ids : List ByteArray) (A0 : Option Addr) (c0 : Nat) (l0 : List (List ByteArray)) (j : Int) (w : World) (hb : w.cell? ⟨b, 0, none⟩ = some (.slice A1 ids.length c1)) (hr1 : Kd.C Kd.string w A1 ids.length ids) (hc1 : ids.length ≤ c1) (hr0 : Kd.C (Kd.slice 9 Kd.string) w A0 l0.length l0) (h : impl_fails.find k ids l0 0 = some j) :
    Calls Try.prog 61 #[.slice A0 l0.length c0, .func (.func 62) #[] #[.pointer (some ⟨b, 0, none⟩)]] w fun e w' => e = .returned (.bool (decide (j ≥ 0))) ∧ Below w.heap.size w w' := by
  have HI := Aside0.mk (impl_fails.index k b A1 c1 ids A0 c0 l0 j w hb hr1 hc1 hr0 h)
  clear hb hr1 hc1 hr0 h
  go_enter Try.func61, Try.ntmps61
  go_wp2_with (go_at_call 79; refine HI.out.mono ?_; rintro e w' ⟨rfl, hb'⟩)
  go_ret
  exact ⟨by first | rfl | simp, hb'⟩
set_option maxHeartbeats 2000000 in
set_option maxRecDepth 100000 in
theorem impl_fails.calls (k : Nat) (A0 : Option Addr) (c0 : Nat) (l0 : List (List ByteArray)) (A1 : Option Addr) (c1 : Nat) (l1 : List ByteArray) (r : Bool) (w : World) (hr0 : Kd.C (Kd.slice 9 Kd.string) w A0 l0.length l0) (hc0 : l0.length ≤ c0) (hr1 : Kd.C Kd.string w A1 l1.length l1) (hc1 : l1.length ≤ c1) (h : impl_fails.f k l0 l1 = some r) :
    Calls Try.prog 39 #[.slice A0 l0.length c0, .slice A1 l1.length c1] w fun e w' => e = .returned (.bool r) ∧ Below w.heap.size w w' := by
  obtain ⟨j, hj, hjr⟩ := Option.bind_eq_some_iff.mp h
  have HI := Aside0.mk (impl_fails.contains k w.heap.size A1 c1 l1 A0 c0 l0 j (w.alloc (.cells #[.slice A1 l1.length c1] 30)) (by simp) (Kd.C_alloc hr1 _) hc1 (Kd.C_alloc hr0 _) hj)
  have E := Aside0.mk (Option.some.inj hjr)
  clear hr0 hc0 hr1 hc1 h hj hjr
  go_enter Try.func39, Try.ntmps39
  go_wp2_with (go_at_call 61; refine HI.out.mono ?_; rintro e w' ⟨rfl, hb'⟩)
  go_ret
  exact ⟨by rw [← E.out]; rfl, below_step ((Below.refl _ _).alloc (Nat.le_refl _) _) hb'⟩

/-! ### impl_FailsWith: function 16 -/
def impl_FailsWith.f (k : Nat) (l0 : List (List ByteArray)) (l1 : List ByteArray) : Option (Bool) := (impl_ValidCauses.f k l0).bind fun t198 => (if t198 = true then ((impl_idsOk.f k l1).bind fun t199 => (if t199 = true then ((impl_fails.f k l0 l1).bind fun t200 => (some t200)) else (some false))) else (some false))
theorem impl_FailsWith.mono : ∀ a0 a1 k, LeO (impl_FailsWith.f k a0 a1) (impl_FailsWith.f (k + 1) a0 a1) := by
  intro a0 a1 k
  unfold impl_FailsWith.f
  repeat' first
      | (with_reducible exact impl_ValidCauses.mono _ _)
      | (with_reducible exact impl_fails.mono _ _ _)
      | (with_reducible exact impl_idsOk.mono _ _)
      | (with_reducible exact LeO.refl _)
      | (with_reducible exact LeO.none _)
      | (with_reducible refine LeO.ite ?_ ?_)
      | (with_reducible refine LeO.bind ?_ (fun _ => ?_))
      | exact impl_ValidCauses.mono _ _
      | exact impl_fails.mono _ _ _
      | exact impl_idsOk.mono _ _
      | exact LeO.none _
      | refine LeO.ite ?_ ?_
      | refine LeO.bind ?_ (fun _ => ?_)
set_option maxHeartbeats 8000000 in
set_option maxRecDepth 100000 in
theorem impl_FailsWith.calls (k : Nat) (A0 : Option Addr) (c0 : Nat) (l0 : List (List ByteArray)) (A1 : Option Addr) (c1 : Nat) (l1 : List ByteArray) (r : Bool) (w : World) (hr0 : Kd.C (Kd.slice 9 Kd.string) w A0 l0.length l0) (hc0 : l0.length ≤ c0) (hr1 : Kd.C Kd.string w A1 l1.length l1) (hc1 : l1.length ≤ c1) (h : impl_FailsWith.f k l0 l1 = some r) :
    Calls Try.prog 16 #[.slice A0 l0.length c0, .slice A1 l1.length c1] w fun e w' => e = .returned (.bool r) ∧ Below w.heap.size w w' := by
  have HR0 := Aside0.mk hr0
  have HC0 := Aside0.mk hc0
  clear hr0 hc0
  have HR1 := Aside0.mk hr1
  have HC1 := Aside0.mk hc1
  clear hr1 hc1
  have HB := Aside0.mk (Below.refl w.heap.size w)
  have H : ((impl_ValidCauses.f k l0).bind fun t198 => (if t198 = true then ((impl_idsOk.f k l1).bind fun t199 => (if t199 = true then ((impl_fails.f k l0 l1).bind fun t200 => (some t200)) else (some false))) else (some false))) = some r := h
  clear h
  replace H := Option.bind_eq_some_iff.mp H
  obtain ⟨t198, A30, H⟩ := H
  replace H : (if t198 = true then ((impl_idsOk.f k l1).bind fun t199 => (if t199 = true then ((impl_fails.f k l0 l1).bind fun t200 => (some t200)) else (some false))) else (some false)) = some r := H
  have A3 := Aside0.mk A30
  clear A30
  by_cases c4 : t198 = true
  · subst c4
    have H1 : ((impl_idsOk.f k l1).bind fun t199 => (if t199 = true then ((impl_fails.f k l0 l1).bind fun t200 => (some t200)) else (some false))) = some r := by rw [if_pos rfl] at H; exact H
    clear H
    have H := H1
    clear H1
    replace H := Option.bind_eq_some_iff.mp H
    obtain ⟨t199, A50, H⟩ := H
    replace H : (if t199 = true then ((impl_fails.f k l0 l1).bind fun t200 => (some t200)) else (some false)) = some r := H
    have A5 := Aside0.mk A50
    clear A50
    by_cases c6 : t199 = true
    · subst c6
      have H1 : ((impl_fails.f k l0 l1).bind fun t200 => (some t200)) = some r := by rw [if_pos rfl] at H; exact H
      clear H
      have H := H1
      clear H1
      replace H := Option.bind_eq_some_iff.mp H
      obtain ⟨t200, A70, H⟩ := H
      replace H : (some t200) = some r := H
      have A7 := Aside0.mk A70
      clear A70
      obtain rfl := Option.some.inj H
      go_enter Try.func16, Try.ntmps16
      go_wp2_with (first | ((with_reducible refine gate_callee (f := 13) rfl ?_); refine goesL_ (some 6) rfl rfl Try.func13 (by kernel_rfl) rfl #[.slice A0 l0.length c0] rfl (by (try simp only [List.map_toArray, List.map_cons, List.map_nil]); first | done | rfl | (simp only [List.length_drop, List.length_take]; rfl)) ?_; (with_reducible refine (impl_ValidCauses.calls k _ _ l0 true _ ?side1 ?side2 A3.out).mono ?_); (case side1 => repeat (first | exact HR0.out | (with_reducible refine Kd.C_alloc ?_ _) | (with_reducible refine Kd.C_drewN ?_ _) | (with_reducible refine Kd.C_drew ?_))); (case side2 => exact HC0.out); rintro e w' ⟨rfl, ⟨nd, rfl⟩⟩; refine ⟨_, rfl, ?_⟩) | (go_at_call 36; (with_reducible refine (impl_idsOk.calls k _ _ l1 true _ ?side1 ?side2 A5.out).mono ?_); (case side1 => repeat (first | exact HR1.out | (with_reducible refine Kd.C_alloc ?_ _) | (with_reducible refine Kd.C_drewN ?_ _) | (with_reducible refine Kd.C_drew ?_))); (case side2 => exact HC1.out); rintro e w' ⟨rfl, ⟨nd, rfl⟩⟩) | (go_at_call 39; (with_reducible refine (impl_fails.calls k _ _ l0 _ _ l1 t200 _ ?side1 ?side2 ?side3 ?side4 A7.out).mono ?_); (case side1 => repeat (first | exact HR0.out | (with_reducible refine Kd.C_alloc ?_ _) | (with_reducible refine Kd.C_drewN ?_ _) | (with_reducible refine Kd.C_drew ?_))); (case side2 => exact HC0.out); (case side3 => repeat (first | exact HR1.out | (with_reducible refine Kd.C_alloc ?_ _) | (with_reducible refine Kd.C_drewN ?_ _) | (with_reducible refine Kd.C_drew ?_))); (case side4 => exact HC1.out); rintro e w8 ⟨rfl, hb⟩; have n0_ := Aside0.mk (below_step (by repeat (first | (with_reducible first | exact HB.out | apply below_alloc | apply pw_below_drewN | apply below_drew1) | exact HB.out)) hb); clear HB; have HB := n0_; clear n0_; (try clear hb); (try clear hb2); (try clear hk); (try clear hi)))
      go_ret
      exact ⟨by first | rfl | (simp [errW_none, errW_some] <;> rfl) | (simp [*, errW_none, errW_some] <;> rfl), by repeat (first | (with_reducible first | exact HB.out | apply below_alloc | apply pw_below_drewN | apply below_drew1) | exact HB.out)⟩
    · replace c6 := Bool.eq_false_iff.mpr c6
      subst c6
      have H1 : (some false) = some r := by rw [if_neg (show ¬ (false = true) by decide)] at H; exact H
      clear H
      have H := H1
      clear H1
      obtain rfl := Option.some.inj H
      go_enter Try.func16, Try.ntmps16
      go_wp2_with (first | ((with_reducible refine gate_callee (f := 13) rfl ?_); refine goesL_ (some 6) rfl rfl Try.func13 (by kernel_rfl) rfl #[.slice A0 l0.length c0] rfl (by (try simp only [List.map_toArray, List.map_cons, List.map_nil]); first | done | rfl | (simp only [List.length_drop, List.length_take]; rfl)) ?_; (with_reducible refine (impl_ValidCauses.calls k _ _ l0 true _ ?side1 ?side2 A3.out).mono ?_); (case side1 => repeat (first | exact HR0.out | (with_reducible refine Kd.C_alloc ?_ _) | (with_reducible refine Kd.C_drewN ?_ _) | (with_reducible refine Kd.C_drew ?_))); (case side2 => exact HC0.out); rintro e w' ⟨rfl, ⟨nd, rfl⟩⟩; refine ⟨_, rfl, ?_⟩) | (go_at_call 36; (with_reducible refine (impl_idsOk.calls k _ _ l1 false _ ?side1 ?side2 A5.out).mono ?_); (case side1 => repeat (first | exact HR1.out | (with_reducible refine Kd.C_alloc ?_ _) | (with_reducible refine Kd.C_drewN ?_ _) | (with_reducible refine Kd.C_drew ?_))); (case side2 => exact HC1.out); rintro e w' ⟨rfl, ⟨nd, rfl⟩⟩))
      go_ret
      exact ⟨by first | rfl | (simp [errW_none, errW_some] <;> rfl) | (simp [*, errW_none, errW_some] <;> rfl), by repeat (first | (with_reducible first | exact HB.out | apply below_alloc | apply pw_below_drewN | apply below_drew1) | exact HB.out)⟩
  · replace c4 := Bool.eq_false_iff.mpr c4
    subst c4
    have H1 : (some false) = some r := by rw [if_neg (show ¬ (false = true) by decide)] at H; exact H
    clear H
    have H := H1
    clear H1
    obtain rfl := Option.some.inj H
    go_enter Try.func16, Try.ntmps16
    go_wp2_with (first | ((with_reducible refine gate_callee (f := 13) rfl ?_); refine goesL_ (some 6) rfl rfl Try.func13 (by kernel_rfl) rfl #[.slice A0 l0.length c0] rfl (by (try simp only [List.map_toArray, List.map_cons, List.map_nil]); first | done | rfl | (simp only [List.length_drop, List.length_take]; rfl)) ?_; (with_reducible refine (impl_ValidCauses.calls k _ _ l0 false _ ?side1 ?side2 A3.out).mono ?_); (case side1 => repeat (first | exact HR0.out | (with_reducible refine Kd.C_alloc ?_ _) | (with_reducible refine Kd.C_drewN ?_ _) | (with_reducible refine Kd.C_drew ?_))); (case side2 => exact HC0.out); rintro e w' ⟨rfl, ⟨nd, rfl⟩⟩; refine ⟨_, rfl, ?_⟩))
    go_ret
    exact ⟨by first | rfl | (simp [errW_none, errW_some] <;> rfl) | (simp [*, errW_none, errW_some] <;> rfl), by repeat (first | (with_reducible first | exact HB.out | apply below_alloc | apply pw_below_drewN | apply below_drew1) | exact HB.out)⟩

end Go.Proofs.Ytlnaejkbanpcjaa.D
