-- WRITTEN by wip/ext.py
import Derived.Test.YtdllommmccgleaaEx0
import Derived.Test.YtdllommmccgleaaEx6
import Derived.Test.YtdllommmccgleaaEx8
import Derived.Test.YtdllommmccgleaaEx10
import Derived.Test.YtdllommmccgleaaEx13
import Derived.Test.YtdllommmccgleaaEx18
namespace Go.Proofs.Ytdllommmccgleaa.E
open Go.RowKit Go.Proofs.YtdllommmccgleaaW.PrintWords Go.Proofs.YtdllommmccgleaaW.PrintLast Go.Proofs.YtdllommmccgleaaW.PrintMore
attribute [local go_sem] max2_int min2_int max_two min_two max_three min_three max_four min_four   -- for this text's walks alone
set_option linter.unusedVariables false
set_option linter.unusedSimpArgs false

/-! ### spec_DrawOrExpr: function 25 -/
def spec_DrawOrExpr.f (k : Nat) (l0 : List Int) : Option (ByteArray × ByteArray) := (spec_DrawAndExpr.f k l0).bind fun bt444 => (some (bt444.1, bt444.2))
theorem spec_DrawOrExpr.mono : ∀ a0 k, LeO (spec_DrawOrExpr.f k a0) (spec_DrawOrExpr.f (k + 1) a0) := by
 intro a0 k
 unfold spec_DrawOrExpr.f
 repeat' first
   | (with_reducible exact spec_DrawAndExpr.mono _ _)
   | (with_reducible exact LeO.refl _)
   | (with_reducible exact LeO.none _)
   | (with_reducible refine LeO.ite ?_ ?_)
   | (with_reducible refine LeO.bind ?_ (fun _ => ?_))
   | refine LeO.ite ?_ ?_
   | refine LeO.bind ?_ (fun _ => ?_)
set_option maxHeartbeats 8000000 in
set_option maxRecDepth 100000 in
theorem spec_DrawOrExpr.calls (k : Nat) (A0 : Option Addr) (c0 : Nat) (l0 : List Int) (r1 : ByteArray) (r2 : ByteArray) (w : World) (hr0 : Kd.C (Kd.int .u8) w A0 l0.length l0) (hc0 : l0.length ≤ c0) (h : spec_DrawOrExpr.f k l0 = some (r1, r2)) :
  Calls Try.prog 25 #[.slice A0 l0.length c0] w fun e w' => e = .returned (.tuple #[.string r1, .string r2]) ∧ Below w.heap.size w w' := by
 have HR0 := Aside0.mk hr0; have HC0 := Aside0.mk hc0; clear hr0 hc0; have HB := Aside0.mk (Below.refl w.heap.size w)
 have H : ((spec_DrawAndExpr.f k l0).bind fun bt444 => (some (bt444.1, bt444.2))) = some (r1, r2) := h
 clear h
 replace H := Option.bind_eq_some_iff.mp H
 obtain ⟨⟨t444, t445⟩, A20, H⟩ := H
 replace H : (some (t444, t445)) = some (r1, r2) := H
 have A2 := Aside0.mk A20; clear A20
 simp only [Option.some.injEq, Prod.mk.injEq] at H
 obtain ⟨rfl, rfl⟩ := H
 go_enter Try.func25, Try.ntmps25
 go_wp2_with (first | ((with_reducible refine gate_callee (f := 28) rfl ?_); refine goesL_ (some 5) rfl rfl Try.func28 (by kernel_rfl) rfl #[.slice A0 l0.length c0] rfl (by (try simp only [List.map_toArray, List.map_cons, List.map_nil]); first | done | rfl) ?_; (with_reducible refine (spec_DrawAndExpr.calls k _ _ l0 t444 t445 _ ?side1 ?side2 A2.out).mono ?_); (case side1 => repeat (first | exact HR0.out | with_reducible first | apply Kd.C_alloc | apply Kd.C_drewN | apply Kd.C_drew)); (case side2 => exact HC0.out); rintro e w3 ⟨rfl, hb⟩; refine ⟨_, rfl, ?_⟩; replace HB := Aside0.mk (below_step (by repeat first | (with_reducible first | exact HB.out | apply below_alloc | apply pw_below_drewN | apply below_drew1) | exact HB.out) hb); (try clear hb)))
 go_ret2
 exact ⟨by first | rfl | (simp [errW_none, errW_some] <;> rfl) | (simp [*, errW_none, errW_some] <;> rfl), by repeat (first | (with_reducible first | exact HB.out | apply below_alloc | apply pw_below_drewN | apply below_drew1) | exact HB.out)⟩

/-! ### spec_OrExpr: function 27 -/
def spec_OrExpr.f (k : Nat) (a0 : ByteArray) (a1 : ByteArray) : Option (ByteArray) := (spec_validExpr.f k a0).bind fun t449 => (if t449 = true then ((spec_validExpr.f k a1).bind fun t450 => (if t450 = true then (if 1 + a0.size ≤ 9223372036854775807 then (if 1 + a0.size + 6 ≤ 9223372036854775807 then (if 1 + a0.size + 6 + a1.size ≤ 9223372036854775807 then (if 1 + a0.size + 6 + a1.size + 1 ≤ 9223372036854775807 then ((spec_checkedExpr.f k (((((⟨#[40]⟩ : ByteArray) ++ a0) ++ (⟨#[41, 32, 111, 114, 32, 40]⟩ : ByteArray)) ++ a1) ++ (⟨#[41]⟩ : ByteArray))).bind fun t451 => (some t451)) else (none)) else (none)) else (none)) else (none)) else (some (⟨#[]⟩ : ByteArray)))) else (some (⟨#[]⟩ : ByteArray)))
theorem spec_OrExpr.mono : ∀ a0 a1 k, LeO (spec_OrExpr.f k a0 a1) (spec_OrExpr.f (k + 1) a0 a1) := by
 intro a0 a1 k
 unfold spec_OrExpr.f
 repeat' first
   | (with_reducible exact spec_checkedExpr.mono _ _)
   | (with_reducible exact spec_validExpr.mono _ _)
   | (with_reducible exact LeO.refl _)
   | (with_reducible exact LeO.none _)
   | (with_reducible refine LeO.ite ?_ ?_)
   | (with_reducible refine LeO.bind ?_ (fun _ => ?_))
   | refine LeO.ite ?_ ?_
   | refine LeO.bind ?_ (fun _ => ?_)
set_option maxHeartbeats 8000000 in
set_option maxRecDepth 100000 in
theorem spec_OrExpr.calls (k : Nat) (a0 : ByteArray) (a1 : ByteArray) (r : ByteArray) (w : World) (h : spec_OrExpr.f k a0 a1 = some r) :
  Calls Try.prog 27 #[.string a0, .string a1] w fun e w' => e = .returned (.string r) ∧ Below w.heap.size w w' := by
 have HB := Aside0.mk (Below.refl w.heap.size w)
 have H : ((spec_validExpr.f k a0).bind fun t449 => (if t449 = true then ((spec_validExpr.f k a1).bind fun t450 => (if t450 = true then (if 1 + a0.size ≤ 9223372036854775807 then (if 1 + a0.size + 6 ≤ 9223372036854775807 then (if 1 + a0.size + 6 + a1.size ≤ 9223372036854775807 then (if 1 + a0.size + 6 + a1.size + 1 ≤ 9223372036854775807 then ((spec_checkedExpr.f k (((((⟨#[40]⟩ : ByteArray) ++ a0) ++ (⟨#[41, 32, 111, 114, 32, 40]⟩ : ByteArray)) ++ a1) ++ (⟨#[41]⟩ : ByteArray))).bind fun t451 => (some t451)) else (none)) else (none)) else (none)) else (none)) else (some (⟨#[]⟩ : ByteArray)))) else (some (⟨#[]⟩ : ByteArray)))) = some r := h
 clear h
 replace H := Option.bind_eq_some_iff.mp H
 obtain ⟨t449, A30, H⟩ := H
 replace H : (if t449 = true then ((spec_validExpr.f k a1).bind fun t450 => (if t450 = true then (if 1 + a0.size ≤ 9223372036854775807 then (if 1 + a0.size + 6 ≤ 9223372036854775807 then (if 1 + a0.size + 6 + a1.size ≤ 9223372036854775807 then (if 1 + a0.size + 6 + a1.size + 1 ≤ 9223372036854775807 then ((spec_checkedExpr.f k (((((⟨#[40]⟩ : ByteArray) ++ a0) ++ (⟨#[41, 32, 111, 114, 32, 40]⟩ : ByteArray)) ++ a1) ++ (⟨#[41]⟩ : ByteArray))).bind fun t451 => (some t451)) else (none)) else (none)) else (none)) else (none)) else (some (⟨#[]⟩ : ByteArray)))) else (some (⟨#[]⟩ : ByteArray))) = some r := H
 have A3 := Aside0.mk A30; clear A30
 by_cases c4 : t449 = true
 ·subst c4
  have H1 : ((spec_validExpr.f k a1).bind fun t450 => (if t450 = true then (if 1 + a0.size ≤ 9223372036854775807 then (if 1 + a0.size + 6 ≤ 9223372036854775807 then (if 1 + a0.size + 6 + a1.size ≤ 9223372036854775807 then (if 1 + a0.size + 6 + a1.size + 1 ≤ 9223372036854775807 then ((spec_checkedExpr.f k (((((⟨#[40]⟩ : ByteArray) ++ a0) ++ (⟨#[41, 32, 111, 114, 32, 40]⟩ : ByteArray)) ++ a1) ++ (⟨#[41]⟩ : ByteArray))).bind fun t451 => (some t451)) else (none)) else (none)) else (none)) else (none)) else (some (⟨#[]⟩ : ByteArray)))) = some r := by rw [if_pos rfl] at H; exact H
  clear H; have H := H1; clear H1
  replace H := Option.bind_eq_some_iff.mp H
  obtain ⟨t450, A50, H⟩ := H
  replace H : (if t450 = true then (if 1 + a0.size ≤ 9223372036854775807 then (if 1 + a0.size + 6 ≤ 9223372036854775807 then (if 1 + a0.size + 6 + a1.size ≤ 9223372036854775807 then (if 1 + a0.size + 6 + a1.size + 1 ≤ 9223372036854775807 then ((spec_checkedExpr.f k (((((⟨#[40]⟩ : ByteArray) ++ a0) ++ (⟨#[41, 32, 111, 114, 32, 40]⟩ : ByteArray)) ++ a1) ++ (⟨#[41]⟩ : ByteArray))).bind fun t451 => (some t451)) else (none)) else (none)) else (none)) else (none)) else (some (⟨#[]⟩ : ByteArray))) = some r := H
  have A5 := Aside0.mk A50; clear A50
  by_cases c6 : t450 = true
  ·subst c6
   have H1 : (if 1 + a0.size ≤ 9223372036854775807 then (if 1 + a0.size + 6 ≤ 9223372036854775807 then (if 1 + a0.size + 6 + a1.size ≤ 9223372036854775807 then (if 1 + a0.size + 6 + a1.size + 1 ≤ 9223372036854775807 then ((spec_checkedExpr.f k (((((⟨#[40]⟩ : ByteArray) ++ a0) ++ (⟨#[41, 32, 111, 114, 32, 40]⟩ : ByteArray)) ++ a1) ++ (⟨#[41]⟩ : ByteArray))).bind fun t451 => (some t451)) else (none)) else (none)) else (none)) else (none)) = some r := by rw [if_pos rfl] at H; exact H
   clear H; have H := H1; clear H1
   by_cases c7 : 1 + a0.size ≤ 9223372036854775807
   ·rw [if_pos c7] at H
    have c7b0 := eq_true c7
    have c7b1 : decide (1 + a0.size ≤ 9223372036854775807) = true := decide_eq_true c7
    try have c7b2 : (9223372036854775807 < 1 + a0.size) = False := eq_false (Nat.not_lt.2 c7)
    by_cases c8 : 1 + a0.size + 6 ≤ 9223372036854775807
    ·rw [if_pos c8] at H
     have c8b0 := eq_true c8
     have c8b1 : decide (1 + a0.size + 6 ≤ 9223372036854775807) = true := decide_eq_true c8
     try have c8b2 : (9223372036854775807 < 1 + a0.size + 6) = False := eq_false (Nat.not_lt.2 c8)
     by_cases c9 : 1 + a0.size + 6 + a1.size ≤ 9223372036854775807
     ·rw [if_pos c9] at H
      have c9b0 := eq_true c9
      have c9b1 : decide (1 + a0.size + 6 + a1.size ≤ 9223372036854775807) = true := decide_eq_true c9
      try have c9b2 : (9223372036854775807 < 1 + a0.size + 6 + a1.size) = False := eq_false (Nat.not_lt.2 c9)
      by_cases c10 : 1 + a0.size + 6 + a1.size + 1 ≤ 9223372036854775807
      ·rw [if_pos c10] at H
       have c10b0 := eq_true c10
       have c10b1 : decide (1 + a0.size + 6 + a1.size + 1 ≤ 9223372036854775807) = true := decide_eq_true c10
       try have c10b2 : (9223372036854775807 < 1 + a0.size + 6 + a1.size + 1) = False := eq_false (Nat.not_lt.2 c10)
       replace H := Option.bind_eq_some_iff.mp H
       obtain ⟨t451, A110, H⟩ := H
       replace H : (some t451) = some r := H
       have A11 := Aside0.mk A110; clear A110
       obtain rfl := Option.some.inj H
       go_enter Try.func27, Try.ntmps27
       go_wp2_with (first | ((with_reducible refine gate_callee (f := 41) rfl ?_); refine goesL_ (some 6) rfl rfl Try.func41 (by kernel_rfl) rfl #[.string a0] rfl (by (try simp only [List.map_toArray, List.map_cons, List.map_nil]); first | done | rfl) ?_; (with_reducible refine (spec_validExpr.calls k a0 true _ A3.out).mono ?_); rintro e w12 ⟨rfl, hb⟩; refine ⟨_, rfl, ?_⟩; replace HB := Aside0.mk (below_step (by repeat first | (with_reducible first | exact HB.out | apply below_alloc | apply pw_below_drewN | apply below_drew1) | exact HB.out) hb); (try clear hb)) | (go_at_call 41; (with_reducible refine (spec_validExpr.calls k a1 true _ A5.out).mono ?_); rintro e w13 ⟨rfl, hb⟩; replace HB := Aside0.mk (below_step (by repeat first | (with_reducible first | exact HB.out | apply below_alloc | apply pw_below_drewN | apply below_drew1) | exact HB.out) hb); (try clear hb)) | ((with_reducible refine gate_callee (f := 59) rfl ?_); refine goesL_ (some 19) rfl rfl Try.func59 (by kernel_rfl) rfl #[.string (((((⟨#[40]⟩ : ByteArray) ++ a0) ++ (⟨#[41, 32, 111, 114, 32, 40]⟩ : ByteArray)) ++ a1) ++ (⟨#[41]⟩ : ByteArray))] rfl (by (try simp only [List.map_toArray, List.map_cons, List.map_nil]); first | done | rfl) ?_; (with_reducible refine (spec_checkedExpr.calls k (((((⟨#[40]⟩ : ByteArray) ++ a0) ++ (⟨#[41, 32, 111, 114, 32, 40]⟩ : ByteArray)) ++ a1) ++ (⟨#[41]⟩ : ByteArray)) t451 _ A11.out).mono ?_); rintro e w14 ⟨rfl, hb⟩; refine ⟨_, rfl, ?_⟩; replace HB := Aside0.mk (below_step (by repeat first | (with_reducible first | exact HB.out | apply below_alloc | apply pw_below_drewN | apply below_drew1) | exact HB.out) hb); (try clear hb)))
       go_ret
       exact ⟨by first | rfl | (simp [errW_none, errW_some] <;> rfl) | (simp [*, errW_none, errW_some] <;> rfl), by repeat (first | (with_reducible first | exact HB.out | apply below_alloc | apply pw_below_drewN | apply below_drew1) | exact HB.out)⟩
      ·rw [if_neg c10] at H
       exact absurd H (by simp)
     ·rw [if_neg c9] at H
      exact absurd H (by simp)
    ·rw [if_neg c8] at H
     exact absurd H (by simp)
   ·rw [if_neg c7] at H
    exact absurd H (by simp)
  ·replace c6 := Bool.eq_false_iff.mpr c6
   subst c6
   have H1 : (some (⟨#[]⟩ : ByteArray)) = some r := by rw [if_neg (show ¬ (false = true) by decide)] at H; exact H
   clear H; have H := H1; clear H1
   obtain rfl := Option.some.inj H
   go_enter Try.func27, Try.ntmps27
   go_wp2_with (first | ((with_reducible refine gate_callee (f := 41) rfl ?_); refine goesL_ (some 6) rfl rfl Try.func41 (by kernel_rfl) rfl #[.string a0] rfl (by (try simp only [List.map_toArray, List.map_cons, List.map_nil]); first | done | rfl) ?_; (with_reducible refine (spec_validExpr.calls k a0 true _ A3.out).mono ?_); rintro e w15 ⟨rfl, hb⟩; refine ⟨_, rfl, ?_⟩; replace HB := Aside0.mk (below_step (by repeat first | (with_reducible first | exact HB.out | apply below_alloc | apply pw_below_drewN | apply below_drew1) | exact HB.out) hb); (try clear hb)) | (go_at_call 41; (with_reducible refine (spec_validExpr.calls k a1 false _ A5.out).mono ?_); rintro e w16 ⟨rfl, hb⟩; replace HB := Aside0.mk (below_step (by repeat first | (with_reducible first | exact HB.out | apply below_alloc | apply pw_below_drewN | apply below_drew1) | exact HB.out) hb); (try clear hb)))
   go_ret
   exact ⟨by first | rfl | (simp [errW_none, errW_some] <;> rfl) | (simp [*, errW_none, errW_some] <;> rfl), by repeat (first | (with_reducible first | exact HB.out | apply below_alloc | apply pw_below_drewN | apply below_drew1) | exact HB.out)⟩
 ·replace c4 := Bool.eq_false_iff.mpr c4
  subst c4
  have H1 : (some (⟨#[]⟩ : ByteArray)) = some r := by rw [if_neg (show ¬ (false = true) by decide)] at H; exact H
  clear H; have H := H1; clear H1
  obtain rfl := Option.some.inj H
  go_enter Try.func27, Try.ntmps27
  go_wp2_with (first | ((with_reducible refine gate_callee (f := 41) rfl ?_); refine goesL_ (some 6) rfl rfl Try.func41 (by kernel_rfl) rfl #[.string a0] rfl (by (try simp only [List.map_toArray, List.map_cons, List.map_nil]); first | done | rfl) ?_; (with_reducible refine (spec_validExpr.calls k a0 false _ A3.out).mono ?_); rintro e w17 ⟨rfl, hb⟩; refine ⟨_, rfl, ?_⟩; replace HB := Aside0.mk (below_step (by repeat first | (with_reducible first | exact HB.out | apply below_alloc | apply pw_below_drewN | apply below_drew1) | exact HB.out) hb); (try clear hb)))
  go_ret
  exact ⟨by first | rfl | (simp [errW_none, errW_some] <;> rfl) | (simp [*, errW_none, errW_some] <;> rfl), by repeat (first | (with_reducible first | exact HB.out | apply below_alloc | apply pw_below_drewN | apply below_drew1) | exact HB.out)⟩

/-! ### laws_FnOrExpr: function 7 -/
def laws_FnOrExpr.j0 : Nat → ByteArray → ByteArray → ByteArray → Bool → Option (Bool)
 | 0, _, _, _, _ => none
 | k + 1, x3, x4, x5, x32 => if x32 = true then ((spec_OrExpr.f k x3 x4).bind fun t459 => (some (x5.toList == t459.toList))) else ((impl_OrExpr.f k x3 x3).bind fun t460 => ((impl_OrExpr.f k x4 x3).bind fun t461 => ((impl_SameExpr.f k x5 t461).bind fun t462 => (if t462 = true then (if t460.toList = ([] : List UInt8) then (some true) else ((impl_SameExpr.f k t460 x3).bind fun t463 => (some t463))) else (some false)))))
def laws_FnOrExpr.f (k : Nat) (l0 : List Int) : Option (Bool) := if (l0.length : Int) > 1048576 then (some true) else ((spec_DrawOrExpr.f k l0).bind fun bt452 => ((impl_OrExpr.f k bt452.1 bt452.2).bind fun t454 => ((spec_OrExpr.f k bt452.1 bt452.2).bind fun t455 => (if t454.toList = t455.toList then (if t454.toList = ([] : List UInt8) then (laws_FnOrExpr.j0 k bt452.1 bt452.2 t454 true) else ((impl_AtomsOf.f k t454).bind fun t456 => (laws_FnOrExpr.j0 k bt452.1 bt452.2 t454 (decide ((t456.length : Int) > 6))))) else (laws_FnOrExpr.j0 k bt452.1 bt452.2 t454 true)))))
theorem laws_FnOrExpr.mono_l : ∀ k, (∀ y0 y1 y2 y3, LeO (laws_FnOrExpr.j0 k y0 y1 y2 y3) (laws_FnOrExpr.j0 (k + 1) y0 y1 y2 y3))
 | 0 => fun _ _ _ _ r h => by simp [laws_FnOrExpr.j0] at h
 | k + 1 => by
  have ih0 := laws_FnOrExpr.mono_l k
  ·intro y0 y1 y2 y3
   unfold laws_FnOrExpr.j0
   repeat' first
   | (with_reducible exact ih0 _ _ _ _)
   | (with_reducible exact impl_AtomsOf.mono _ _)
   | (with_reducible exact impl_OrExpr.mono _ _ _)
   | (with_reducible exact impl_SameExpr.mono _ _ _)
   | (with_reducible exact spec_DrawOrExpr.mono _ _)
   | (with_reducible exact spec_OrExpr.mono _ _ _)
   | (with_reducible exact LeO.refl _)
   | (with_reducible exact LeO.none _)
   | (with_reducible refine LeO.ite ?_ ?_)
   | (with_reducible refine LeO.bind ?_ (fun _ => ?_))
   | refine LeO.ite ?_ ?_
   | refine LeO.bind ?_ (fun _ => ?_)
theorem laws_FnOrExpr.mono : ∀ a0 k, LeO (laws_FnOrExpr.f k a0) (laws_FnOrExpr.f (k + 1) a0) := by
 intro a0 k
 have ih0 := laws_FnOrExpr.mono_l k
 unfold laws_FnOrExpr.f
 repeat' first
   | (with_reducible exact ih0 _ _ _ _)
   | (with_reducible exact impl_AtomsOf.mono _ _)
   | (with_reducible exact impl_OrExpr.mono _ _ _)
   | (with_reducible exact impl_SameExpr.mono _ _ _)
   | (with_reducible exact spec_DrawOrExpr.mono _ _)
   | (with_reducible exact spec_OrExpr.mono _ _ _)
   | (with_reducible exact LeO.refl _)
   | (with_reducible exact LeO.none _)
   | (with_reducible refine LeO.ite ?_ ?_)
   | (with_reducible refine LeO.bind ?_ (fun _ => ?_))
   | refine LeO.ite ?_ ?_
   | refine LeO.bind ?_ (fun _ => ?_)
set_option maxHeartbeats 8000000 in
set_option maxRecDepth 100000 in
theorem laws_FnOrExpr.calls (k : Nat) (A0 : Option Addr) (c0 : Nat) (l0 : List Int) (r : Bool) (w : World) (hr0 : Kd.C (Kd.int .u8) w A0 l0.length l0) (hc0 : l0.length ≤ c0) (h : laws_FnOrExpr.f k l0 = some r) :
  Calls Try.prog 7 #[.slice A0 l0.length c0] w fun e w' => e = .returned (.bool r) ∧ Below w.heap.size w w' := by
 have HR0 := Aside0.mk hr0; have HC0 := Aside0.mk hc0; clear hr0 hc0; have HB := Aside0.mk (Below.refl w.heap.size w)
 have H : (if (l0.length : Int) > 1048576 then (some true) else ((spec_DrawOrExpr.f k l0).bind fun bt452 => ((impl_OrExpr.f k bt452.1 bt452.2).bind fun t454 => ((spec_OrExpr.f k bt452.1 bt452.2).bind fun t455 => (if t454.toList = t455.toList then (if t454.toList = ([] : List UInt8) then (laws_FnOrExpr.j0 k bt452.1 bt452.2 t454 true) else ((impl_AtomsOf.f k t454).bind fun t456 => (laws_FnOrExpr.j0 k bt452.1 bt452.2 t454 (decide ((t456.length : Int) > 6))))) else (laws_FnOrExpr.j0 k bt452.1 bt452.2 t454 true)))))) = some r := h
 clear h
 by_cases c2 : (l0.length : Int) > 1048576
 ·rw [if_pos c2] at H
  have c2b0 : decide (1048576 < (l0.length : Int)) = true := decide_eq_true c2
  have c2b1 : decide (1048576 < l0.length) = true := decide_eq_true (by omega)
  clear c2
  obtain rfl := Option.some.inj H
  go_enter Try.func7, Try.ntmps7
  go_wp2
  go_ret
  exact ⟨by first | rfl | (simp [errW_none, errW_some] <;> rfl) | (simp [*, errW_none, errW_some] <;> rfl), by repeat (first | (with_reducible first | exact HB.out | apply below_alloc | apply pw_below_drewN | apply below_drew1) | exact HB.out)⟩
 ·rw [if_neg c2] at H
  have c2b0 : decide (1048576 < (l0.length : Int)) = false := decide_eq_false c2
  have c2b1 : decide (1048576 < l0.length) = false := decide_eq_false (by omega)
  clear c2
  replace H := Option.bind_eq_some_iff.mp H
  obtain ⟨⟨t452, t453⟩, A30, H⟩ := H
  replace H : ((impl_OrExpr.f k t452 t453).bind fun t454 => ((spec_OrExpr.f k t452 t453).bind fun t455 => (if t454.toList = t455.toList then (if t454.toList = ([] : List UInt8) then (laws_FnOrExpr.j0 k t452 t453 t454 true) else ((impl_AtomsOf.f k t454).bind fun t456 => (laws_FnOrExpr.j0 k t452 t453 t454 (decide ((t456.length : Int) > 6))))) else (laws_FnOrExpr.j0 k t452 t453 t454 true)))) = some r := H
  have A3 := Aside0.mk A30; clear A30
  replace H := Option.bind_eq_some_iff.mp H
  obtain ⟨t454, A40, H⟩ := H
  replace H : ((spec_OrExpr.f k t452 t453).bind fun t455 => (if t454.toList = t455.toList then (if t454.toList = ([] : List UInt8) then (laws_FnOrExpr.j0 k t452 t453 t454 true) else ((impl_AtomsOf.f k t454).bind fun t456 => (laws_FnOrExpr.j0 k t452 t453 t454 (decide ((t456.length : Int) > 6))))) else (laws_FnOrExpr.j0 k t452 t453 t454 true))) = some r := H
  have A4 := Aside0.mk A40; clear A40; have HC5 := Aside0.mk H; clear H
  go_enter Try.func7, Try.ntmps7
  go_upto_region 5 with (first | ((with_reducible refine gate_callee (f := 25) rfl ?_); refine goesL_ (some 12) rfl rfl Try.func25 (by kernel_rfl) rfl #[.slice A0 l0.length c0] rfl (by (try simp only [List.map_toArray, List.map_cons, List.map_nil]); first | done | rfl) ?_; (with_reducible refine (spec_DrawOrExpr.calls k _ _ l0 t452 t453 _ ?side1 ?side2 A3.out).mono ?_); (case side1 => repeat (first | exact HR0.out | with_reducible first | apply Kd.C_alloc | apply Kd.C_drewN | apply Kd.C_drew)); (case side2 => exact HC0.out); rintro e w6 ⟨rfl, hb⟩; refine ⟨_, rfl, ?_⟩; replace HB := Aside0.mk (below_step (by repeat first | (with_reducible first | exact HB.out | apply below_alloc | apply pw_below_drewN | apply below_drew1) | exact HB.out) hb); (try clear hb)) | ((with_reducible refine gate_callee (f := 26) rfl ?_); refine goesL_ (some 17) rfl rfl Try.func26 (by kernel_rfl) rfl #[.string t452, .string t453] rfl (by (try simp only [List.map_toArray, List.map_cons, List.map_nil]); first | done | rfl) ?_; (with_reducible refine (impl_OrExpr.calls k t452 t453 t454 _ A4.out).mono ?_); rintro e w7 ⟨rfl, hb⟩; refine ⟨_, rfl, ?_⟩; replace HB := Aside0.mk (below_step (by repeat first | (with_reducible first | exact HB.out | apply below_alloc | apply pw_below_drewN | apply below_drew1) | exact HB.out) hb); (try clear hb)))
  (try simp only [Act.put, List.setIfInBounds_toArray, List.set_cons_zero, List.set_cons_succ])
  go_cut [32] (fun v32 wc => ∃ (kq : Nat) (x32_4 : Bool), v32 = .bool x32_4 ∧ Aside0 (laws_FnOrExpr.j0 kq t452 t453 t454 x32_4 = some r) ∧ Aside0 (kq ≤ k) ∧ Aside0 (Below w.heap.size w wc))
  case first =>
   have H := HC5.out; clear HC5
   replace H := Option.bind_eq_some_iff.mp H
   obtain ⟨t455, A80, H⟩ := H
   replace H : (if t454.toList = t455.toList then (if t454.toList = ([] : List UInt8) then (laws_FnOrExpr.j0 k t452 t453 t454 true) else ((impl_AtomsOf.f k t454).bind fun t456 => (laws_FnOrExpr.j0 k t452 t453 t454 (decide ((t456.length : Int) > 6))))) else (laws_FnOrExpr.j0 k t452 t453 t454 true)) = some r := H
   have A8 := Aside0.mk A80; clear A80
   by_cases c9 : t454.toList = t455.toList
   ·rw [if_pos c9] at H
    have c9b0 : (t454.toList == t455.toList) = true := beq_iff_eq.mpr c9
    have c9b1 : (t454.toList != t455.toList) = false := bne_eq_false_iff_eq.mpr c9
    clear c9
    (first | rw [c9b0] | (simp only [i64_w, i32_w]; rw [c9b0]) | skip)
    by_cases c10 : t454.toList = ([] : List UInt8)
    ·rw [if_pos c10] at H
     have c10b0 : (t454.toList == ([] : List UInt8)) = true := beq_iff_eq.mpr c10
     have c10b1 : (t454.toList != ([] : List UInt8)) = false := bne_eq_false_iff_eq.mpr c10
     clear c10; have H' := Aside0.mk H; clear H
     go_wp2_with (first | ((with_reducible refine gate_callee (f := 27) rfl ?_); refine goesL_ (some 21) rfl rfl Try.func27 (by kernel_rfl) rfl #[.string t452, .string t453] rfl (by (try simp only [List.map_toArray, List.map_cons, List.map_nil]); first | done | rfl) ?_; (with_reducible refine (spec_OrExpr.calls k t452 t453 t455 _ A8.out).mono ?_); rintro e w11 ⟨rfl, hb⟩; refine ⟨_, rfl, ?_⟩; replace HB := Aside0.mk (below_step (by repeat first | (with_reducible first | exact HB.out | apply below_alloc | apply pw_below_drewN | apply below_drew1) | exact HB.out) hb); (try clear hb)))
     go_meet
     case rel => exact ⟨_, (true), (by first | rfl | (simp; done) | (simp [*]; done)), H', ⟨by first | omega | exact Nat.le_refl _⟩, ⟨by repeat (first | (with_reducible first | exact HB.out | apply below_alloc | apply pw_below_drewN | apply below_drew1) | exact HB.out)⟩⟩
    ·rw [if_neg c10] at H
     have c10b0 : (t454.toList == ([] : List UInt8)) = false := beq_eq_false_iff_ne.mpr c10
     have c10b1 : (t454.toList != ([] : List UInt8)) = true := bne_iff_ne.mpr c10
     replace H := Option.bind_eq_some_iff.mp H
     obtain ⟨t456, A120, H⟩ := H
     replace H : (laws_FnOrExpr.j0 k t452 t453 t454 (decide ((t456.length : Int) > 6))) = some r := H
     have A12 := Aside0.mk A120; clear A120; have H' := Aside0.mk H; clear H
     go_wp2_with (first | ((with_reducible refine gate_callee (f := 27) rfl ?_); refine goesL_ (some 21) rfl rfl Try.func27 (by kernel_rfl) rfl #[.string t452, .string t453] rfl (by (try simp only [List.map_toArray, List.map_cons, List.map_nil]); first | done | rfl) ?_; (with_reducible refine (spec_OrExpr.calls k t452 t453 t455 _ A8.out).mono ?_); rintro e w13 ⟨rfl, hb⟩; refine ⟨_, rfl, ?_⟩; replace HB := Aside0.mk (below_step (by repeat first | (with_reducible first | exact HB.out | apply below_alloc | apply pw_below_drewN | apply below_drew1) | exact HB.out) hb); (try clear hb)) | (go_at_call 21; (with_reducible refine (impl_AtomsOf.calls k t454 t456 _ A12.out).mono ?_); rintro e w14 ⟨v457, rfl, ho0, hb⟩; have HO458 := Aside0.mk (Kd.R_lower ho0 (below_size (by repeat first | (with_reducible first | exact HB.out | apply below_alloc | apply pw_below_drewN | apply below_drew1) | exact HB.out))); replace HB := Aside0.mk (below_step (by repeat first | (with_reducible first | exact HB.out | apply below_alloc | apply pw_below_drewN | apply below_drew1) | exact HB.out) hb); (try clear hb); (try clear ho0); obtain ⟨Ao15, co15, eo15⟩ := Kd.R_slice HO458.out; subst eo15))
     go_meet
     case rel => exact ⟨_, (decide ((t456.length : Int) > 6)), (by first | rfl | (simp; done) | (simp [*]; done)), H', ⟨by first | omega | exact Nat.le_refl _⟩, ⟨by repeat (first | (with_reducible first | exact HB.out | apply below_alloc | apply pw_below_drewN | apply below_drew1) | exact HB.out)⟩⟩
   ·rw [if_neg c9] at H
    have c9b0 : (t454.toList == t455.toList) = false := beq_eq_false_iff_ne.mpr c9
    have c9b1 : (t454.toList != t455.toList) = true := bne_iff_ne.mpr c9
    (first | rw [c9b0] | (simp only [i64_w, i32_w]; rw [c9b0]) | skip)
    have H' := Aside0.mk H; clear H
    go_wp2_with (first | ((with_reducible refine gate_callee (f := 27) rfl ?_); refine goesL_ (some 21) rfl rfl Try.func27 (by kernel_rfl) rfl #[.string t452, .string t453] rfl (by (try simp only [List.map_toArray, List.map_cons, List.map_nil]); first | done | rfl) ?_; (with_reducible refine (spec_OrExpr.calls k t452 t453 t455 _ A8.out).mono ?_); rintro e w16 ⟨rfl, hb⟩; refine ⟨_, rfl, ?_⟩; replace HB := Aside0.mk (below_step (by repeat first | (with_reducible first | exact HB.out | apply below_alloc | apply pw_below_drewN | apply below_drew1) | exact HB.out) hb); (try clear hb)))
    go_meet
    case rel => exact ⟨_, (true), (by first | rfl | (simp; done) | (simp [*]; done)), H', ⟨by first | omega | exact Nat.le_refl _⟩, ⟨by repeat (first | (with_reducible first | exact HB.out | apply below_alloc | apply pw_below_drewN | apply below_drew1) | exact HB.out)⟩⟩
  case rest =>
   clear HC5; try clear c1; try clear c2; try clear c2b0; try clear c2b1; try clear p2; try clear c7; try clear c9; try clear c9b0; try clear c9b1; try clear c10; try clear c10b0; try clear c10b1
   obtain ⟨kq, x32_4, rfl, HA, HJ4, HB⟩ := hcut
   cases kq with
   | zero => exact absurd HA.out (by simp [laws_FnOrExpr.j0])
   | succ kj4 =>
    have H := HA.out; clear HA
    simp only [laws_FnOrExpr.j0] at H
    by_cases c17 : x32_4 = true
    ·subst c17
     have H1 : ((spec_OrExpr.f kj4 t452 t453).bind fun t459 => (some (t454.toList == t459.toList))) = some r := by rw [if_pos rfl] at H; exact H
     clear H; have H := H1; clear H1
     replace H := Option.bind_eq_some_iff.mp H
     obtain ⟨t459, A180, H⟩ := H
     replace H : (some (t454.toList == t459.toList)) = some r := H
     have A18 := Aside0.mk A180; clear A180
     obtain rfl := Option.some.inj H
     go_wp2_with (first | ((with_reducible refine gate_callee (f := 27) rfl ?_); refine goesL_ (some 36) rfl rfl Try.func27 (by kernel_rfl) rfl #[.string t452, .string t453] rfl (by (try simp only [List.map_toArray, List.map_cons, List.map_nil]); first | done | rfl) ?_; (with_reducible refine (spec_OrExpr.calls kj4 t452 t453 t459 _ A18.out).mono ?_); rintro e w19 ⟨rfl, hb⟩; refine ⟨_, rfl, ?_⟩; replace HB := Aside0.mk (below_step (by repeat first | (with_reducible first | exact HB.out | apply below_alloc | apply pw_below_drewN | apply below_drew1) | exact HB.out) hb); (try clear hb)))
     go_ret
     exact ⟨by first | rfl | (simp [errW_none, errW_some] <;> rfl) | (simp [*, errW_none, errW_some] <;> rfl), by repeat (first | (with_reducible first | exact HB.out | apply below_alloc | apply pw_below_drewN | apply below_drew1) | exact HB.out)⟩
    ·replace c17 := Bool.eq_false_iff.mpr c17
     subst c17
     have H1 : ((impl_OrExpr.f kj4 t452 t452).bind fun t460 => ((impl_OrExpr.f kj4 t453 t452).bind fun t461 => ((impl_SameExpr.f kj4 t454 t461).bind fun t462 => (if t462 = true then (if t460.toList = ([] : List UInt8) then (some true) else ((impl_SameExpr.f kj4 t460 t452).bind fun t463 => (some t463))) else (some false))))) = some r := by rw [if_neg (show ¬ (false = true) by decide)] at H; exact H
     clear H; have H := H1; clear H1
     replace H := Option.bind_eq_some_iff.mp H
     obtain ⟨t460, A200, H⟩ := H
     replace H : ((impl_OrExpr.f kj4 t453 t452).bind fun t461 => ((impl_SameExpr.f kj4 t454 t461).bind fun t462 => (if t462 = true then (if t460.toList = ([] : List UInt8) then (some true) else ((impl_SameExpr.f kj4 t460 t452).bind fun t463 => (some t463))) else (some false)))) = some r := H
     have A20 := Aside0.mk A200; clear A200
     replace H := Option.bind_eq_some_iff.mp H
     obtain ⟨t461, A210, H⟩ := H
     replace H : ((impl_SameExpr.f kj4 t454 t461).bind fun t462 => (if t462 = true then (if t460.toList = ([] : List UInt8) then (some true) else ((impl_SameExpr.f kj4 t460 t452).bind fun t463 => (some t463))) else (some false))) = some r := H
     have A21 := Aside0.mk A210; clear A210
     replace H := Option.bind_eq_some_iff.mp H
     obtain ⟨t462, A220, H⟩ := H
     replace H : (if t462 = true then (if t460.toList = ([] : List UInt8) then (some true) else ((impl_SameExpr.f kj4 t460 t452).bind fun t463 => (some t463))) else (some false)) = some r := H
     have A22 := Aside0.mk A220; clear A220
     by_cases c23 : t462 = true
     ·subst c23
      have H1 : (if t460.toList = ([] : List UInt8) then (some true) else ((impl_SameExpr.f kj4 t460 t452).bind fun t463 => (some t463))) = some r := by rw [if_pos rfl] at H; exact H
      clear H; have H := H1; clear H1
      by_cases c24 : t460.toList = ([] : List UInt8)
      ·rw [if_pos c24] at H
       have c24b0 : (t460.toList == ([] : List UInt8)) = true := beq_iff_eq.mpr c24
       have c24b1 : (t460.toList != ([] : List UInt8)) = false := bne_eq_false_iff_eq.mpr c24
       clear c24
       obtain rfl := Option.some.inj H
       go_wp2_with (first | ((with_reducible refine gate_callee (f := 26) rfl ?_); refine goesL_ (some 40) rfl rfl Try.func26 (by kernel_rfl) rfl #[.string t452, .string t452] rfl (by (try simp only [List.map_toArray, List.map_cons, List.map_nil]); first | done | rfl) ?_; (with_reducible refine (impl_OrExpr.calls kj4 t452 t452 t460 _ A20.out).mono ?_); rintro e w25 ⟨rfl, hb⟩; refine ⟨_, rfl, ?_⟩; replace HB := Aside0.mk (below_step (by repeat first | (with_reducible first | exact HB.out | apply below_alloc | apply pw_below_drewN | apply below_drew1) | exact HB.out) hb); (try clear hb)) | ((with_reducible refine gate_callee (f := 26) rfl ?_); refine goesL_ (some 44) rfl rfl Try.func26 (by kernel_rfl) rfl #[.string t453, .string t452] rfl (by (try simp only [List.map_toArray, List.map_cons, List.map_nil]); first | done | rfl) ?_; (with_reducible refine (impl_OrExpr.calls kj4 t453 t452 t461 _ A21.out).mono ?_); rintro e w26 ⟨rfl, hb⟩; refine ⟨_, rfl, ?_⟩; replace HB := Aside0.mk (below_step (by repeat first | (with_reducible first | exact HB.out | apply below_alloc | apply pw_below_drewN | apply below_drew1) | exact HB.out) hb); (try clear hb)) | ((with_reducible refine gate_callee (f := 12) rfl ?_); refine goesL_ (some 45) rfl rfl Try.func12 (by kernel_rfl) rfl #[.string t454, .string t461] rfl (by (try simp only [List.map_toArray, List.map_cons, List.map_nil]); first | done | rfl) ?_; (with_reducible refine (impl_SameExpr.calls kj4 t454 t461 true _ A22.out).mono ?_); rintro e w27 ⟨rfl, hb⟩; refine ⟨_, rfl, ?_⟩; replace HB := Aside0.mk (below_step (by repeat first | (with_reducible first | exact HB.out | apply below_alloc | apply pw_below_drewN | apply below_drew1) | exact HB.out) hb); (try clear hb)))
       go_ret
       exact ⟨by first | rfl | (simp [errW_none, errW_some] <;> rfl) | (simp [*, errW_none, errW_some] <;> rfl), by repeat (first | (with_reducible first | exact HB.out | apply below_alloc | apply pw_below_drewN | apply below_drew1) | exact HB.out)⟩
      ·rw [if_neg c24] at H
       have c24b0 : (t460.toList == ([] : List UInt8)) = false := beq_eq_false_iff_ne.mpr c24
       have c24b1 : (t460.toList != ([] : List UInt8)) = true := bne_iff_ne.mpr c24
       replace H := Option.bind_eq_some_iff.mp H
       obtain ⟨t463, A280, H⟩ := H
       replace H : (some t463) = some r := H
       have A28 := Aside0.mk A280; clear A280
       obtain rfl := Option.some.inj H
       go_wp2_with (first | ((with_reducible refine gate_callee (f := 26) rfl ?_); refine goesL_ (some 40) rfl rfl Try.func26 (by kernel_rfl) rfl #[.string t452, .string t452] rfl (by (try simp only [List.map_toArray, List.map_cons, List.map_nil]); first | done | rfl) ?_; (with_reducible refine (impl_OrExpr.calls kj4 t452 t452 t460 _ A20.out).mono ?_); rintro e w29 ⟨rfl, hb⟩; refine ⟨_, rfl, ?_⟩; replace HB := Aside0.mk (below_step (by repeat first | (with_reducible first | exact HB.out | apply below_alloc | apply pw_below_drewN | apply below_drew1) | exact HB.out) hb); (try clear hb)) | ((with_reducible refine gate_callee (f := 26) rfl ?_); refine goesL_ (some 44) rfl rfl Try.func26 (by kernel_rfl) rfl #[.string t453, .string t452] rfl (by (try simp only [List.map_toArray, List.map_cons, List.map_nil]); first | done | rfl) ?_; (with_reducible refine (impl_OrExpr.calls kj4 t453 t452 t461 _ A21.out).mono ?_); rintro e w30 ⟨rfl, hb⟩; refine ⟨_, rfl, ?_⟩; replace HB := Aside0.mk (below_step (by repeat first | (with_reducible first | exact HB.out | apply below_alloc | apply pw_below_drewN | apply below_drew1) | exact HB.out) hb); (try clear hb)) | ((with_reducible refine gate_callee (f := 12) rfl ?_); refine goesL_ (some 45) rfl rfl Try.func12 (by kernel_rfl) rfl #[.string t454, .string t461] rfl (by (try simp only [List.map_toArray, List.map_cons, List.map_nil]); first | done | rfl) ?_; (with_reducible refine (impl_SameExpr.calls kj4 t454 t461 true _ A22.out).mono ?_); rintro e w31 ⟨rfl, hb⟩; refine ⟨_, rfl, ?_⟩; replace HB := Aside0.mk (below_step (by repeat first | (with_reducible first | exact HB.out | apply below_alloc | apply pw_below_drewN | apply below_drew1) | exact HB.out) hb); (try clear hb)) | (go_at_call 12; (with_reducible refine (impl_SameExpr.calls kj4 t460 t452 t463 _ A28.out).mono ?_); rintro e w32 ⟨rfl, hb⟩; replace HB := Aside0.mk (below_step (by repeat first | (with_reducible first | exact HB.out | apply below_alloc | apply pw_below_drewN | apply below_drew1) | exact HB.out) hb); (try clear hb)))
       go_ret
       exact ⟨by first | rfl | (simp [errW_none, errW_some] <;> rfl) | (simp [*, errW_none, errW_some] <;> rfl), by repeat (first | (with_reducible first | exact HB.out | apply below_alloc | apply pw_below_drewN | apply below_drew1) | exact HB.out)⟩
     ·replace c23 := Bool.eq_false_iff.mpr c23
      subst c23
      have H1 : (some false) = some r := by rw [if_neg (show ¬ (false = true) by decide)] at H; exact H
      clear H; have H := H1; clear H1
      obtain rfl := Option.some.inj H
      go_wp2_with (first | ((with_reducible refine gate_callee (f := 26) rfl ?_); refine goesL_ (some 40) rfl rfl Try.func26 (by kernel_rfl) rfl #[.string t452, .string t452] rfl (by (try simp only [List.map_toArray, List.map_cons, List.map_nil]); first | done | rfl) ?_; (with_reducible refine (impl_OrExpr.calls kj4 t452 t452 t460 _ A20.out).mono ?_); rintro e w33 ⟨rfl, hb⟩; refine ⟨_, rfl, ?_⟩; replace HB := Aside0.mk (below_step (by repeat first | (with_reducible first | exact HB.out | apply below_alloc | apply pw_below_drewN | apply below_drew1) | exact HB.out) hb); (try clear hb)) | ((with_reducible refine gate_callee (f := 26) rfl ?_); refine goesL_ (some 44) rfl rfl Try.func26 (by kernel_rfl) rfl #[.string t453, .string t452] rfl (by (try simp only [List.map_toArray, List.map_cons, List.map_nil]); first | done | rfl) ?_; (with_reducible refine (impl_OrExpr.calls kj4 t453 t452 t461 _ A21.out).mono ?_); rintro e w34 ⟨rfl, hb⟩; refine ⟨_, rfl, ?_⟩; replace HB := Aside0.mk (below_step (by repeat first | (with_reducible first | exact HB.out | apply below_alloc | apply pw_below_drewN | apply below_drew1) | exact HB.out) hb); (try clear hb)) | ((with_reducible refine gate_callee (f := 12) rfl ?_); refine goesL_ (some 45) rfl rfl Try.func12 (by kernel_rfl) rfl #[.string t454, .string t461] rfl (by (try simp only [List.map_toArray, List.map_cons, List.map_nil]); first | done | rfl) ?_; (with_reducible refine (impl_SameExpr.calls kj4 t454 t461 false _ A22.out).mono ?_); rintro e w35 ⟨rfl, hb⟩; refine ⟨_, rfl, ?_⟩; replace HB := Aside0.mk (below_step (by repeat first | (with_reducible first | exact HB.out | apply below_alloc | apply pw_below_drewN | apply below_drew1) | exact HB.out) hb); (try clear hb)))
      go_ret
      exact ⟨by first | rfl | (simp [errW_none, errW_some] <;> rfl) | (simp [*, errW_none, errW_some] <;> rfl), by repeat (first | (with_reducible first | exact HB.out | apply below_alloc | apply pw_below_drewN | apply below_drew1) | exact HB.out)⟩

/-- THE ONE PURE STATEMENT of laws_FnOrExpr: yours. -/
def laws_FnOrExpr.Pure : Prop := ∀ (l0 : List Int), l0.length ≤ maxLen → l0.length * 1 ≤ 140737488351232 → (∀ x ∈ l0, (Lit.int .u8 x).wf = true) → ∃ k, laws_FnOrExpr.f k l0 = some true
theorem laws_FnOrExpr.walk (P : laws_FnOrExpr.Pure) (a0 : Option Addr) (len0 cap0 : Nat) (z0 : List Int) (w : World) (w0 : (a0 = none ∧ len0 = 0 ∧ cap0 = 0 ∧ z0 = []) ∨ ∃ x, a0 = some x ∧ len0 ≤ cap0 ∧ cap0 ≤ maxLen ∧ z0.length = cap0 ∧ (∀ i, i < z0.length → w.cell? (x.add i) = some (.int .u8 (z0.getD i 0))) ∧ ∀ n ∈ z0, (Lit.int .u8 n).wf = true) (y0 : len0 * 1 ≤ 140737488351232) :
  Calls Try.prog 7 #[.slice a0 len0 cap0] w fun e w' => e = .returned (.bool true) ∧ Below w.heap.size w w' := by
 obtain ⟨l0, rfl, hr0, hm0, hw0, hc0⟩ := ReadsInt.ofRowC w0
 obtain ⟨k, h⟩ := P l0 hm0 y0 hw0
 refine (laws_FnOrExpr.calls k _ _ l0 true w (Kd.C_of_reads (d := (0 : Int)) (h1 := fun _ => rfl) hr0) hc0 h).mono ?_
 rintro e w' ⟨rfl, hd⟩
 exact ⟨rfl, hd⟩

end Go.Proofs.Ytdllommmccgleaa.E
