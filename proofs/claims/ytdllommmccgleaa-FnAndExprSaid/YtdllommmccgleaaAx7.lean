-- WRITTEN by wip/ext.py
import Derived.Test.YtdllommmccgleaaAx0
import Derived.Test.YtdllommmccgleaaAx5
import Derived.Test.YtdllommmccgleaaAx6
namespace Go.Proofs.Ytdllommmccgleaa.A
open Go.RowKit Go.Proofs.YtdllommmccgleaaW.PrintWords Go.Proofs.YtdllommmccgleaaW.PrintLast Go.Proofs.YtdllommmccgleaaW.PrintMore
attribute [local go_sem] max2_int min2_int max_two min_two max_three min_three max_four min_four   -- for this text's walks alone
set_option linter.unusedVariables false
set_option linter.unusedSimpArgs false

/-! ### spec_DrawAndExpr: function 28 -/
def spec_DrawAndExpr.f (k : Nat) (l0 : List Int) : Option (ByteArray × ByteArray) := (spec_newReader.f l0).bind fun bt247 => ((spec_someExpr.f k bt247.1 bt247.2).bind fun bt250 => ((spec_someExpr.f k bt247.1 bt250.2).bind fun bt252 => (some (bt250.1, bt252.1))))
theorem spec_DrawAndExpr.mono : ∀ a0 k, LeO (spec_DrawAndExpr.f k a0) (spec_DrawAndExpr.f (k + 1) a0) := by
 intro a0 k
 unfold spec_DrawAndExpr.f
 repeat' first
   | (with_reducible exact spec_someExpr.mono _ _ _)
   | (with_reducible exact LeO.refl _)
   | (with_reducible exact LeO.none _)
   | (with_reducible refine LeO.ite ?_ ?_)
   | (with_reducible refine LeO.bind ?_ (fun _ => ?_))
   | refine LeO.ite ?_ ?_
   | refine LeO.bind ?_ (fun _ => ?_)
set_option maxHeartbeats 8000000 in
set_option maxRecDepth 100000 in
theorem spec_DrawAndExpr.calls (k : Nat) (A0 : Option Addr) (c0 : Nat) (l0 : List Int) (r1 : ByteArray) (r2 : ByteArray) (w : World) (hr0 : Kd.C (Kd.int .u8) w A0 l0.length l0) (hc0 : l0.length ≤ c0) (h : spec_DrawAndExpr.f k l0 = some (r1, r2)) :
  Calls Try.prog 28 #[.slice A0 l0.length c0] w fun e w' => e = .returned (.tuple #[.string r1, .string r2]) ∧ Below w.heap.size w w' := by
 have HR0 := Aside0.mk hr0; have HC0 := Aside0.mk hc0; clear hr0 hc0; have HB := Aside0.mk (Below.refl w.heap.size w)
 have H : ((spec_newReader.f l0).bind fun bt247 => ((spec_someExpr.f k bt247.1 bt247.2).bind fun bt250 => ((spec_someExpr.f k bt247.1 bt250.2).bind fun bt252 => (some (bt250.1, bt252.1))))) = some (r1, r2) := h
 clear h
 replace H := Option.bind_eq_some_iff.mp H
 obtain ⟨⟨t247, t248⟩, A20, H⟩ := H
 replace H : ((spec_someExpr.f k t247 t248).bind fun bt250 => ((spec_someExpr.f k t247 bt250.2).bind fun bt252 => (some (bt250.1, bt252.1)))) = some (r1, r2) := H
 have A2 := Aside0.mk A20; clear A20
 replace H := Option.bind_eq_some_iff.mp H
 obtain ⟨⟨t250, t251⟩, A30, H⟩ := H
 replace H : ((spec_someExpr.f k t247 t251).bind fun bt252 => (some (t250, bt252.1))) = some (r1, r2) := H
 have A3 := Aside0.mk A30; clear A30
 replace H := Option.bind_eq_some_iff.mp H
 obtain ⟨⟨t252, t253⟩, A40, H⟩ := H
 replace H : (some (t250, t252)) = some (r1, r2) := H
 have A4 := Aside0.mk A40; clear A40
 simp only [Option.some.injEq, Prod.mk.injEq] at H
 obtain ⟨rfl, rfl⟩ := H
 go_enter Try.func28, Try.ntmps28
 go_wp2_with (first | ((with_reducible refine gate_callee (f := 54) rfl ?_); refine goesL_ (some 6) rfl rfl Try.func54 (by kernel_rfl) rfl #[.slice A0 l0.length c0] rfl (by (try simp only [List.map_toArray, List.map_cons, List.map_nil]); first | done | rfl) ?_; (with_reducible refine (spec_newReader.calls _ _ l0 t247 t248 w _ ?side1 ?side2 ?side3 A2.out).mono ?_); (case side1 => repeat (first | (with_reducible first | exact HB.out | apply below_alloc | apply pw_below_drewN | apply below_drew1) | exact HB.out)); (case side2 => exact HR0.out); (case side3 => exact HC0.out); rintro e w5 ⟨g249, rfl, hi, hb, hb2⟩; refine ⟨_, rfl, ?_⟩; replace HB := Aside0.mk (hb); have HI249 := Aside0.mk (hi); (try clear hb); (try clear hb2); (try clear hi)) | ((with_reducible refine gate_callee (f := 55) rfl ?_); refine goesL_ (some 8) rfl rfl Try.func55 (by kernel_rfl) rfl #[.pointer (some ⟨g249, 0, none⟩)] rfl (by (try simp only [List.map_toArray, List.map_cons, List.map_nil]); first | done | rfl) ?_; (with_reducible refine (spec_someExpr.calls k g249 t247 t248 t250 t251 w _ ?side1 ?side2 A3.out).mono ?_); (case side1 => repeat (first | (with_reducible first | exact HI249.out | apply IsS78.alloc | apply IsS78.drewN | apply IsS78.drew | apply IsS78.set_1) | exact HI249.out)); (case side2 => repeat (first | (with_reducible first | exact HB.out | apply below_alloc | apply pw_below_drewN | apply below_drew1 | refine below_set ?_ (IsS78.ge HI249.out)) | exact HB.out)); rintro e w6 ⟨rfl, hi, hb, hk⟩; refine ⟨_, rfl, ?_⟩; replace HB := Aside0.mk (hb); replace HI249 := Aside0.mk (hi); (try clear hb); (try clear hk); (try clear hi)) | ((with_reducible refine gate_callee (f := 55) rfl ?_); refine goesL_ (some 10) rfl rfl Try.func55 (by kernel_rfl) rfl #[.pointer (some ⟨g249, 0, none⟩)] rfl (by (try simp only [List.map_toArray, List.map_cons, List.map_nil]); first | done | rfl) ?_; (with_reducible refine (spec_someExpr.calls k g249 t247 t251 t252 t253 w _ ?side1 ?side2 A4.out).mono ?_); (case side1 => repeat (first | (with_reducible first | exact HI249.out | apply IsS78.alloc | apply IsS78.drewN | apply IsS78.drew | apply IsS78.set_1) | exact HI249.out)); (case side2 => repeat (first | (with_reducible first | exact HB.out | apply below_alloc | apply pw_below_drewN | apply below_drew1 | refine below_set ?_ (IsS78.ge HI249.out)) | exact HB.out)); rintro e w7 ⟨rfl, hi, hb, hk⟩; refine ⟨_, rfl, ?_⟩; replace HB := Aside0.mk (hb); replace HI249 := Aside0.mk (hi); (try clear hb); (try clear hk); (try clear hi)))
 go_ret2
 exact ⟨by first | rfl | (simp [errW_none, errW_some] <;> rfl) | (simp [*, errW_none, errW_some] <;> rfl), by repeat (first | (with_reducible first | exact HB.out | apply below_alloc | apply pw_below_drewN | apply below_drew1 | refine below_set ?_ (IsS78.ge HI249.out)) | exact HB.out)⟩

/-! ### impl_AndExpr: function 29 -/
def impl_AndExpr.f (k : Nat) (a0 : ByteArray) (a1 : ByteArray) : Option (ByteArray) := (impl_ValidExpr.f k a0).bind fun t254 => (if t254 = true then ((impl_ValidExpr.f k a1).bind fun t255 => (if t255 = true then (if 1 + a0.size ≤ 9223372036854775807 then (if 1 + a0.size + 7 ≤ 9223372036854775807 then (if 1 + a0.size + 7 + a1.size ≤ 9223372036854775807 then (if 1 + a0.size + 7 + a1.size + 1 ≤ 9223372036854775807 then ((impl_exprOf.f k (((((⟨#[40]⟩ : ByteArray) ++ a0) ++ (⟨#[41, 32, 97, 110, 100, 32, 40]⟩ : ByteArray)) ++ a1) ++ (⟨#[41]⟩ : ByteArray))).bind fun t256 => (some t256)) else (none)) else (none)) else (none)) else (none)) else (some (⟨#[]⟩ : ByteArray)))) else (some (⟨#[]⟩ : ByteArray)))
theorem impl_AndExpr.mono : ∀ a0 a1 k, LeO (impl_AndExpr.f k a0 a1) (impl_AndExpr.f (k + 1) a0 a1) := by
 intro a0 a1 k
 unfold impl_AndExpr.f
 repeat' first
   | (with_reducible exact impl_ValidExpr.mono _ _)
   | (with_reducible exact impl_exprOf.mono _ _)
   | (with_reducible exact LeO.refl _)
   | (with_reducible exact LeO.none _)
   | (with_reducible refine LeO.ite ?_ ?_)
   | (with_reducible refine LeO.bind ?_ (fun _ => ?_))
   | refine LeO.ite ?_ ?_
   | refine LeO.bind ?_ (fun _ => ?_)
set_option maxHeartbeats 8000000 in
set_option maxRecDepth 100000 in
theorem impl_AndExpr.calls (k : Nat) (a0 : ByteArray) (a1 : ByteArray) (r : ByteArray) (w : World) (h : impl_AndExpr.f k a0 a1 = some r) :
  Calls Try.prog 29 #[.string a0, .string a1] w fun e w' => e = .returned (.string r) ∧ Below w.heap.size w w' := by
 have HB := Aside0.mk (Below.refl w.heap.size w)
 have H : ((impl_ValidExpr.f k a0).bind fun t254 => (if t254 = true then ((impl_ValidExpr.f k a1).bind fun t255 => (if t255 = true then (if 1 + a0.size ≤ 9223372036854775807 then (if 1 + a0.size + 7 ≤ 9223372036854775807 then (if 1 + a0.size + 7 + a1.size ≤ 9223372036854775807 then (if 1 + a0.size + 7 + a1.size + 1 ≤ 9223372036854775807 then ((impl_exprOf.f k (((((⟨#[40]⟩ : ByteArray) ++ a0) ++ (⟨#[41, 32, 97, 110, 100, 32, 40]⟩ : ByteArray)) ++ a1) ++ (⟨#[41]⟩ : ByteArray))).bind fun t256 => (some t256)) else (none)) else (none)) else (none)) else (none)) else (some (⟨#[]⟩ : ByteArray)))) else (some (⟨#[]⟩ : ByteArray)))) = some r := h
 clear h
 replace H := Option.bind_eq_some_iff.mp H
 obtain ⟨t254, A30, H⟩ := H
 replace H : (if t254 = true then ((impl_ValidExpr.f k a1).bind fun t255 => (if t255 = true then (if 1 + a0.size ≤ 9223372036854775807 then (if 1 + a0.size + 7 ≤ 9223372036854775807 then (if 1 + a0.size + 7 + a1.size ≤ 9223372036854775807 then (if 1 + a0.size + 7 + a1.size + 1 ≤ 9223372036854775807 then ((impl_exprOf.f k (((((⟨#[40]⟩ : ByteArray) ++ a0) ++ (⟨#[41, 32, 97, 110, 100, 32, 40]⟩ : ByteArray)) ++ a1) ++ (⟨#[41]⟩ : ByteArray))).bind fun t256 => (some t256)) else (none)) else (none)) else (none)) else (none)) else (some (⟨#[]⟩ : ByteArray)))) else (some (⟨#[]⟩ : ByteArray))) = some r := H
 have A3 := Aside0.mk A30; clear A30
 by_cases c4 : t254 = true
 ·subst c4
  have H1 : ((impl_ValidExpr.f k a1).bind fun t255 => (if t255 = true then (if 1 + a0.size ≤ 9223372036854775807 then (if 1 + a0.size + 7 ≤ 9223372036854775807 then (if 1 + a0.size + 7 + a1.size ≤ 9223372036854775807 then (if 1 + a0.size + 7 + a1.size + 1 ≤ 9223372036854775807 then ((impl_exprOf.f k (((((⟨#[40]⟩ : ByteArray) ++ a0) ++ (⟨#[41, 32, 97, 110, 100, 32, 40]⟩ : ByteArray)) ++ a1) ++ (⟨#[41]⟩ : ByteArray))).bind fun t256 => (some t256)) else (none)) else (none)) else (none)) else (none)) else (some (⟨#[]⟩ : ByteArray)))) = some r := by rw [if_pos rfl] at H; exact H
  clear H; have H := H1; clear H1
  replace H := Option.bind_eq_some_iff.mp H
  obtain ⟨t255, A50, H⟩ := H
  replace H : (if t255 = true then (if 1 + a0.size ≤ 9223372036854775807 then (if 1 + a0.size + 7 ≤ 9223372036854775807 then (if 1 + a0.size + 7 + a1.size ≤ 9223372036854775807 then (if 1 + a0.size + 7 + a1.size + 1 ≤ 9223372036854775807 then ((impl_exprOf.f k (((((⟨#[40]⟩ : ByteArray) ++ a0) ++ (⟨#[41, 32, 97, 110, 100, 32, 40]⟩ : ByteArray)) ++ a1) ++ (⟨#[41]⟩ : ByteArray))).bind fun t256 => (some t256)) else (none)) else (none)) else (none)) else (none)) else (some (⟨#[]⟩ : ByteArray))) = some r := H
  have A5 := Aside0.mk A50; clear A50
  by_cases c6 : t255 = true
  ·subst c6
   have H1 : (if 1 + a0.size ≤ 9223372036854775807 then (if 1 + a0.size + 7 ≤ 9223372036854775807 then (if 1 + a0.size + 7 + a1.size ≤ 9223372036854775807 then (if 1 + a0.size + 7 + a1.size + 1 ≤ 9223372036854775807 then ((impl_exprOf.f k (((((⟨#[40]⟩ : ByteArray) ++ a0) ++ (⟨#[41, 32, 97, 110, 100, 32, 40]⟩ : ByteArray)) ++ a1) ++ (⟨#[41]⟩ : ByteArray))).bind fun t256 => (some t256)) else (none)) else (none)) else (none)) else (none)) = some r := by rw [if_pos rfl] at H; exact H
   clear H; have H := H1; clear H1
   by_cases c7 : 1 + a0.size ≤ 9223372036854775807
   ·rw [if_pos c7] at H
    have c7b0 := eq_true c7
    have c7b1 : decide (1 + a0.size ≤ 9223372036854775807) = true := decide_eq_true c7
    try have c7b2 : (9223372036854775807 < 1 + a0.size) = False := eq_false (Nat.not_lt.2 c7)
    by_cases c8 : 1 + a0.size + 7 ≤ 9223372036854775807
    ·rw [if_pos c8] at H
     have c8b0 := eq_true c8
     have c8b1 : decide (1 + a0.size + 7 ≤ 9223372036854775807) = true := decide_eq_true c8
     try have c8b2 : (9223372036854775807 < 1 + a0.size + 7) = False := eq_false (Nat.not_lt.2 c8)
     by_cases c9 : 1 + a0.size + 7 + a1.size ≤ 9223372036854775807
     ·rw [if_pos c9] at H
      have c9b0 := eq_true c9
      have c9b1 : decide (1 + a0.size + 7 + a1.size ≤ 9223372036854775807) = true := decide_eq_true c9
      try have c9b2 : (9223372036854775807 < 1 + a0.size + 7 + a1.size) = False := eq_false (Nat.not_lt.2 c9)
      by_cases c10 : 1 + a0.size + 7 + a1.size + 1 ≤ 9223372036854775807
      ·rw [if_pos c10] at H
       have c10b0 := eq_true c10
       have c10b1 : decide (1 + a0.size + 7 + a1.size + 1 ≤ 9223372036854775807) = true := decide_eq_true c10
       try have c10b2 : (9223372036854775807 < 1 + a0.size + 7 + a1.size + 1) = False := eq_false (Nat.not_lt.2 c10)
       replace H := Option.bind_eq_some_iff.mp H
       obtain ⟨t256, A110, H⟩ := H
       replace H : (some t256) = some r := H
       have A11 := Aside0.mk A110; clear A110
       obtain rfl := Option.some.inj H
       go_enter Try.func29, Try.ntmps29
       go_wp2_with (first | ((with_reducible refine gate_callee (f := 19) rfl ?_); refine goesL_ (some 6) rfl rfl Try.func19 (by kernel_rfl) rfl #[.string a0] rfl (by (try simp only [List.map_toArray, List.map_cons, List.map_nil]); first | done | rfl) ?_; (with_reducible refine (impl_ValidExpr.calls k a0 true _ A3.out).mono ?_); rintro e w12 ⟨rfl, hb⟩; refine ⟨_, rfl, ?_⟩; replace HB := Aside0.mk (below_step (by repeat first | (with_reducible first | exact HB.out | apply below_alloc | apply pw_below_drewN | apply below_drew1) | exact HB.out) hb); (try clear hb)) | (go_at_call 19; (with_reducible refine (impl_ValidExpr.calls k a1 true _ A5.out).mono ?_); rintro e w13 ⟨rfl, hb⟩; replace HB := Aside0.mk (below_step (by repeat first | (with_reducible first | exact HB.out | apply below_alloc | apply pw_below_drewN | apply below_drew1) | exact HB.out) hb); (try clear hb)) | ((with_reducible refine gate_callee (f := 58) rfl ?_); refine goesL_ (some 19) rfl rfl Try.func58 (by kernel_rfl) rfl #[.string (((((⟨#[40]⟩ : ByteArray) ++ a0) ++ (⟨#[41, 32, 97, 110, 100, 32, 40]⟩ : ByteArray)) ++ a1) ++ (⟨#[41]⟩ : ByteArray))] rfl (by (try simp only [List.map_toArray, List.map_cons, List.map_nil]); first | done | rfl) ?_; (with_reducible refine (impl_exprOf.calls k (((((⟨#[40]⟩ : ByteArray) ++ a0) ++ (⟨#[41, 32, 97, 110, 100, 32, 40]⟩ : ByteArray)) ++ a1) ++ (⟨#[41]⟩ : ByteArray)) t256 _ A11.out).mono ?_); rintro e w14 ⟨rfl, hb⟩; refine ⟨_, rfl, ?_⟩; replace HB := Aside0.mk (below_step (by repeat first | (with_reducible first | exact HB.out | apply below_alloc | apply pw_below_drewN | apply below_drew1) | exact HB.out) hb); (try clear hb)))
       go_ret
       exact ⟨by first | rfl | (simp [errW_none, errW_some] <;> rfl) | (simp [*, errW_none, errW_some] <;> rfl), by repeat (first | (with_reducible first | exact HB.out | apply below_alloc | apply pw_below_drewN | apply below_drew1) | exact HB.out)⟩
      ·rw [if_neg c10] at H
       exact absurd H (by simp)
     ·rw [if_neg c9] at H
      exact absurd H (by simp)
    ·rw [if_neg c8] at H
     exact absurd H (by simp)
   ·rw [if_neg c7] at H
    exact absurd H (by simp)
  ·replace c6 := Bool.eq_false_iff.mpr c6
   subst c6
   have H1 : (some (⟨#[]⟩ : ByteArray)) = some r := by rw [if_neg (show ¬ (false = true) by decide)] at H; exact H
   clear H; have H := H1; clear H1
   obtain rfl := Option.some.inj H
   go_enter Try.func29, Try.ntmps29
   go_wp2_with (first | ((with_reducible refine gate_callee (f := 19) rfl ?_); refine goesL_ (some 6) rfl rfl Try.func19 (by kernel_rfl) rfl #[.string a0] rfl (by (try simp only [List.map_toArray, List.map_cons, List.map_nil]); first | done | rfl) ?_; (with_reducible refine (impl_ValidExpr.calls k a0 true _ A3.out).mono ?_); rintro e w15 ⟨rfl, hb⟩; refine ⟨_, rfl, ?_⟩; replace HB := Aside0.mk (below_step (by repeat first | (with_reducible first | exact HB.out | apply below_alloc | apply pw_below_drewN | apply below_drew1) | exact HB.out) hb); (try clear hb)) | (go_at_call 19; (with_reducible refine (impl_ValidExpr.calls k a1 false _ A5.out).mono ?_); rintro e w16 ⟨rfl, hb⟩; replace HB := Aside0.mk (below_step (by repeat first | (with_reducible first | exact HB.out | apply below_alloc | apply pw_below_drewN | apply below_drew1) | exact HB.out) hb); (try clear hb)))
   go_ret
   exact ⟨by first | rfl | (simp [errW_none, errW_some] <;> rfl) | (simp [*, errW_none, errW_some] <;> rfl), by repeat (first | (with_reducible first | exact HB.out | apply below_alloc | apply pw_below_drewN | apply below_drew1) | exact HB.out)⟩
 ·replace c4 := Bool.eq_false_iff.mpr c4
  subst c4
  have H1 : (some (⟨#[]⟩ : ByteArray)) = some r := by rw [if_neg (show ¬ (false = true) by decide)] at H; exact H
  clear H; have H := H1; clear H1
  obtain rfl := Option.some.inj H
  go_enter Try.func29, Try.ntmps29
  go_wp2_with (first | ((with_reducible refine gate_callee (f := 19) rfl ?_); refine goesL_ (some 6) rfl rfl Try.func19 (by kernel_rfl) rfl #[.string a0] rfl (by (try simp only [List.map_toArray, List.map_cons, List.map_nil]); first | done | rfl) ?_; (with_reducible refine (impl_ValidExpr.calls k a0 false _ A3.out).mono ?_); rintro e w17 ⟨rfl, hb⟩; refine ⟨_, rfl, ?_⟩; replace HB := Aside0.mk (below_step (by repeat first | (with_reducible first | exact HB.out | apply below_alloc | apply pw_below_drewN | apply below_drew1) | exact HB.out) hb); (try clear hb)))
  go_ret
  exact ⟨by first | rfl | (simp [errW_none, errW_some] <;> rfl) | (simp [*, errW_none, errW_some] <;> rfl), by repeat (first | (with_reducible first | exact HB.out | apply below_alloc | apply pw_below_drewN | apply below_drew1) | exact HB.out)⟩

/-! ### spec_hasText: function 67 -/
def spec_hasText.l0 : Nat → List ByteArray → ByteArray → Int → Option (Bool)
 | 0, _, _, _ => none
 | k + 1, x0, x1, x5 => if x5 < (x0.length : Int) then (if 0 ≤ x5 then (if (rdOf ByteArray.empty x0 x5).toList = x1.toList then (some true) else (spec_hasText.l0 k x0 x1 (wrap64 (x5 + 1)))) else (none)) else (some false)
def spec_hasText.f (k : Nat) (l0 : List ByteArray) (a1 : ByteArray) : Option (Bool) := spec_hasText.l0 k l0 a1 0
theorem spec_hasText.mono_l : ∀ k, (∀ y0 y1 y2, LeO (spec_hasText.l0 k y0 y1 y2) (spec_hasText.l0 (k + 1) y0 y1 y2))
 | 0 => fun _ _ _ r h => by simp [spec_hasText.l0] at h
 | k + 1 => by
  have ih0 := spec_hasText.mono_l k
  ·intro y0 y1 y2
   unfold spec_hasText.l0
   repeat' first
   | (with_reducible exact ih0 _ _ _)
   | (with_reducible exact LeO.refl _)
   | (with_reducible exact LeO.none _)
   | (with_reducible refine LeO.ite ?_ ?_)
   | (with_reducible refine LeO.bind ?_ (fun _ => ?_))
   | refine LeO.ite ?_ ?_
   | refine LeO.bind ?_ (fun _ => ?_)
theorem spec_hasText.mono : ∀ a0 a1 k, LeO (spec_hasText.f k a0 a1) (spec_hasText.f (k + 1) a0 a1) := by
 intro a0 a1 k
 have ih0 := spec_hasText.mono_l k
 unfold spec_hasText.f
 repeat' first
   | (with_reducible exact ih0 _ _ _)
   | (with_reducible exact LeO.refl _)
   | (with_reducible exact LeO.none _)
   | (with_reducible refine LeO.ite ?_ ?_)
   | (with_reducible refine LeO.bind ?_ (fun _ => ?_))
   | refine LeO.ite ?_ ?_
   | refine LeO.bind ?_ (fun _ => ?_)
set_option maxHeartbeats 8000000 in
set_option maxRecDepth 100000 in
theorem spec_hasText.calls (k : Nat) (A0 : Option Addr) (c0 : Nat) (l0 : List ByteArray) (a1 : ByteArray) (r : Bool) (w : World) (hr0 : Kd.C Kd.string w A0 l0.length l0) (hc0 : l0.length ≤ c0) (h : spec_hasText.f k l0 a1 = some r) :
  Calls Try.prog 67 #[.slice A0 l0.length c0, .string a1] w fun e w' => e = .returned (.bool r) ∧ Drawn0 w w' := by
 have HR0 := Aside0.mk hr0; have HC0 := Aside0.mk hc0; clear hr0 hc0
 have H : (spec_hasText.l0 k l0 a1 0) = some r := h
 clear h; have H' := Aside0.mk H; clear H
 go_enter Try.func67, Try.ntmps67
 go_wp2
 go_loopg [5] k (fun kq v5 w' => ∃ (x5_1 : Int), v5 = .int .i64 x5_1 ∧ Aside0 (spec_hasText.l0 kq l0 a1 x5_1 = some r) ∧ Aside0 (kq ≤ k) ∧ Drawn0 w w')
 case atStart => exact ⟨(0), (by first | rfl | (simp; done) | (simp [*]; done)), H', ⟨Nat.le_refl _⟩, by repeat (first | exact Drawn0.refl _ | apply Drawn0.step)⟩
 case round =>
  clear H'; try clear p2
  obtain ⟨x5_1, rfl, HA, HK1, ⟨m1, rfl⟩⟩ := hrel
  cases gk with
  | zero => exact absurd HA.out (by simp [spec_hasText.l0])
  | succ k1 =>
   have H := HA.out; clear HA
   simp only [spec_hasText.l0] at H
   by_cases c3 : x5_1 < (l0.length : Int)
   ·rw [if_pos c3] at H
    have c3b0 : decide (x5_1 < (l0.length : Int)) = true := decide_eq_true c3
    clear c3
    by_cases c4 : 0 ≤ x5_1
    ·rw [if_pos c4] at H
     have c4b0 : decide (0 ≤ x5_1) = true := decide_eq_true c4
     clear c4
     by_cases c5 : (rdOf ByteArray.empty l0 x5_1).toList = a1.toList
     ·rw [if_pos c5] at H
      have c5b0 : ((rdOf ByteArray.empty l0 x5_1).toList == a1.toList) = true := beq_iff_eq.mpr c5
      have c5b1 : ((rdOf ByteArray.empty l0 x5_1).toList != a1.toList) = false := bne_eq_false_iff_eq.mpr c5
      clear c5
      obtain rfl := Option.some.inj H
      have p257 : 0 ≤ (x5_1 : Int) := of_decide_eq_true (by first | (with_reducible assumption) | assumption)
      have q257 : x5_1 < (l0.length : Int) := of_decide_eq_true (by first | (with_reducible assumption) | assumption)
      obtain ⟨ad257, e257, hx257_0⟩ := Kd.at_string HR0.out x5_1 p257 q257
      cases e257
      replace p257 := eq_true p257
      replace q257 := eq_true q257
      go_wp2
      go_ret
      exact ⟨by first | rfl | (simp; done) | (simp [*]; done), by repeat (first | exact Drawn0.refl _ | apply Drawn0.step)⟩
     ·rw [if_neg c5] at H
      have c5b0 : ((rdOf ByteArray.empty l0 x5_1).toList == a1.toList) = false := beq_eq_false_iff_ne.mpr c5
      have c5b1 : ((rdOf ByteArray.empty l0 x5_1).toList != a1.toList) = true := bne_iff_ne.mpr c5
      have H' := Aside0.mk H; clear H
      have p257 : 0 ≤ (x5_1 : Int) := of_decide_eq_true (by first | (with_reducible assumption) | assumption)
      have q257 : x5_1 < (l0.length : Int) := of_decide_eq_true (by first | (with_reducible assumption) | assumption)
      obtain ⟨ad257, e257, hx257_0⟩ := Kd.at_string HR0.out x5_1 p257 q257
      cases e257
      replace p257 := eq_true p257
      replace q257 := eq_true q257
      go_wp2
      go_roundg k1
      case measure => have := HK1.out; omega
      case rel => exact ⟨(wrap64 (x5_1 + 1)), (by first | rfl | (simp; done) | (simp [*]; done)), H', ⟨by have := HK1.out; omega⟩, by repeat (first | exact Drawn0.refl _ | apply Drawn0.step)⟩
    ·rw [if_neg c4] at H
     exact absurd H (by simp)
   ·rw [if_neg c3] at H
    have c3b0 : decide (x5_1 < (l0.length : Int)) = false := decide_eq_false c3
    clear c3
    obtain rfl := Option.some.inj H
    go_wp2
    go_ret
    exact ⟨by first | rfl | (simp; done) | (simp [*]; done), by repeat (first | exact Drawn0.refl _ | apply Drawn0.step)⟩

/-! ### spec_inRange: function 88 -/
def spec_inRange.f (a0 : Int) (a1 : Int) (a2 : Int) : Option (Bool) := if a1 ≤ a0 then (some (decide (a0 ≤ a2))) else (some false)
set_option maxHeartbeats 8000000 in
set_option maxRecDepth 100000 in
theorem spec_inRange.calls (a0 : Int) (a1 : Int) (a2 : Int) (r : Bool) (w : World) (h : spec_inRange.f a0 a1 a2 = some r) :
  Calls Try.prog 88 #[.int .i64 a0, .int .i64 a1, .int .i64 a2] w fun e w' => e = .returned (.bool r) ∧ Drawn0 w w' := by
 have H : (if a1 ≤ a0 then (some (decide (a0 ≤ a2))) else (some false)) = some r := h
 clear h
 by_cases c4 : a1 ≤ a0
 ·rw [if_pos c4] at H
  have c4b0 : decide (a1 ≤ a0) = true := decide_eq_true c4
  clear c4
  obtain rfl := Option.some.inj H
  go_enter Try.func88, Try.ntmps88
  go_wp2
  go_ret
  exact ⟨by first | rfl | (simp; done) | (simp [*]; done), by repeat (first | exact Drawn0.refl _ | apply Drawn0.step)⟩
 ·rw [if_neg c4] at H
  have c4b0 : decide (a1 ≤ a0) = false := decide_eq_false c4
  clear c4
  obtain rfl := Option.some.inj H
  go_enter Try.func88, Try.ntmps88
  go_wp2
  go_ret
  exact ⟨by first | rfl | (simp; done) | (simp [*]; done), by repeat (first | exact Drawn0.refl _ | apply Drawn0.step)⟩

/-! ### spec_validName: function 70 -/
def spec_validName.l0 : Nat → ByteArray → Int → Option (Bool)
 | 0, _, _ => none
 | k + 1, x0, x3 => if x3 < (x0.size : Int) then (if 0 ≤ x3 then (if (bt x0 x3) < 97 then (some false) else (if (bt x0 x3) > 122 then (some false) else (spec_validName.l0 k x0 (wrap64 (x3 + 1))))) else (none)) else ((spec_inRange.f (x0.size : Int) 1 6).bind fun t258 => (if t258 = true then (if x0.toList = ([97, 110, 100] : List UInt8) then (some false) else (if x0.toList = ([111, 114] : List UInt8) then (some false) else (some (x0.toList != ([110, 111, 116] : List UInt8))))) else (some false)))
def spec_validName.f (k : Nat) (a0 : ByteArray) : Option (Bool) := spec_validName.l0 k a0 0
theorem spec_validName.mono_l : ∀ k, (∀ y0 y1, LeO (spec_validName.l0 k y0 y1) (spec_validName.l0 (k + 1) y0 y1))
 | 0 => fun _ _ r h => by simp [spec_validName.l0] at h
 | k + 1 => by
  have ih0 := spec_validName.mono_l k
  ·intro y0 y1
   unfold spec_validName.l0
   repeat' first
   | (with_reducible exact ih0 _ _)
   | (with_reducible exact LeO.refl _)
   | (with_reducible exact LeO.none _)
   | (with_reducible refine LeO.ite ?_ ?_)
   | (with_reducible refine LeO.bind ?_ (fun _ => ?_))
   | refine LeO.ite ?_ ?_
   | refine LeO.bind ?_ (fun _ => ?_)
theorem spec_validName.mono : ∀ a0 k, LeO (spec_validName.f k a0) (spec_validName.f (k + 1) a0) := by
 intro a0 k
 have ih0 := spec_validName.mono_l k
 unfold spec_validName.f
 repeat' first
   | (with_reducible exact ih0 _ _)
   | (with_reducible exact LeO.refl _)
   | (with_reducible exact LeO.none _)
   | (with_reducible refine LeO.ite ?_ ?_)
   | (with_reducible refine LeO.bind ?_ (fun _ => ?_))
   | refine LeO.ite ?_ ?_
   | refine LeO.bind ?_ (fun _ => ?_)
set_option maxHeartbeats 8000000 in
set_option maxRecDepth 100000 in
theorem spec_validName.calls (k : Nat) (a0 : ByteArray) (r : Bool) (w : World) (h : spec_validName.f k a0 = some r) :
  Calls Try.prog 70 #[.string a0] w fun e w' => e = .returned (.bool r) ∧ Drawn0 w w' := by
 have H : (spec_validName.l0 k a0 0) = some r := h
 clear h; have H' := Aside0.mk H; clear H
 go_enter Try.func70, Try.ntmps70
 go_wp2
 go_loopg [3] k (fun kq v3 w' => ∃ (x3_1 : Int), v3 = .int .i64 x3_1 ∧ Aside0 (spec_validName.l0 kq a0 x3_1 = some r) ∧ Aside0 (kq ≤ k) ∧ Drawn0 w w')
 case atStart => exact ⟨(0), (by first | rfl | (simp; done) | (simp [*]; done)), H', ⟨Nat.le_refl _⟩, by repeat (first | exact Drawn0.refl _ | apply Drawn0.step)⟩
 case round =>
  clear H'
  obtain ⟨x3_1, rfl, HA, HK1, ⟨m1, rfl⟩⟩ := hrel
  cases gk with
  | zero => exact absurd HA.out (by simp [spec_validName.l0])
  | succ k1 =>
   have H := HA.out; clear HA
   simp only [spec_validName.l0] at H
   by_cases c2 : x3_1 < (a0.size : Int)
   ·rw [if_pos c2] at H
    have c2b0 : decide (x3_1 < (a0.size : Int)) = true := decide_eq_true c2
    clear c2
    by_cases c3 : 0 ≤ x3_1
    ·rw [if_pos c3] at H
     have c3b0 : decide (0 ≤ x3_1) = true := decide_eq_true c3
     clear c3
     by_cases c5 : (bt a0 x3_1) < 97
     ·rw [if_pos c5] at H
      have c5b0 : decide ((bt a0 x3_1) < 97) = true := decide_eq_true c5
      clear c5
      obtain rfl := Option.some.inj H
      have p4 : 0 ≤ (x3_1 : Int) := of_decide_eq_true (by first | (with_reducible assumption) | assumption)
      have q4 : x3_1 < (a0.size : Int) := of_decide_eq_true (by first | (with_reducible assumption) | assumption)
      have hx4 := bt_at a0 x3_1
      replace p4 := eq_true p4
      replace q4 := eq_true q4
      go_wp2
      go_ret
      exact ⟨by first | rfl | (simp; done) | (simp [*]; done), by repeat (first | exact Drawn0.refl _ | apply Drawn0.step)⟩
     ·rw [if_neg c5] at H
      have c5b0 : decide ((bt a0 x3_1) < 97) = false := decide_eq_false c5
      clear c5
      by_cases c7 : (bt a0 x3_1) > 122
      ·rw [if_pos c7] at H
       have c7b0 : decide (122 < (bt a0 x3_1)) = true := decide_eq_true c7
       clear c7
       obtain rfl := Option.some.inj H
       have p4 : 0 ≤ (x3_1 : Int) := of_decide_eq_true (by first | (with_reducible assumption) | assumption)
       have q4 : x3_1 < (a0.size : Int) := of_decide_eq_true (by first | (with_reducible assumption) | assumption)
       have hx4 := bt_at a0 x3_1
       replace p4 := eq_true p4
       replace q4 := eq_true q4
       have p6 : 0 ≤ (x3_1 : Int) := of_decide_eq_true (by first | (with_reducible assumption) | assumption)
       have q6 : x3_1 < (a0.size : Int) := of_decide_eq_true (by first | (with_reducible assumption) | assumption)
       have hx6 := bt_at a0 x3_1
       replace p6 := eq_true p6
       replace q6 := eq_true q6
       go_wp2
       go_ret
       exact ⟨by first | rfl | (simp; done) | (simp [*]; done), by repeat (first | exact Drawn0.refl _ | apply Drawn0.step)⟩
      ·rw [if_neg c7] at H
       have c7b0 : decide (122 < (bt a0 x3_1)) = false := decide_eq_false c7
       clear c7; have H' := Aside0.mk H; clear H
       have p4 : 0 ≤ (x3_1 : Int) := of_decide_eq_true (by first | (with_reducible assumption) | assumption)
       have q4 : x3_1 < (a0.size : Int) := of_decide_eq_true (by first | (with_reducible assumption) | assumption)
       have hx4 := bt_at a0 x3_1
       replace p4 := eq_true p4
       replace q4 := eq_true q4
       have p6 : 0 ≤ (x3_1 : Int) := of_decide_eq_true (by first | (with_reducible assumption) | assumption)
       have q6 : x3_1 < (a0.size : Int) := of_decide_eq_true (by first | (with_reducible assumption) | assumption)
       have hx6 := bt_at a0 x3_1
       replace p6 := eq_true p6
       replace q6 := eq_true q6
       go_wp2
       go_roundg k1
       case measure => have := HK1.out; omega
       case rel => exact ⟨(wrap64 (x3_1 + 1)), (by first | rfl | (simp; done) | (simp [*]; done)), H', ⟨by have := HK1.out; omega⟩, by repeat (first | exact Drawn0.refl _ | apply Drawn0.step)⟩
    ·rw [if_neg c3] at H
     exact absurd H (by simp)
   ·rw [if_neg c2] at H
    have c2b0 : decide (x3_1 < (a0.size : Int)) = false := decide_eq_false c2
    clear c2
    replace H := Option.bind_eq_some_iff.mp H
    obtain ⟨t258, A80, H⟩ := H
    replace H : (if t258 = true then (if a0.toList = ([97, 110, 100] : List UInt8) then (some false) else (if a0.toList = ([111, 114] : List UInt8) then (some false) else (some (a0.toList != ([110, 111, 116] : List UInt8))))) else (some false)) = some r := H
    have A8 := Aside0.mk A80; clear A80
    by_cases c9 : t258 = true
    ·subst c9
     have H1 : (if a0.toList = ([97, 110, 100] : List UInt8) then (some false) else (if a0.toList = ([111, 114] : List UInt8) then (some false) else (some (a0.toList != ([110, 111, 116] : List UInt8))))) = some r := by rw [if_pos rfl] at H; exact H
     clear H; have H := H1; clear H1
     by_cases c10 : a0.toList = ([97, 110, 100] : List UInt8)
     ·rw [if_pos c10] at H
      have c10b0 : (a0.toList == ([97, 110, 100] : List UInt8)) = true := beq_iff_eq.mpr c10
      have c10b1 : (a0.toList != ([97, 110, 100] : List UInt8)) = false := bne_eq_false_iff_eq.mpr c10
      clear c10
      obtain rfl := Option.some.inj H
      go_wp2_with (first | ((with_reducible refine gate_callee (f := 88) rfl ?_); refine goesL_ (some 22) rfl rfl Try.func88 (by kernel_rfl) rfl #[.int .i64 (a0.size : Int), .int .i64 1, .int .i64 6] rfl (by (try simp only [List.map_toArray, List.map_cons, List.map_nil]); first | done | rfl) ?_; (with_reducible refine (spec_inRange.calls (a0.size : Int) 1 6 true _ A8.out).mono ?_); rintro e w' ⟨rfl, ⟨nd, rfl⟩⟩; refine ⟨_, rfl, ?_⟩))
      go_ret
      exact ⟨by first | rfl | (simp; done) | (simp [*]; done), by repeat (first | exact Drawn0.refl _ | apply Drawn0.step)⟩
     ·rw [if_neg c10] at H
      have c10b0 : (a0.toList == ([97, 110, 100] : List UInt8)) = false := beq_eq_false_iff_ne.mpr c10
      have c10b1 : (a0.toList != ([97, 110, 100] : List UInt8)) = true := bne_iff_ne.mpr c10
      by_cases c11 : a0.toList = ([111, 114] : List UInt8)
      ·rw [if_pos c11] at H
       have c11b0 : (a0.toList == ([111, 114] : List UInt8)) = true := beq_iff_eq.mpr c11
       have c11b1 : (a0.toList != ([111, 114] : List UInt8)) = false := bne_eq_false_iff_eq.mpr c11
       clear c11
       obtain rfl := Option.some.inj H
       go_wp2_with (first | ((with_reducible refine gate_callee (f := 88) rfl ?_); refine goesL_ (some 22) rfl rfl Try.func88 (by kernel_rfl) rfl #[.int .i64 (a0.size : Int), .int .i64 1, .int .i64 6] rfl (by (try simp only [List.map_toArray, List.map_cons, List.map_nil]); first | done | rfl) ?_; (with_reducible refine (spec_inRange.calls (a0.size : Int) 1 6 true _ A8.out).mono ?_); rintro e w' ⟨rfl, ⟨nd, rfl⟩⟩; refine ⟨_, rfl, ?_⟩))
       go_ret
       exact ⟨by first | rfl | (simp; done) | (simp [*]; done), by repeat (first | exact Drawn0.refl _ | apply Drawn0.step)⟩
      ·rw [if_neg c11] at H
       have c11b0 : (a0.toList == ([111, 114] : List UInt8)) = false := beq_eq_false_iff_ne.mpr c11
       have c11b1 : (a0.toList != ([111, 114] : List UInt8)) = true := bne_iff_ne.mpr c11
       obtain rfl := Option.some.inj H
       go_wp2_with (first | ((with_reducible refine gate_callee (f := 88) rfl ?_); refine goesL_ (some 22) rfl rfl Try.func88 (by kernel_rfl) rfl #[.int .i64 (a0.size : Int), .int .i64 1, .int .i64 6] rfl (by (try simp only [List.map_toArray, List.map_cons, List.map_nil]); first | done | rfl) ?_; (with_reducible refine (spec_inRange.calls (a0.size : Int) 1 6 true _ A8.out).mono ?_); rintro e w' ⟨rfl, ⟨nd, rfl⟩⟩; refine ⟨_, rfl, ?_⟩))
       go_ret
       exact ⟨by first | rfl | (simp; done) | (simp [*]; done), by repeat (first | exact Drawn0.refl _ | apply Drawn0.step)⟩
    ·replace c9 := Bool.eq_false_iff.mpr c9
     subst c9
     have H1 : (some false) = some r := by rw [if_neg (show ¬ (false = true) by decide)] at H; exact H
     clear H; have H := H1; clear H1
     obtain rfl := Option.some.inj H
     go_wp2_with (first | ((with_reducible refine gate_callee (f := 88) rfl ?_); refine goesL_ (some 22) rfl rfl Try.func88 (by kernel_rfl) rfl #[.int .i64 (a0.size : Int), .int .i64 1, .int .i64 6] rfl (by (try simp only [List.map_toArray, List.map_cons, List.map_nil]); first | done | rfl) ?_; (with_reducible refine (spec_inRange.calls (a0.size : Int) 1 6 false _ A8.out).mono ?_); rintro e w' ⟨rfl, ⟨nd, rfl⟩⟩; refine ⟨_, rfl, ?_⟩))
     go_ret
     exact ⟨by first | rfl | (simp; done) | (simp [*]; done), by repeat (first | exact Drawn0.refl _ | apply Drawn0.step)⟩

/-- A state of type 72 at block g of W; what its slices lead to came in by w0. -/
def IsS72 (w0 W : World) (g : Nat) (f0 : ByteArray) (f1 : Int) (f2 : ByteArray) (f3 : ByteArray) (f4 : List ByteArray) (f5 : List ByteArray) (f6 : Bool) : Prop := ∃ A4 c4, ∃ A5 c5, W.heap[g]? = some (.cells #[.string f0, .int .i64 f1, .string f2, .string f3, .slice A4 f4.length c4, .slice A5 f5.length c5, .bool f6] 72 (0, 0)) ∧ w0.heap.size ≤ g ∧ Kd.C Kd.string w0 A4 f4.length f4 ∧ Kd.C Kd.string w0 A5 f5.length f5
theorem IsS72.grown {w0 W : World} {g : Nat} {f0 : ByteArray} {f1 : Int} {f2 : ByteArray} {f3 : ByteArray} {f4 : List ByteArray} {f5 : List ByteArray} {f6 : Bool} {W1 : World} {row : Option Nat} (h : IsS72 w0 W g f0 f1 f2 f3 f4 f5 f6) (hw : W.grownBy W1 row) (hne : some g ≠ row) : IsS72 w0 W1 g f0 f1 f2 f3 f4 f5 f6 := by
 obtain ⟨A4, c4, A5, c5, hb, hg, hr4, hr5⟩ := h
 exact ⟨A4, c4, A5, c5, blk_grown hb hw hne, hg, hr4, hr5⟩
theorem IsS72.own_neN {w0 W : World} {g : Nat} {f0 : ByteArray} {f1 : Int} {f2 : ByteArray} {f3 : ByteArray} {f4 : List ByteArray} {f5 : List ByteArray} {f6 : Bool} {α : Type} {d : Kd α} {e : Nat} {base : Nat} {ok : Nat → Prop} {v : Value} {xs : List α} (h : IsS72 w0 W g f0 f1 f2 f3 f4 f5 f6) (ho : Kd.N d e W base ok v xs) (ht : e ≠ 72) : some g ≠ v.ownBlock := by
 obtain ⟨A4, c4, A5, c5, hb, hg, hr4, hr5⟩ := h
 exact Kd.N_ne ho hb ht
theorem IsS72.fresh {w0 W : World} {g : Nat} {f0 : ByteArray} {f1 : Int} {f2 : ByteArray} {f3 : ByteArray} {f4 : List ByteArray} {f5 : List ByteArray} {f6 : Bool} (h : IsS72 w0 W g f0 f1 f2 f3 f4 f5 f6) : ∀ k, W.heap.size ≤ k → k ≠ g := by
 obtain ⟨A4, c4, A5, c5, hb, hg, hr4, hr5⟩ := h
 exact Kd.freshB hb
theorem IsS72.kept {w0 W : World} {g : Nat} {f0 : ByteArray} {f1 : Int} {f2 : ByteArray} {f3 : ByteArray} {f4 : List ByteArray} {f5 : List ByteArray} {f6 : Bool} {W1 : World} {S : Nat → Prop} (h : IsS72 w0 W g f0 f1 f2 f3 f4 f5 f6) (hk : Kept W W1 S) (hne : ¬ S g) : IsS72 w0 W1 g f0 f1 f2 f3 f4 f5 f6 := by
 obtain ⟨A4, c4, A5, c5, hb, hg, hr4, hr5⟩ := h
 exact ⟨A4, c4, A5, c5, blk_kept hb hk hne, hg, hr4, hr5⟩
theorem IsS72.below {w0 W : World} {g : Nat} {f0 : ByteArray} {f1 : Int} {f2 : ByteArray} {f3 : ByteArray} {f4 : List ByteArray} {f5 : List ByteArray} {f6 : Bool} {W1 : World} (h : IsS72 w0 W g f0 f1 f2 f3 f4 f5 f6) (hw : Below W.heap.size W W1) : IsS72 w0 W1 g f0 f1 f2 f3 f4 f5 f6 := h.grown (grown_of_below hw none) (by simp)
theorem IsS72.alloc {w0 W : World} {g : Nat} {f0 : ByteArray} {f1 : Int} {f2 : ByteArray} {f3 : ByteArray} {f4 : List ByteArray} {f5 : List ByteArray} {f6 : Bool} (h : IsS72 w0 W g f0 f1 f2 f3 f4 f5 f6) (o : Obj) : IsS72 w0 (W.alloc o) g f0 f1 f2 f3 f4 f5 f6 := h.below (below_alloc (Below.refl _ _) o)
theorem IsS72.drewN {w0 W : World} {g : Nat} {f0 : ByteArray} {f1 : Int} {f2 : ByteArray} {f3 : ByteArray} {f4 : List ByteArray} {f5 : List ByteArray} {f6 : Bool} (h : IsS72 w0 W g f0 f1 f2 f3 f4 f5 f6) (m : Nat) : IsS72 w0 (W.drewN m) g f0 f1 f2 f3 f4 f5 f6 := h
theorem IsS72.drew {w0 W : World} {g : Nat} {f0 : ByteArray} {f1 : Int} {f2 : ByteArray} {f3 : ByteArray} {f4 : List ByteArray} {f5 : List ByteArray} {f6 : Bool} (h : IsS72 w0 W g f0 f1 f2 f3 f4 f5 f6) : IsS72 w0 W.drew g f0 f1 f2 f3 f4 f5 f6 := h
theorem IsS72.at_ {w0 W : World} {g : Nat} {f0 : ByteArray} {f1 : Int} {f2 : ByteArray} {f3 : ByteArray} {f4 : List ByteArray} {f5 : List ByteArray} {f6 : Bool} {w' : World} {m : Nat} (hq : W.drewN m = w') (h : IsS72 w0 W g f0 f1 f2 f3 f4 f5 f6) : IsS72 w0 w' g f0 f1 f2 f3 f4 f5 f6 := by subst hq; exact IsS72.drewN h m
theorem IsS72.same {w0 W : World} {g : Nat} {f0 : ByteArray} {f1 : Int} {f2 : ByteArray} {f3 : ByteArray} {f4 : List ByteArray} {f5 : List ByteArray} {f6 : Bool} {W2 : World} (_h : IsS72 w0 W g f0 f1 f2 f3 f4 f5 f6) (h2 : IsS72 w0 W2 g f0 f1 f2 f3 f4 f5 f6) : IsS72 w0 W2 g f0 f1 f2 f3 f4 f5 f6 := h2
theorem IsS72.apart {w0 W : World} {g : Nat} {f0 : ByteArray} {f1 : Int} {f2 : ByteArray} {f3 : ByteArray} {f4 : List ByteArray} {f5 : List ByteArray} {f6 : Bool} {α : Type} {d : Kd α} {e : Nat} {base : Nat} {ok : Nat → Prop} {v : Value} {xs : List α} (h : IsS72 w0 W g f0 f1 f2 f3 f4 f5 f6) (ho : d.R e W base ok v xs) (ht : ∀ q, q ∈ e :: d.E → q ≠ 72) : d.R e W base (fun k => ok k ∧ k ≠ g) v xs := by
 obtain ⟨A4, c4, A5, c5, hb, hg, hr4, hr5⟩ := h
 exact Kd.R_types ho hb ht
theorem IsS72.own_ne {w0 W : World} {g : Nat} {f0 : ByteArray} {f1 : Int} {f2 : ByteArray} {f3 : ByteArray} {f4 : List ByteArray} {f5 : List ByteArray} {f6 : Bool} {α : Type} {d : Kd α} {e : Nat} {base : Nat} {ok : Nat → Prop} {v : Value} {xs : List α} (h : IsS72 w0 W g f0 f1 f2 f3 f4 f5 f6) (ho : d.R e W base ok v xs) (ht : e ≠ 72) : some g ≠ v.ownBlock := by
 obtain ⟨A4, c4, A5, c5, hb, hg, hr4, hr5⟩ := h
 exact Kd.R_ne ho hb ht
theorem IsS72.apartQ {w0 W : World} {g : Nat} {f0 : ByteArray} {f1 : Int} {f2 : ByteArray} {f3 : ByteArray} {f4 : List ByteArray} {f5 : List ByteArray} {f6 : Bool} {α : Type} {d : Kd α} {e : Nat} {base : Nat} {ok : Nat → Prop} {v : Value} {xs : List α} (h : IsS72 w0 W g f0 f1 f2 f3 f4 f5 f6) (ho : d.Q e W base ok v xs) (ht : ∀ q, q ∈ e :: d.E → q ≠ 72) : d.Q e W base (fun k => ok k ∧ k ≠ g) v xs := by
 obtain ⟨A4, c4, A5, c5, hb, hg, hr4, hr5⟩ := h
 exact Kd.Q_types ho hb ht
theorem IsS72.own_neQ {w0 W : World} {g : Nat} {f0 : ByteArray} {f1 : Int} {f2 : ByteArray} {f3 : ByteArray} {f4 : List ByteArray} {f5 : List ByteArray} {f6 : Bool} {α : Type} {d : Kd α} {e : Nat} {base : Nat} {ok : Nat → Prop} {v : Value} {xs : List α} (h : IsS72 w0 W g f0 f1 f2 f3 f4 f5 f6) (ho : d.Q e W base ok v xs) (ht : e ≠ 72) : some g ≠ v.ownBlock := by
 obtain ⟨A4, c4, A5, c5, hb, hg, hr4, hr5⟩ := h
 exact Kd.Q_ne ho hb ht
theorem IsS72.apartS {w0 W : World} {g : Nat} {f0 : ByteArray} {f1 : Int} {f2 : ByteArray} {f3 : ByteArray} {f4 : List ByteArray} {f5 : List ByteArray} {f6 : Bool} {α : Type} {d : Kd α} {e : Nat} {base : Nat} {ok : Nat → Prop} {v : Value} {xs : List α} (h : IsS72 w0 W g f0 f1 f2 f3 f4 f5 f6) (ho : d.S e W base ok v xs) (ht : ∀ q, q ∈ e :: d.E → q ≠ 72) : d.S e W base (fun k => ok k ∧ k ≠ g) v xs := by
 obtain ⟨A4, c4, A5, c5, hb, hg, hr4, hr5⟩ := h
 exact Kd.S_types ho hb ht
theorem IsS72.own_neS {w0 W : World} {g : Nat} {f0 : ByteArray} {f1 : Int} {f2 : ByteArray} {f3 : ByteArray} {f4 : List ByteArray} {f5 : List ByteArray} {f6 : Bool} {α : Type} {d : Kd α} {e : Nat} {base : Nat} {ok : Nat → Prop} {v : Value} {xs : List α} (h : IsS72 w0 W g f0 f1 f2 f3 f4 f5 f6) (ho : d.S e W base ok v xs) (ht : e ≠ 72) : some g ≠ v.ownBlock := by
 obtain ⟨A4, c4, A5, c5, hb, hg, hr4, hr5⟩ := h
 exact Kd.S_ne ho hb ht
theorem IsS72.lt {w0 W : World} {g : Nat} {f0 : ByteArray} {f1 : Int} {f2 : ByteArray} {f3 : ByteArray} {f4 : List ByteArray} {f5 : List ByteArray} {f6 : Bool} (h : IsS72 w0 W g f0 f1 f2 f3 f4 f5 f6) : g < W.heap.size := by
 obtain ⟨A4, c4, A5, c5, hb, hg, hr4, hr5⟩ := h
 exact blk_lt hb
theorem IsS72.ge {w0 W : World} {g : Nat} {f0 : ByteArray} {f1 : Int} {f2 : ByteArray} {f3 : ByteArray} {f4 : List ByteArray} {f5 : List ByteArray} {f6 : Bool} (h : IsS72 w0 W g f0 f1 f2 f3 f4 f5 f6) : w0.heap.size ≤ g := by
 obtain ⟨A4, c4, A5, c5, hb, hg, hr4, hr5⟩ := h
 exact hg
theorem IsS72.ne_blk {w0 W : World} {g : Nat} {f0 : ByteArray} {f1 : Int} {f2 : ByteArray} {f3 : ByteArray} {f4 : List ByteArray} {f5 : List ByteArray} {f6 : Bool} {a : Nat} {cs : Array Value} {t : TypeId} {fr : Nat × Nat} (h : IsS72 w0 W g f0 f1 f2 f3 f4 f5 f6) (hb2 : W.heap[a]? = some (.cells cs t fr)) (ht : t ≠ 72) : g ≠ a := by
 obtain ⟨A4, c4, A5, c5, hb, hg, hr4, hr5⟩ := h
 rintro rfl
 rw [hb] at hb2
 injection hb2 with hb2
 injection hb2 with _ ht2
 exact ht ht2.symm
theorem IsS72.far {w0 W : World} {g : Nat} {f0 : ByteArray} {f1 : Int} {f2 : ByteArray} {f3 : ByteArray} {f4 : List ByteArray} {f5 : List ByteArray} {f6 : Bool} {p : Addr} (h : IsS72 w0 W g f0 f1 f2 f3 f4 f5 f6) (hne : g ≠ p.block) (u : Value) : IsS72 w0 (W.setCell p u) g f0 f1 f2 f3 f4 f5 f6 := by
 obtain ⟨A4, c4, A5, c5, hb, hg, hr4, hr5⟩ := h
 exact ⟨A4, c4, A5, c5, blk_far hb hne u, hg, hr4, hr5⟩
theorem cellS72_0 {W : World} {g : Nat} {A4 : Option Addr} {c4 : Nat} {A5 : Option Addr} {c5 : Nat} {f0 : ByteArray} {f1 : Int} {f2 : ByteArray} {f3 : ByteArray} {f4 : List ByteArray} {f5 : List ByteArray} {f6 : Bool} (h : W.heap[g]? = some (.cells #[.string f0, .int .i64 f1, .string f2, .string f3, .slice A4 f4.length c4, .slice A5 f5.length c5, .bool f6] 72 (0, 0))) : W.cell? ⟨g, 0, none⟩ = some (.string f0) := (blk_cell h 0).trans rfl
theorem IsS72.set_0 {w0 W : World} {g : Nat} {f0 : ByteArray} {f1 : Int} {f2 : ByteArray} {f3 : ByteArray} {f4 : List ByteArray} {f5 : List ByteArray} {f6 : Bool} (h : IsS72 w0 W g f0 f1 f2 f3 f4 f5 f6) (x : ByteArray) : IsS72 w0 (W.setCell ⟨g, 0, none⟩ (.string x)) g x f1 f2 f3 f4 f5 f6 := by
 obtain ⟨A4, c4, A5, c5, hb, hg, hr4, hr5⟩ := h
 exact ⟨A4, c4, A5, c5, by simpa using blk_set hb 0 (.string x), hg, hr4, hr5⟩
theorem cellS72_1 {W : World} {g : Nat} {A4 : Option Addr} {c4 : Nat} {A5 : Option Addr} {c5 : Nat} {f0 : ByteArray} {f1 : Int} {f2 : ByteArray} {f3 : ByteArray} {f4 : List ByteArray} {f5 : List ByteArray} {f6 : Bool} (h : W.heap[g]? = some (.cells #[.string f0, .int .i64 f1, .string f2, .string f3, .slice A4 f4.length c4, .slice A5 f5.length c5, .bool f6] 72 (0, 0))) : W.cell? ⟨g, 1, none⟩ = some (.int .i64 f1) := (blk_cell h 1).trans rfl
theorem IsS72.set_1 {w0 W : World} {g : Nat} {f0 : ByteArray} {f1 : Int} {f2 : ByteArray} {f3 : ByteArray} {f4 : List ByteArray} {f5 : List ByteArray} {f6 : Bool} (h : IsS72 w0 W g f0 f1 f2 f3 f4 f5 f6) (x : Int) : IsS72 w0 (W.setCell ⟨g, 1, none⟩ (.int .i64 x)) g f0 x f2 f3 f4 f5 f6 := by
 obtain ⟨A4, c4, A5, c5, hb, hg, hr4, hr5⟩ := h
 exact ⟨A4, c4, A5, c5, by simpa using blk_set hb 1 (.int .i64 x), hg, hr4, hr5⟩
theorem cellS72_2 {W : World} {g : Nat} {A4 : Option Addr} {c4 : Nat} {A5 : Option Addr} {c5 : Nat} {f0 : ByteArray} {f1 : Int} {f2 : ByteArray} {f3 : ByteArray} {f4 : List ByteArray} {f5 : List ByteArray} {f6 : Bool} (h : W.heap[g]? = some (.cells #[.string f0, .int .i64 f1, .string f2, .string f3, .slice A4 f4.length c4, .slice A5 f5.length c5, .bool f6] 72 (0, 0))) : W.cell? ⟨g, 2, none⟩ = some (.string f2) := (blk_cell h 2).trans rfl
theorem IsS72.set_2 {w0 W : World} {g : Nat} {f0 : ByteArray} {f1 : Int} {f2 : ByteArray} {f3 : ByteArray} {f4 : List ByteArray} {f5 : List ByteArray} {f6 : Bool} (h : IsS72 w0 W g f0 f1 f2 f3 f4 f5 f6) (x : ByteArray) : IsS72 w0 (W.setCell ⟨g, 2, none⟩ (.string x)) g f0 f1 x f3 f4 f5 f6 := by
 obtain ⟨A4, c4, A5, c5, hb, hg, hr4, hr5⟩ := h
 exact ⟨A4, c4, A5, c5, by simpa using blk_set hb 2 (.string x), hg, hr4, hr5⟩
theorem cellS72_3 {W : World} {g : Nat} {A4 : Option Addr} {c4 : Nat} {A5 : Option Addr} {c5 : Nat} {f0 : ByteArray} {f1 : Int} {f2 : ByteArray} {f3 : ByteArray} {f4 : List ByteArray} {f5 : List ByteArray} {f6 : Bool} (h : W.heap[g]? = some (.cells #[.string f0, .int .i64 f1, .string f2, .string f3, .slice A4 f4.length c4, .slice A5 f5.length c5, .bool f6] 72 (0, 0))) : W.cell? ⟨g, 3, none⟩ = some (.string f3) := (blk_cell h 3).trans rfl
theorem IsS72.set_3 {w0 W : World} {g : Nat} {f0 : ByteArray} {f1 : Int} {f2 : ByteArray} {f3 : ByteArray} {f4 : List ByteArray} {f5 : List ByteArray} {f6 : Bool} (h : IsS72 w0 W g f0 f1 f2 f3 f4 f5 f6) (x : ByteArray) : IsS72 w0 (W.setCell ⟨g, 3, none⟩ (.string x)) g f0 f1 f2 x f4 f5 f6 := by
 obtain ⟨A4, c4, A5, c5, hb, hg, hr4, hr5⟩ := h
 exact ⟨A4, c4, A5, c5, by simpa using blk_set hb 3 (.string x), hg, hr4, hr5⟩
theorem cellS72_4 {W : World} {g : Nat} {A4 : Option Addr} {c4 : Nat} {A5 : Option Addr} {c5 : Nat} {f0 : ByteArray} {f1 : Int} {f2 : ByteArray} {f3 : ByteArray} {f4 : List ByteArray} {f5 : List ByteArray} {f6 : Bool} (h : W.heap[g]? = some (.cells #[.string f0, .int .i64 f1, .string f2, .string f3, .slice A4 f4.length c4, .slice A5 f5.length c5, .bool f6] 72 (0, 0))) : W.cell? ⟨g, 4, none⟩ = some (.slice A4 f4.length c4) := (blk_cell h 4).trans rfl
theorem cellS72_5 {W : World} {g : Nat} {A4 : Option Addr} {c4 : Nat} {A5 : Option Addr} {c5 : Nat} {f0 : ByteArray} {f1 : Int} {f2 : ByteArray} {f3 : ByteArray} {f4 : List ByteArray} {f5 : List ByteArray} {f6 : Bool} (h : W.heap[g]? = some (.cells #[.string f0, .int .i64 f1, .string f2, .string f3, .slice A4 f4.length c4, .slice A5 f5.length c5, .bool f6] 72 (0, 0))) : W.cell? ⟨g, 5, none⟩ = some (.slice A5 f5.length c5) := (blk_cell h 5).trans rfl
theorem cellS72_6 {W : World} {g : Nat} {A4 : Option Addr} {c4 : Nat} {A5 : Option Addr} {c5 : Nat} {f0 : ByteArray} {f1 : Int} {f2 : ByteArray} {f3 : ByteArray} {f4 : List ByteArray} {f5 : List ByteArray} {f6 : Bool} (h : W.heap[g]? = some (.cells #[.string f0, .int .i64 f1, .string f2, .string f3, .slice A4 f4.length c4, .slice A5 f5.length c5, .bool f6] 72 (0, 0))) : W.cell? ⟨g, 6, none⟩ = some (.bool f6) := (blk_cell h 6).trans rfl
theorem IsS72.set_6 {w0 W : World} {g : Nat} {f0 : ByteArray} {f1 : Int} {f2 : ByteArray} {f3 : ByteArray} {f4 : List ByteArray} {f5 : List ByteArray} {f6 : Bool} (h : IsS72 w0 W g f0 f1 f2 f3 f4 f5 f6) (x : Bool) : IsS72 w0 (W.setCell ⟨g, 6, none⟩ (.bool x)) g f0 f1 f2 f3 f4 f5 x := by
 obtain ⟨A4, c4, A5, c5, hb, hg, hr4, hr5⟩ := h
 exact ⟨A4, c4, A5, c5, by simpa using blk_set hb 6 (.bool x), hg, hr4, hr5⟩
theorem IsS72.new (w0 W : World) (A4 : Option Addr) (c4 : Nat) (A5 : Option Addr) (c5 : Nat) (f0 : ByteArray) (f1 : Int) (f2 : ByteArray) (f3 : ByteArray) (f4 : List ByteArray) (f5 : List ByteArray) (f6 : Bool) (hB : Below w0.heap.size w0 W) (hr4 : Kd.C Kd.string w0 A4 f4.length f4) (hr5 : Kd.C Kd.string w0 A5 f5.length f5) : IsS72 w0 (W.alloc (.cells #[.string f0, .int .i64 f1, .string f2, .string f3, .slice A4 f4.length c4, .slice A5 f5.length c5, .bool f6] 72)) W.heap.size f0 f1 f2 f3 f4 f5 f6 := ⟨A4, c4, A5, c5, by simpa using heap_alloc_new W _, hB.size, hr4, hr5⟩

/-! ### spec_eat: function 84 -/
def spec_eat.f (s0_0 : ByteArray) (s0_1 : Int) (s0_2 : ByteArray) (s0_3 : ByteArray) (s0_4 : List ByteArray) (s0_5 : List ByteArray) (s0_6 : Bool) (a1 : ByteArray) : Option (Bool × ByteArray × Int × ByteArray × ByteArray × Bool) := if (wrap64 (s0_1 + (a1.size : Int))) > (s0_0.size : Int) then (some (false, s0_0, s0_1, s0_2, s0_3, s0_6)) else (if 0 ≤ s0_1 then (if s0_1 ≤ (wrap64 (s0_1 + (a1.size : Int))) then (if (wrap64 (s0_1 + (a1.size : Int))) ≤ (s0_0.size : Int) then (if (s0_0.extract (s0_1 : Int).toNat ((wrap64 (s0_1 + (a1.size : Int))) : Int).toNat).toList = a1.toList then (some (true, s0_0, wrap64 (s0_1 + (a1.size : Int)), s0_2, s0_3, s0_6)) else (some (false, s0_0, s0_1, s0_2, s0_3, s0_6))) else (none)) else (none)) else (none))
set_option maxHeartbeats 8000000 in
set_option maxRecDepth 100000 in
theorem spec_eat.calls (g : Nat) (s0_0 : ByteArray) (s0_1 : Int) (s0_2 : ByteArray) (s0_3 : ByteArray) (s0_4 : List ByteArray) (s0_5 : List ByteArray) (s0_6 : Bool) (a1 : ByteArray) (r1 : Bool) (r2 : ByteArray) (r3 : Int) (r4 : ByteArray) (r5 : ByteArray) (r6 : Bool) (w0 w : World) (hI : IsS72 w0 w g s0_0 s0_1 s0_2 s0_3 s0_4 s0_5 s0_6) (hB : Below w0.heap.size w0 w) (h : spec_eat.f s0_0 s0_1 s0_2 s0_3 s0_4 s0_5 s0_6 a1 = some (r1, r2, r3, r4, r5, r6)) :
  Calls Try.prog 84 #[.pointer (some ⟨g, 0, none⟩), .string a1] w fun e w' => e = .returned (.bool r1) ∧ IsS72 w0 w' g r2 r3 r4 r5 s0_4 s0_5 r6 ∧ Below w0.heap.size w0 w' ∧ KeepBut w w' g none := by
 have HI0 := Aside0.mk hI; have HK := Aside0.mk (KeepBut.refl w g none); have HL := Aside0.mk hB.size; clear hI; have HW0 := Aside0.mk hB.size; have HB := Aside0.mk hB; clear hB
 have H : (if (wrap64 (s0_1 + (a1.size : Int))) > (s0_0.size : Int) then (some (false, s0_0, s0_1, s0_2, s0_3, s0_6)) else (if 0 ≤ s0_1 then (if s0_1 ≤ (wrap64 (s0_1 + (a1.size : Int))) then (if (wrap64 (s0_1 + (a1.size : Int))) ≤ (s0_0.size : Int) then (if (s0_0.extract (s0_1 : Int).toNat ((wrap64 (s0_1 + (a1.size : Int))) : Int).toNat).toList = a1.toList then (some (true, s0_0, wrap64 (s0_1 + (a1.size : Int)), s0_2, s0_3, s0_6)) else (some (false, s0_0, s0_1, s0_2, s0_3, s0_6))) else (none)) else (none)) else (none))) = some (r1, r2, r3, r4, r5, r6) := h
 clear h
 by_cases c3 : (wrap64 (s0_1 + (a1.size : Int))) > (s0_0.size : Int)
 ·rw [if_pos c3] at H
  have c3b0 : decide ((s0_0.size : Int) < (wrap64 (s0_1 + (a1.size : Int)))) = true := decide_eq_true c3
  clear c3
  simp only [Option.some.injEq, Prod.mk.injEq] at H
  obtain ⟨rfl, rfl, rfl, rfl, rfl, rfl⟩ := H
  obtain ⟨ASz4_4, cSz4_4, ASz4_5, cSz4_5, HGz4, hgz4, HSz4_4, HSz4_5⟩ := HI0.out
  have hcz4_0 := cellS72_0 HGz4; have hcz4_1 := cellS72_1 HGz4; have hcz4_2 := cellS72_2 HGz4; have hcz4_3 := cellS72_3 HGz4; have hcz4_4 := cellS72_4 HGz4; have hcz4_5 := cellS72_5 HGz4; have hcz4_6 := cellS72_6 HGz4; have hfz4_0 := blk_frozen HGz4 0; have hfz4_1 := blk_frozen HGz4 1; have hfz4_2 := blk_frozen HGz4 2; have hfz4_3 := blk_frozen HGz4 3; have hfz4_6 := blk_frozen HGz4 6; clear HGz4 hgz4
  go_enter Try.func84, Try.ntmps84
  go_wp2
  repeat (go_quiet (fail); try go_wp2)
  go_ret
  exact ⟨by first | rfl | (simp [errW_none, errW_some] <;> rfl) | (simp [*, errW_none, errW_some] <;> rfl), by repeat (first | (with_reducible first | exact HI0.out | apply IsS72.alloc | apply IsS72.drewN | apply IsS72.drew | apply IsS72.set_0 | apply IsS72.set_1 | apply IsS72.set_2 | apply IsS72.set_3 | apply IsS72.set_6) | exact HI0.out), by repeat (first | (with_reducible first | exact HB.out | apply below_alloc | apply pw_below_drewN | apply below_drew1 | refine below_set ?_ (IsS72.ge HI0.out)) | exact HB.out), by repeat (first | (with_reducible first | exact HK.out | apply KeepBut.set_ | apply keep_drewN | apply keep_drew | apply keep_alloc) | exact HK.out)⟩
 ·rw [if_neg c3] at H
  have c3b0 : decide ((s0_0.size : Int) < (wrap64 (s0_1 + (a1.size : Int)))) = false := decide_eq_false c3
  clear c3
  by_cases c5 : 0 ≤ s0_1
  ·rw [if_pos c5] at H
   have c5b0 := eq_true c5
   have c5b1 : decide (0 ≤ s0_1) = true := decide_eq_true c5
   clear c5
   by_cases c6 : s0_1 ≤ (wrap64 (s0_1 + (a1.size : Int)))
   ·rw [if_pos c6] at H
    have c6b0 := eq_true c6
    have c6b1 : decide (s0_1 ≤ (wrap64 (s0_1 + (a1.size : Int)))) = true := decide_eq_true c6
    by_cases c7 : (wrap64 (s0_1 + (a1.size : Int))) ≤ (s0_0.size : Int)
    ·rw [if_pos c7] at H
     have c7b0 := eq_true c7
     have c7b1 : decide ((wrap64 (s0_1 + (a1.size : Int))) ≤ (s0_0.size : Int)) = true := decide_eq_true c7
     by_cases c8 : (s0_0.extract (s0_1 : Int).toNat ((wrap64 (s0_1 + (a1.size : Int))) : Int).toNat).toList = a1.toList
     ·rw [if_pos c8] at H
      have c8b0 : ((s0_0.extract (s0_1 : Int).toNat ((wrap64 (s0_1 + (a1.size : Int))) : Int).toNat).toList == a1.toList) = true := beq_iff_eq.mpr c8
      have c8b1 : ((s0_0.extract (s0_1 : Int).toNat ((wrap64 (s0_1 + (a1.size : Int))) : Int).toNat).toList != a1.toList) = false := bne_eq_false_iff_eq.mpr c8
      clear c8
      simp only [Option.some.injEq, Prod.mk.injEq] at H
      obtain ⟨rfl, rfl, rfl, rfl, rfl, rfl⟩ := H
      obtain ⟨ASz9_4, cSz9_4, ASz9_5, cSz9_5, HGz9, hgz9, HSz9_4, HSz9_5⟩ := HI0.out
      have hcz9_0 := cellS72_0 HGz9; have hcz9_1 := cellS72_1 HGz9; have hcz9_2 := cellS72_2 HGz9; have hcz9_3 := cellS72_3 HGz9; have hcz9_4 := cellS72_4 HGz9; have hcz9_5 := cellS72_5 HGz9; have hcz9_6 := cellS72_6 HGz9; have hfz9_0 := blk_frozen HGz9 0; have hfz9_1 := blk_frozen HGz9 1; have hfz9_2 := blk_frozen HGz9 2; have hfz9_3 := blk_frozen HGz9 3; have hfz9_6 := blk_frozen HGz9 6; clear HGz9 hgz9
      go_enter Try.func84, Try.ntmps84
      go_wp2
      repeat (go_quiet (fail); try go_wp2)
      go_ret
      exact ⟨by first | rfl | (simp [errW_none, errW_some] <;> rfl) | (simp [*, errW_none, errW_some] <;> rfl), by repeat (first | (with_reducible first | exact HI0.out | apply IsS72.alloc | apply IsS72.drewN | apply IsS72.drew | apply IsS72.set_0 | apply IsS72.set_1 | apply IsS72.set_2 | apply IsS72.set_3 | apply IsS72.set_6) | exact HI0.out), by repeat (first | (with_reducible first | exact HB.out | apply below_alloc | apply pw_below_drewN | apply below_drew1 | refine below_set ?_ (IsS72.ge HI0.out)) | exact HB.out), by repeat (first | (with_reducible first | exact HK.out | apply KeepBut.set_ | apply keep_drewN | apply keep_drew | apply keep_alloc) | exact HK.out)⟩
     ·rw [if_neg c8] at H
      have c8b0 : ((s0_0.extract (s0_1 : Int).toNat ((wrap64 (s0_1 + (a1.size : Int))) : Int).toNat).toList == a1.toList) = false := beq_eq_false_iff_ne.mpr c8
      have c8b1 : ((s0_0.extract (s0_1 : Int).toNat ((wrap64 (s0_1 + (a1.size : Int))) : Int).toNat).toList != a1.toList) = true := bne_iff_ne.mpr c8
      simp only [Option.some.injEq, Prod.mk.injEq] at H
      obtain ⟨rfl, rfl, rfl, rfl, rfl, rfl⟩ := H
      obtain ⟨ASz10_4, cSz10_4, ASz10_5, cSz10_5, HGz10, hgz10, HSz10_4, HSz10_5⟩ := HI0.out
      have hcz10_0 := cellS72_0 HGz10; have hcz10_1 := cellS72_1 HGz10; have hcz10_2 := cellS72_2 HGz10; have hcz10_3 := cellS72_3 HGz10; have hcz10_4 := cellS72_4 HGz10; have hcz10_5 := cellS72_5 HGz10; have hcz10_6 := cellS72_6 HGz10; have hfz10_0 := blk_frozen HGz10 0; have hfz10_1 := blk_frozen HGz10 1; have hfz10_2 := blk_frozen HGz10 2; have hfz10_3 := blk_frozen HGz10 3; have hfz10_6 := blk_frozen HGz10 6; clear HGz10 hgz10
      go_enter Try.func84, Try.ntmps84
      go_wp2
      repeat (go_quiet (fail); try go_wp2)
      go_ret
      exact ⟨by first | rfl | (simp [errW_none, errW_some] <;> rfl) | (simp [*, errW_none, errW_some] <;> rfl), by repeat (first | (with_reducible first | exact HI0.out | apply IsS72.alloc | apply IsS72.drewN | apply IsS72.drew | apply IsS72.set_0 | apply IsS72.set_1 | apply IsS72.set_2 | apply IsS72.set_3 | apply IsS72.set_6) | exact HI0.out), by repeat (first | (with_reducible first | exact HB.out | apply below_alloc | apply pw_below_drewN | apply below_drew1 | refine below_set ?_ (IsS72.ge HI0.out)) | exact HB.out), by repeat (first | (with_reducible first | exact HK.out | apply KeepBut.set_ | apply keep_drewN | apply keep_drew | apply keep_alloc) | exact HK.out)⟩
    ·rw [if_neg c7] at H
     exact absurd H (by simp)
   ·rw [if_neg c6] at H
    exact absurd H (by simp)
  ·rw [if_neg c5] at H
   exact absurd H (by simp)

end Go.Proofs.Ytdllommmccgleaa.A
