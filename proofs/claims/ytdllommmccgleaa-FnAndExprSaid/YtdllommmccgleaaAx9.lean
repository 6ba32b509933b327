-- WRITTEN by wip/ext.py
import Derived.Test.YtdllommmccgleaaAx0
import Derived.Test.YtdllommmccgleaaAx4
import Derived.Test.YtdllommmccgleaaAx5
import Derived.Test.YtdllommmccgleaaAx7
import Derived.Test.YtdllommmccgleaaAx8
namespace Go.Proofs.Ytdllommmccgleaa.A
open Go.RowKit Go.Proofs.YtdllommmccgleaaW.PrintWords Go.Proofs.YtdllommmccgleaaW.PrintLast Go.Proofs.YtdllommmccgleaaW.PrintMore
attribute [local go_sem] max2_int min2_int max_two min_two max_three min_three max_four min_four   -- for this text's walks alone
set_option linter.unusedVariables false
set_option linter.unusedSimpArgs false

/-! ### spec_evaluate: function 45 -/
def spec_evaluate.f (k : Nat) (a0 a1_0 a1_1 : ByteArray) (l1_2 l1_3 : List ByteArray) : Option (Bool × Bool) :=
 if (a0.size : Int) ≤ 60 then (spec_expr.f k a0 0 a1_0 a1_1 l1_2 l1_3 true).bind fun t => some (t.1, t.2.2.2.2.2 && decide (t.2.2.1 = (a0.size : Int))) else some (false, false)
theorem spec_evaluate.mono : ∀ a0 a1 a2 a3 a4 k, LeO (spec_evaluate.f k a0 a1 a2 a3 a4) (spec_evaluate.f (k + 1) a0 a1 a2 a3 a4) := by
 intro a0 a1 a2 a3 a4 k
 unfold spec_evaluate.f
 exact LeO.ite (LeO.bind (spec_expr.mono _ _ _ _ _ _ _ _) fun _ => LeO.refl _) (LeO.refl _)
set_option maxHeartbeats 8000000 in
set_option maxRecDepth 100000 in
theorem spec_evaluate.calls (k : Nat) (a0 : ByteArray) (a1_0 a1_1 : ByteArray) (A1_2 : Option Addr) (c1_2 : Nat) (l1_2 : List ByteArray) (A1_3 : Option Addr) (c1_3 : Nat) (l1_3 : List ByteArray) (r1 r2 : Bool) (w : World) (hr1_2 : Kd.C Kd.string w A1_2 l1_2.length l1_2) (hc1_2 : l1_2.length ≤ c1_2) (hr1_3 : Kd.C Kd.string w A1_3 l1_3.length l1_3) (hc1_3 : l1_3.length ≤ c1_3) (h : spec_evaluate.f k a0 a1_0 a1_1 l1_2 l1_3 = some (r1, r2)) :
  Calls Try.prog 45 #[.string a0, .agg #[.string a1_0, .string a1_1, .slice A1_2 l1_2.length c1_2, .slice A1_3 l1_3.length c1_3]] w fun e w' => e = .returned (.tuple #[.bool r1, .bool r2]) ∧ Below w.heap.size w w' := by
 have HR2 := Aside0.mk hr1_2; have HR3 := Aside0.mk hr1_3
 have HB := Aside0.mk (Below.refl w.heap.size w)
 unfold spec_evaluate.f at h
 by_cases c : (a0.size : Int) ≤ 60
 ·rw [if_pos c] at h
  obtain ⟨⟨t1, t2, t3, t4, t5, t6⟩, hx, h⟩ := Option.bind_eq_some_iff.mp h
  simp only [Option.some.injEq, Prod.mk.injEq] at h
  obtain ⟨rfl, h6⟩ := h
  have X := Aside0.mk hx; have H6 := Aside0.mk h6
  have c1 : decide ((a0.size : Int) ≤ 60) = true := decide_eq_true c
  have HI := Aside0.mk (show IsS72 w ((w.alloc (.cells #[.string a1_0, .string a1_1, .slice A1_2 l1_2.length c1_2, .slice A1_3 l1_3.length c1_3] 28)).alloc (.cells #[.string a0, .int .i64 0, .string a1_0, .string a1_1, .slice A1_2 l1_2.length c1_2, .slice A1_3 l1_3.length c1_3, .bool true] 72)) (w.heap.size + 1) a0 0 a1_0 a1_1 l1_2 l1_3 true from ⟨_, _, _, _, by simpa using blk_new (w.alloc (.cells #[.string a1_0, .string a1_1, .slice A1_2 l1_2.length c1_2, .slice A1_3 l1_3.length c1_3] 28)) (.cells #[.string a0, .int .i64 0, .string a1_0, .string a1_1, .slice A1_2 l1_2.length c1_2, .slice A1_3 l1_3.length c1_3, .bool true] 72), Nat.le_succ _, HR2.out, HR3.out⟩)
  have HB2 := Aside0.mk (below_alloc (below_alloc HB.out (.cells #[.string a1_0, .string a1_1, .slice A1_2 l1_2.length c1_2, .slice A1_3 l1_3.length c1_3] 28)) (.cells #[.string a0, .int .i64 0, .string a1_0, .string a1_1, .slice A1_2 l1_2.length c1_2, .slice A1_3 l1_3.length c1_3, .bool true] 72))
  clear hr1_2 hc1_2 hr1_3 hc1_3 hx h6 c
  cases t6
  all_goals
   go_enter Try.func45, Try.ntmps45
   go_wp2_with (go_at_call 68; refine (spec_expr.calls k (w.heap.size + 1) a0 0 a1_0 a1_1 l1_2 l1_3 true t1 t2 t3 t4 t5 _ w _ HI.out HB2.out X.out).mono ?_; rintro e w3 ⟨rfl, hi, hb, hk⟩; have N3 := Aside0.mk hb; obtain ⟨A4, c4, A5, c5, hbk, _, _, _⟩ := hi; have h71 := cellS72_1 hbk; have h76 := cellS72_6 hbk; clear hb hk hbk)
   repeat (go_quiet (fail); try go_wp2)
   go_ret2
   exact ⟨by rw [← H6.out]; first | rfl | (simp; done) | (congr 3; simp), pw_below_drewN N3.out _⟩
 ·rw [if_neg c] at h
  simp only [Option.some.injEq, Prod.mk.injEq] at h
  obtain ⟨rfl, rfl⟩ := h
  have c1 : decide ((a0.size : Int) ≤ 60) = false := decide_eq_false c
  clear hr1_2 hc1_2 hr1_3 hc1_3 c
  go_enter Try.func45, Try.ntmps45
  go_wp2
  repeat (go_quiet (fail); try go_wp2)
  go_ret2
  exact ⟨rfl, by repeat (first | (with_reducible first | exact HB.out | apply below_alloc | apply pw_below_drewN | apply below_drew1) | exact HB.out)⟩

/-! ### spec_validExpr: function 41 -/
def spec_validExpr.f (k : Nat) (a0 : ByteArray) : Option (Bool) := (spec_evaluate.f k a0 (⟨#[]⟩ : ByteArray) (⟨#[]⟩ : ByteArray) ([] : List ByteArray) ([] : List ByteArray)).bind fun bt259 => (some bt259.2)
theorem spec_validExpr.mono : ∀ a0 k, LeO (spec_validExpr.f k a0) (spec_validExpr.f (k + 1) a0) := by
 intro a0 k
 unfold spec_validExpr.f
 repeat' first
   | (with_reducible exact spec_evaluate.mono _ _ _ _ _ _)
   | (with_reducible exact LeO.refl _)
   | (with_reducible exact LeO.none _)
   | (with_reducible refine LeO.ite ?_ ?_)
   | (with_reducible refine LeO.bind ?_ (fun _ => ?_))
   | refine LeO.ite ?_ ?_
   | refine LeO.bind ?_ (fun _ => ?_)
set_option maxHeartbeats 8000000 in
set_option maxRecDepth 100000 in
theorem spec_validExpr.calls (k : Nat) (a0 : ByteArray) (r : Bool) (w : World) (h : spec_validExpr.f k a0 = some r) :
  Calls Try.prog 41 #[.string a0] w fun e w' => e = .returned (.bool r) ∧ Below w.heap.size w w' := by
 have hu28 := Try.underlying28; have HB := Aside0.mk (Below.refl w.heap.size w)
 have H : ((spec_evaluate.f k a0 (⟨#[]⟩ : ByteArray) (⟨#[]⟩ : ByteArray) ([] : List ByteArray) ([] : List ByteArray)).bind fun bt259 => (some bt259.2)) = some r := h
 clear h
 replace H := Option.bind_eq_some_iff.mp H
 obtain ⟨⟨t259, t260⟩, A20, H⟩ := H
 replace H : (some t260) = some r := H
 have A2 := Aside0.mk A20; clear A20
 obtain rfl := Option.some.inj H
 go_enter Try.func41, Try.ntmps41
 go_wp2_with (first | ((with_reducible refine gate_callee (f := 45) rfl ?_); refine goesL_ (some 8) rfl rfl Try.func45 (by kernel_rfl) rfl #[.string a0, .agg #[.string (⟨#[]⟩ : ByteArray), .string (⟨#[]⟩ : ByteArray), .slice none 0 0, .slice none 0 0]] rfl (by (try simp only [List.map_toArray, List.map_cons, List.map_nil]); first | done | rfl) ?_; (refine (spec_evaluate.calls k a0 (⟨#[]⟩ : ByteArray) (⟨#[]⟩ : ByteArray) _ _ ([] : List ByteArray) _ _ ([] : List ByteArray) t259 t260 _ ?side1 ?side2 ?side3 ?side4 A2.out).mono ?_); (case side1 => exact Kd.C_nil _ _); (case side2 => exact Nat.le_refl _); (case side3 => exact Kd.C_nil _ _); (case side4 => exact Nat.le_refl _); rintro e w3 ⟨rfl, hb⟩; refine ⟨_, rfl, ?_⟩; replace HB := Aside0.mk (below_step (by repeat first | (with_reducible first | exact HB.out | apply below_alloc | apply pw_below_drewN | apply below_drew1) | exact HB.out) hb); (try clear hb)))
 go_ret
 exact ⟨by first | rfl | (simp [errW_none, errW_some] <;> rfl) | (simp [*, errW_none, errW_some] <;> rfl), by repeat (first | (with_reducible first | exact HB.out | apply below_alloc | apply pw_below_drewN | apply below_drew1) | exact HB.out)⟩

/-! ### spec_checkedExpr: function 59 -/
def spec_checkedExpr.f (k : Nat) (a0 : ByteArray) : Option (ByteArray) := (spec_validExpr.f k a0).bind fun t261 => (if t261 = true then (some a0) else (some (⟨#[]⟩ : ByteArray)))
theorem spec_checkedExpr.mono : ∀ a0 k, LeO (spec_checkedExpr.f k a0) (spec_checkedExpr.f (k + 1) a0) := by
 intro a0 k
 unfold spec_checkedExpr.f
 repeat' first
   | (with_reducible exact spec_validExpr.mono _ _)
   | (with_reducible exact LeO.refl _)
   | (with_reducible exact LeO.none _)
   | (with_reducible refine LeO.ite ?_ ?_)
   | (with_reducible refine LeO.bind ?_ (fun _ => ?_))
   | refine LeO.ite ?_ ?_
   | refine LeO.bind ?_ (fun _ => ?_)
set_option maxHeartbeats 8000000 in
set_option maxRecDepth 100000 in
theorem spec_checkedExpr.calls (k : Nat) (a0 : ByteArray) (r : ByteArray) (w : World) (h : spec_checkedExpr.f k a0 = some r) :
  Calls Try.prog 59 #[.string a0] w fun e w' => e = .returned (.string r) ∧ Below w.heap.size w w' := by
 have HB := Aside0.mk (Below.refl w.heap.size w)
 have H : ((spec_validExpr.f k a0).bind fun t261 => (if t261 = true then (some a0) else (some (⟨#[]⟩ : ByteArray)))) = some r := h
 clear h
 replace H := Option.bind_eq_some_iff.mp H
 obtain ⟨t261, A20, H⟩ := H
 replace H : (if t261 = true then (some a0) else (some (⟨#[]⟩ : ByteArray))) = some r := H
 have A2 := Aside0.mk A20; clear A20
 by_cases c3 : t261 = true
 ·subst c3
  have H1 : (some a0) = some r := by rw [if_pos rfl] at H; exact H
  clear H; have H := H1; clear H1
  obtain rfl := Option.some.inj H
  go_enter Try.func59, Try.ntmps59
  go_wp2_with (first | ((with_reducible refine gate_callee (f := 41) rfl ?_); refine goesL_ (some 4) rfl rfl Try.func41 (by kernel_rfl) rfl #[.string a0] rfl (by (try simp only [List.map_toArray, List.map_cons, List.map_nil]); first | done | rfl) ?_; (with_reducible refine (spec_validExpr.calls k a0 true _ A2.out).mono ?_); rintro e w4 ⟨rfl, hb⟩; refine ⟨_, rfl, ?_⟩; replace HB := Aside0.mk (below_step (by repeat first | (with_reducible first | exact HB.out | apply below_alloc | apply pw_below_drewN | apply below_drew1) | exact HB.out) hb); (try clear hb)))
  go_ret
  exact ⟨by first | rfl | (simp [errW_none, errW_some] <;> rfl) | (simp [*, errW_none, errW_some] <;> rfl), by repeat (first | (with_reducible first | exact HB.out | apply below_alloc | apply pw_below_drewN | apply below_drew1) | exact HB.out)⟩
 ·replace c3 := Bool.eq_false_iff.mpr c3
  subst c3
  have H1 : (some (⟨#[]⟩ : ByteArray)) = some r := by rw [if_neg (show ¬ (false = true) by decide)] at H; exact H
  clear H; have H := H1; clear H1
  obtain rfl := Option.some.inj H
  go_enter Try.func59, Try.ntmps59
  go_wp2_with (first | ((with_reducible refine gate_callee (f := 41) rfl ?_); refine goesL_ (some 4) rfl rfl Try.func41 (by kernel_rfl) rfl #[.string a0] rfl (by (try simp only [List.map_toArray, List.map_cons, List.map_nil]); first | done | rfl) ?_; (with_reducible refine (spec_validExpr.calls k a0 false _ A2.out).mono ?_); rintro e w5 ⟨rfl, hb⟩; refine ⟨_, rfl, ?_⟩; replace HB := Aside0.mk (below_step (by repeat first | (with_reducible first | exact HB.out | apply below_alloc | apply pw_below_drewN | apply below_drew1) | exact HB.out) hb); (try clear hb)))
  go_ret
  exact ⟨by first | rfl | (simp [errW_none, errW_some] <;> rfl) | (simp [*, errW_none, errW_some] <;> rfl), by repeat (first | (with_reducible first | exact HB.out | apply below_alloc | apply pw_below_drewN | apply below_drew1) | exact HB.out)⟩

/-! ### spec_AndExpr: function 30 -/
def spec_AndExpr.f (k : Nat) (a0 : ByteArray) (a1 : ByteArray) : Option (ByteArray) := (spec_validExpr.f k a0).bind fun t262 => (if t262 = true then ((spec_validExpr.f k a1).bind fun t263 => (if t263 = true then (if 1 + a0.size ≤ 9223372036854775807 then (if 1 + a0.size + 7 ≤ 9223372036854775807 then (if 1 + a0.size + 7 + a1.size ≤ 9223372036854775807 then (if 1 + a0.size + 7 + a1.size + 1 ≤ 9223372036854775807 then ((spec_checkedExpr.f k (((((⟨#[40]⟩ : ByteArray) ++ a0) ++ (⟨#[41, 32, 97, 110, 100, 32, 40]⟩ : ByteArray)) ++ a1) ++ (⟨#[41]⟩ : ByteArray))).bind fun t264 => (some t264)) else (none)) else (none)) else (none)) else (none)) else (some (⟨#[]⟩ : ByteArray)))) else (some (⟨#[]⟩ : ByteArray)))
theorem spec_AndExpr.mono : ∀ a0 a1 k, LeO (spec_AndExpr.f k a0 a1) (spec_AndExpr.f (k + 1) a0 a1) := by
 intro a0 a1 k
 unfold spec_AndExpr.f
 repeat' first
   | (with_reducible exact spec_checkedExpr.mono _ _)
   | (with_reducible exact spec_validExpr.mono _ _)
   | (with_reducible exact LeO.refl _)
   | (with_reducible exact LeO.none _)
   | (with_reducible refine LeO.ite ?_ ?_)
   | (with_reducible refine LeO.bind ?_ (fun _ => ?_))
   | refine LeO.ite ?_ ?_
   | refine LeO.bind ?_ (fun _ => ?_)
set_option maxHeartbeats 8000000 in
set_option maxRecDepth 100000 in
theorem spec_AndExpr.calls (k : Nat) (a0 : ByteArray) (a1 : ByteArray) (r : ByteArray) (w : World) (h : spec_AndExpr.f k a0 a1 = some r) :
  Calls Try.prog 30 #[.string a0, .string a1] w fun e w' => e = .returned (.string r) ∧ Below w.heap.size w w' := by
 have HB := Aside0.mk (Below.refl w.heap.size w)
 have H : ((spec_validExpr.f k a0).bind fun t262 => (if t262 = true then ((spec_validExpr.f k a1).bind fun t263 => (if t263 = true then (if 1 + a0.size ≤ 9223372036854775807 then (if 1 + a0.size + 7 ≤ 9223372036854775807 then (if 1 + a0.size + 7 + a1.size ≤ 9223372036854775807 then (if 1 + a0.size + 7 + a1.size + 1 ≤ 9223372036854775807 then ((spec_checkedExpr.f k (((((⟨#[40]⟩ : ByteArray) ++ a0) ++ (⟨#[41, 32, 97, 110, 100, 32, 40]⟩ : ByteArray)) ++ a1) ++ (⟨#[41]⟩ : ByteArray))).bind fun t264 => (some t264)) else (none)) else (none)) else (none)) else (none)) else (some (⟨#[]⟩ : ByteArray)))) else (some (⟨#[]⟩ : ByteArray)))) = some r := h
 clear h
 replace H := Option.bind_eq_some_iff.mp H
 obtain ⟨t262, A30, H⟩ := H
 replace H : (if t262 = true then ((spec_validExpr.f k a1).bind fun t263 => (if t263 = true then (if 1 + a0.size ≤ 9223372036854775807 then (if 1 + a0.size + 7 ≤ 9223372036854775807 then (if 1 + a0.size + 7 + a1.size ≤ 9223372036854775807 then (if 1 + a0.size + 7 + a1.size + 1 ≤ 9223372036854775807 then ((spec_checkedExpr.f k (((((⟨#[40]⟩ : ByteArray) ++ a0) ++ (⟨#[41, 32, 97, 110, 100, 32, 40]⟩ : ByteArray)) ++ a1) ++ (⟨#[41]⟩ : ByteArray))).bind fun t264 => (some t264)) else (none)) else (none)) else (none)) else (none)) else (some (⟨#[]⟩ : ByteArray)))) else (some (⟨#[]⟩ : ByteArray))) = some r := H
 have A3 := Aside0.mk A30; clear A30
 by_cases c4 : t262 = true
 ·subst c4
  have H1 : ((spec_validExpr.f k a1).bind fun t263 => (if t263 = true then (if 1 + a0.size ≤ 9223372036854775807 then (if 1 + a0.size + 7 ≤ 9223372036854775807 then (if 1 + a0.size + 7 + a1.size ≤ 9223372036854775807 then (if 1 + a0.size + 7 + a1.size + 1 ≤ 9223372036854775807 then ((spec_checkedExpr.f k (((((⟨#[40]⟩ : ByteArray) ++ a0) ++ (⟨#[41, 32, 97, 110, 100, 32, 40]⟩ : ByteArray)) ++ a1) ++ (⟨#[41]⟩ : ByteArray))).bind fun t264 => (some t264)) else (none)) else (none)) else (none)) else (none)) else (some (⟨#[]⟩ : ByteArray)))) = some r := by rw [if_pos rfl] at H; exact H
  clear H; have H := H1; clear H1
  replace H := Option.bind_eq_some_iff.mp H
  obtain ⟨t263, A50, H⟩ := H
  replace H : (if t263 = true then (if 1 + a0.size ≤ 9223372036854775807 then (if 1 + a0.size + 7 ≤ 9223372036854775807 then (if 1 + a0.size + 7 + a1.size ≤ 9223372036854775807 then (if 1 + a0.size + 7 + a1.size + 1 ≤ 9223372036854775807 then ((spec_checkedExpr.f k (((((⟨#[40]⟩ : ByteArray) ++ a0) ++ (⟨#[41, 32, 97, 110, 100, 32, 40]⟩ : ByteArray)) ++ a1) ++ (⟨#[41]⟩ : ByteArray))).bind fun t264 => (some t264)) else (none)) else (none)) else (none)) else (none)) else (some (⟨#[]⟩ : ByteArray))) = some r := H
  have A5 := Aside0.mk A50; clear A50
  by_cases c6 : t263 = true
  ·subst c6
   have H1 : (if 1 + a0.size ≤ 9223372036854775807 then (if 1 + a0.size + 7 ≤ 9223372036854775807 then (if 1 + a0.size + 7 + a1.size ≤ 9223372036854775807 then (if 1 + a0.size + 7 + a1.size + 1 ≤ 9223372036854775807 then ((spec_checkedExpr.f k (((((⟨#[40]⟩ : ByteArray) ++ a0) ++ (⟨#[41, 32, 97, 110, 100, 32, 40]⟩ : ByteArray)) ++ a1) ++ (⟨#[41]⟩ : ByteArray))).bind fun t264 => (some t264)) else (none)) else (none)) else (none)) else (none)) = some r := by rw [if_pos rfl] at H; exact H
   clear H; have H := H1; clear H1
   by_cases c7 : 1 + a0.size ≤ 9223372036854775807
   ·rw [if_pos c7] at H
    have c7b0 := eq_true c7
    have c7b1 : decide (1 + a0.size ≤ 9223372036854775807) = true := decide_eq_true c7
    try have c7b2 : (9223372036854775807 < 1 + a0.size) = False := eq_false (Nat.not_lt.2 c7)
    by_cases c8 : 1 + a0.size + 7 ≤ 9223372036854775807
    ·rw [if_pos c8] at H
     have c8b0 := eq_true c8
     have c8b1 : decide (1 + a0.size + 7 ≤ 9223372036854775807) = true := decide_eq_true c8
     try have c8b2 : (9223372036854775807 < 1 + a0.size + 7) = False := eq_false (Nat.not_lt.2 c8)
     by_cases c9 : 1 + a0.size + 7 + a1.size ≤ 9223372036854775807
     ·rw [if_pos c9] at H
      have c9b0 := eq_true c9
      have c9b1 : decide (1 + a0.size + 7 + a1.size ≤ 9223372036854775807) = true := decide_eq_true c9
      try have c9b2 : (9223372036854775807 < 1 + a0.size + 7 + a1.size) = False := eq_false (Nat.not_lt.2 c9)
      by_cases c10 : 1 + a0.size + 7 + a1.size + 1 ≤ 9223372036854775807
      ·rw [if_pos c10] at H
       have c10b0 := eq_true c10
       have c10b1 : decide (1 + a0.size + 7 + a1.size + 1 ≤ 9223372036854775807) = true := decide_eq_true c10
       try have c10b2 : (9223372036854775807 < 1 + a0.size + 7 + a1.size + 1) = False := eq_false (Nat.not_lt.2 c10)
       replace H := Option.bind_eq_some_iff.mp H
       obtain ⟨t264, A110, H⟩ := H
       replace H : (some t264) = some r := H
       have A11 := Aside0.mk A110; clear A110
       obtain rfl := Option.some.inj H
       go_enter Try.func30, Try.ntmps30
       go_wp2_with (first | ((with_reducible refine gate_callee (f := 41) rfl ?_); refine goesL_ (some 6) rfl rfl Try.func41 (by kernel_rfl) rfl #[.string a0] rfl (by (try simp only [List.map_toArray, List.map_cons, List.map_nil]); first | done | rfl) ?_; (with_reducible refine (spec_validExpr.calls k a0 true _ A3.out).mono ?_); rintro e w12 ⟨rfl, hb⟩; refine ⟨_, rfl, ?_⟩; replace HB := Aside0.mk (below_step (by repeat first | (with_reducible first | exact HB.out | apply below_alloc | apply pw_below_drewN | apply below_drew1) | exact HB.out) hb); (try clear hb)) | (go_at_call 41; (with_reducible refine (spec_validExpr.calls k a1 true _ A5.out).mono ?_); rintro e w13 ⟨rfl, hb⟩; replace HB := Aside0.mk (below_step (by repeat first | (with_reducible first | exact HB.out | apply below_alloc | apply pw_below_drewN | apply below_drew1) | exact HB.out) hb); (try clear hb)) | ((with_reducible refine gate_callee (f := 59) rfl ?_); refine goesL_ (some 19) rfl rfl Try.func59 (by kernel_rfl) rfl #[.string (((((⟨#[40]⟩ : ByteArray) ++ a0) ++ (⟨#[41, 32, 97, 110, 100, 32, 40]⟩ : ByteArray)) ++ a1) ++ (⟨#[41]⟩ : ByteArray))] rfl (by (try simp only [List.map_toArray, List.map_cons, List.map_nil]); first | done | rfl) ?_; (with_reducible refine (spec_checkedExpr.calls k (((((⟨#[40]⟩ : ByteArray) ++ a0) ++ (⟨#[41, 32, 97, 110, 100, 32, 40]⟩ : ByteArray)) ++ a1) ++ (⟨#[41]⟩ : ByteArray)) t264 _ A11.out).mono ?_); rintro e w14 ⟨rfl, hb⟩; refine ⟨_, rfl, ?_⟩; replace HB := Aside0.mk (below_step (by repeat first | (with_reducible first | exact HB.out | apply below_alloc | apply pw_below_drewN | apply below_drew1) | exact HB.out) hb); (try clear hb)))
       go_ret
       exact ⟨by first | rfl | (simp [errW_none, errW_some] <;> rfl) | (simp [*, errW_none, errW_some] <;> rfl), by repeat (first | (with_reducible first | exact HB.out | apply below_alloc | apply pw_below_drewN | apply below_drew1) | exact HB.out)⟩
      ·rw [if_neg c10] at H
       exact absurd H (by simp)
     ·rw [if_neg c9] at H
      exact absurd H (by simp)
    ·rw [if_neg c8] at H
     exact absurd H (by simp)
   ·rw [if_neg c7] at H
    exact absurd H (by simp)
  ·replace c6 := Bool.eq_false_iff.mpr c6
   subst c6
   have H1 : (some (⟨#[]⟩ : ByteArray)) = some r := by rw [if_neg (show ¬ (false = true) by decide)] at H; exact H
   clear H; have H := H1; clear H1
   obtain rfl := Option.some.inj H
   go_enter Try.func30, Try.ntmps30
   go_wp2_with (first | ((with_reducible refine gate_callee (f := 41) rfl ?_); refine goesL_ (some 6) rfl rfl Try.func41 (by kernel_rfl) rfl #[.string a0] rfl (by (try simp only [List.map_toArray, List.map_cons, List.map_nil]); first | done | rfl) ?_; (with_reducible refine (spec_validExpr.calls k a0 true _ A3.out).mono ?_); rintro e w15 ⟨rfl, hb⟩; refine ⟨_, rfl, ?_⟩; replace HB := Aside0.mk (below_step (by repeat first | (with_reducible first | exact HB.out | apply below_alloc | apply pw_below_drewN | apply below_drew1) | exact HB.out) hb); (try clear hb)) | (go_at_call 41; (with_reducible refine (spec_validExpr.calls k a1 false _ A5.out).mono ?_); rintro e w16 ⟨rfl, hb⟩; replace HB := Aside0.mk (below_step (by repeat first | (with_reducible first | exact HB.out | apply below_alloc | apply pw_below_drewN | apply below_drew1) | exact HB.out) hb); (try clear hb)))
   go_ret
   exact ⟨by first | rfl | (simp [errW_none, errW_some] <;> rfl) | (simp [*, errW_none, errW_some] <;> rfl), by repeat (first | (with_reducible first | exact HB.out | apply below_alloc | apply pw_below_drewN | apply below_drew1) | exact HB.out)⟩
 ·replace c4 := Bool.eq_false_iff.mpr c4
  subst c4
  have H1 : (some (⟨#[]⟩ : ByteArray)) = some r := by rw [if_neg (show ¬ (false = true) by decide)] at H; exact H
  clear H; have H := H1; clear H1
  obtain rfl := Option.some.inj H
  go_enter Try.func30, Try.ntmps30
  go_wp2_with (first | ((with_reducible refine gate_callee (f := 41) rfl ?_); refine goesL_ (some 6) rfl rfl Try.func41 (by kernel_rfl) rfl #[.string a0] rfl (by (try simp only [List.map_toArray, List.map_cons, List.map_nil]); first | done | rfl) ?_; (with_reducible refine (spec_validExpr.calls k a0 false _ A3.out).mono ?_); rintro e w17 ⟨rfl, hb⟩; refine ⟨_, rfl, ?_⟩; replace HB := Aside0.mk (below_step (by repeat first | (with_reducible first | exact HB.out | apply below_alloc | apply pw_below_drewN | apply below_drew1) | exact HB.out) hb); (try clear hb)))
  go_ret
  exact ⟨by first | rfl | (simp [errW_none, errW_some] <;> rfl) | (simp [*, errW_none, errW_some] <;> rfl), by repeat (first | (with_reducible first | exact HB.out | apply below_alloc | apply pw_below_drewN | apply below_drew1) | exact HB.out)⟩

/-! ### laws_FnAndExpr: function 8 -/
def laws_FnAndExpr.j0 : Nat → ByteArray → ByteArray → ByteArray → Bool → Option (Bool)
 | 0, _, _, _, _ => none
 | k + 1, x3, x4, x5, x34 => if x34 = true then ((spec_AndExpr.f k x3 x4).bind fun t272 => (some (x5.toList == t272.toList))) else ((impl_AndExpr.f k x4 x3).bind fun t273 => ((impl_NotExpr.f k x3).bind fun t274 => ((impl_NotExpr.f k x4).bind fun t275 => ((impl_OrExpr.f k t274 t275).bind fun t276 => ((impl_NotExpr.f k x5).bind fun t277 => ((impl_SameExpr.f k x5 t273).bind fun t278 => (if t278 = true then (if t276.toList = ([] : List UInt8) then (some true) else (if t277.toList = ([] : List UInt8) then (some true) else ((impl_SameExpr.f k t277 t276).bind fun t279 => (some t279)))) else (some false))))))))
def laws_FnAndExpr.f (k : Nat) (l0 : List Int) : Option (Bool) := if (l0.length : Int) > 1048576 then (some true) else ((spec_DrawAndExpr.f k l0).bind fun bt265 => ((impl_AndExpr.f k bt265.1 bt265.2).bind fun t267 => ((spec_AndExpr.f k bt265.1 bt265.2).bind fun t268 => (if t267.toList = t268.toList then (if t267.toList = ([] : List UInt8) then (laws_FnAndExpr.j0 k bt265.1 bt265.2 t267 true) else ((impl_AtomsOf.f k t267).bind fun t269 => (laws_FnAndExpr.j0 k bt265.1 bt265.2 t267 (decide ((t269.length : Int) > 6))))) else (laws_FnAndExpr.j0 k bt265.1 bt265.2 t267 true)))))
theorem laws_FnAndExpr.mono_l : ∀ k, (∀ y0 y1 y2 y3, LeO (laws_FnAndExpr.j0 k y0 y1 y2 y3) (laws_FnAndExpr.j0 (k + 1) y0 y1 y2 y3))
 | 0 => fun _ _ _ _ r h => by simp [laws_FnAndExpr.j0] at h
 | k + 1 => by
  have ih0 := laws_FnAndExpr.mono_l k
  ·intro y0 y1 y2 y3
   unfold laws_FnAndExpr.j0
   repeat' first
   | (with_reducible exact ih0 _ _ _ _)
   | (with_reducible exact impl_AndExpr.mono _ _ _)
   | (with_reducible exact impl_AtomsOf.mono _ _)
   | (with_reducible exact impl_NotExpr.mono _ _)
   | (with_reducible exact impl_OrExpr.mono _ _ _)
   | (with_reducible exact impl_SameExpr.mono _ _ _)
   | (with_reducible exact spec_AndExpr.mono _ _ _)
   | (with_reducible exact spec_DrawAndExpr.mono _ _)
   | (with_reducible exact LeO.refl _)
   | (with_reducible exact LeO.none _)
   | (with_reducible refine LeO.ite ?_ ?_)
   | (with_reducible refine LeO.bind ?_ (fun _ => ?_))
   | refine LeO.ite ?_ ?_
   | refine LeO.bind ?_ (fun _ => ?_)
theorem laws_FnAndExpr.mono : ∀ a0 k, LeO (laws_FnAndExpr.f k a0) (laws_FnAndExpr.f (k + 1) a0) := by
 intro a0 k
 have ih0 := laws_FnAndExpr.mono_l k
 unfold laws_FnAndExpr.f
 repeat' first
   | (with_reducible exact ih0 _ _ _ _)
   | (with_reducible exact impl_AndExpr.mono _ _ _)
   | (with_reducible exact impl_AtomsOf.mono _ _)
   | (with_reducible exact impl_NotExpr.mono _ _)
   | (with_reducible exact impl_OrExpr.mono _ _ _)
   | (with_reducible exact impl_SameExpr.mono _ _ _)
   | (with_reducible exact spec_AndExpr.mono _ _ _)
   | (with_reducible exact spec_DrawAndExpr.mono _ _)
   | (with_reducible exact LeO.refl _)
   | (with_reducible exact LeO.none _)
   | (with_reducible refine LeO.ite ?_ ?_)
   | (with_reducible refine LeO.bind ?_ (fun _ => ?_))
   | refine LeO.ite ?_ ?_
   | refine LeO.bind ?_ (fun _ => ?_)
set_option maxHeartbeats 8000000 in
set_option maxRecDepth 100000 in
theorem laws_FnAndExpr.calls (k : Nat) (A0 : Option Addr) (c0 : Nat) (l0 : List Int) (r : Bool) (w : World) (hr0 : Kd.C (Kd.int .u8) w A0 l0.length l0) (hc0 : l0.length ≤ c0) (h : laws_FnAndExpr.f k l0 = some r) :
  Calls Try.prog 8 #[.slice A0 l0.length c0] w fun e w' => e = .returned (.bool r) ∧ Below w.heap.size w w' := by
 have HR0 := Aside0.mk hr0; have HC0 := Aside0.mk hc0; clear hr0 hc0; have HB := Aside0.mk (Below.refl w.heap.size w)
 have H : (if (l0.length : Int) > 1048576 then (some true) else ((spec_DrawAndExpr.f k l0).bind fun bt265 => ((impl_AndExpr.f k bt265.1 bt265.2).bind fun t267 => ((spec_AndExpr.f k bt265.1 bt265.2).bind fun t268 => (if t267.toList = t268.toList then (if t267.toList = ([] : List UInt8) then (laws_FnAndExpr.j0 k bt265.1 bt265.2 t267 true) else ((impl_AtomsOf.f k t267).bind fun t269 => (laws_FnAndExpr.j0 k bt265.1 bt265.2 t267 (decide ((t269.length : Int) > 6))))) else (laws_FnAndExpr.j0 k bt265.1 bt265.2 t267 true)))))) = some r := h
 clear h
 by_cases c2 : (l0.length : Int) > 1048576
 ·rw [if_pos c2] at H
  have c2b0 : decide (1048576 < (l0.length : Int)) = true := decide_eq_true c2
  have c2b1 : decide (1048576 < l0.length) = true := decide_eq_true (by omega)
  clear c2
  obtain rfl := Option.some.inj H
  go_enter Try.func8, Try.ntmps8
  go_wp2
  go_ret
  exact ⟨by first | rfl | (simp [errW_none, errW_some] <;> rfl) | (simp [*, errW_none, errW_some] <;> rfl), by repeat (first | (with_reducible first | exact HB.out | apply below_alloc | apply pw_below_drewN | apply below_drew1) | exact HB.out)⟩
 ·rw [if_neg c2] at H
  have c2b0 : decide (1048576 < (l0.length : Int)) = false := decide_eq_false c2
  have c2b1 : decide (1048576 < l0.length) = false := decide_eq_false (by omega)
  clear c2
  replace H := Option.bind_eq_some_iff.mp H
  obtain ⟨⟨t265, t266⟩, A30, H⟩ := H
  replace H : ((impl_AndExpr.f k t265 t266).bind fun t267 => ((spec_AndExpr.f k t265 t266).bind fun t268 => (if t267.toList = t268.toList then (if t267.toList = ([] : List UInt8) then (laws_FnAndExpr.j0 k t265 t266 t267 true) else ((impl_AtomsOf.f k t267).bind fun t269 => (laws_FnAndExpr.j0 k t265 t266 t267 (decide ((t269.length : Int) > 6))))) else (laws_FnAndExpr.j0 k t265 t266 t267 true)))) = some r := H
  have A3 := Aside0.mk A30; clear A30
  replace H := Option.bind_eq_some_iff.mp H
  obtain ⟨t267, A40, H⟩ := H
  replace H : ((spec_AndExpr.f k t265 t266).bind fun t268 => (if t267.toList = t268.toList then (if t267.toList = ([] : List UInt8) then (laws_FnAndExpr.j0 k t265 t266 t267 true) else ((impl_AtomsOf.f k t267).bind fun t269 => (laws_FnAndExpr.j0 k t265 t266 t267 (decide ((t269.length : Int) > 6))))) else (laws_FnAndExpr.j0 k t265 t266 t267 true))) = some r := H
  have A4 := Aside0.mk A40; clear A40; have HC5 := Aside0.mk H; clear H
  go_enter Try.func8, Try.ntmps8
  go_upto_region 5 with (first | ((with_reducible refine gate_callee (f := 28) rfl ?_); refine goesL_ (some 14) rfl rfl Try.func28 (by kernel_rfl) rfl #[.slice A0 l0.length c0] rfl (by (try simp only [List.map_toArray, List.map_cons, List.map_nil]); first | done | rfl) ?_; (with_reducible refine (spec_DrawAndExpr.calls k _ _ l0 t265 t266 _ ?side1 ?side2 A3.out).mono ?_); (case side1 => repeat (first | exact HR0.out | with_reducible first | apply Kd.C_alloc | apply Kd.C_drewN | apply Kd.C_drew)); (case side2 => exact HC0.out); rintro e w6 ⟨rfl, hb⟩; refine ⟨_, rfl, ?_⟩; replace HB := Aside0.mk (below_step (by repeat first | (with_reducible first | exact HB.out | apply below_alloc | apply pw_below_drewN | apply below_drew1) | exact HB.out) hb); (try clear hb)) | ((with_reducible refine gate_callee (f := 29) rfl ?_); refine goesL_ (some 19) rfl rfl Try.func29 (by kernel_rfl) rfl #[.string t265, .string t266] rfl (by (try simp only [List.map_toArray, List.map_cons, List.map_nil]); first | done | rfl) ?_; (with_reducible refine (impl_AndExpr.calls k t265 t266 t267 _ A4.out).mono ?_); rintro e w7 ⟨rfl, hb⟩; refine ⟨_, rfl, ?_⟩; replace HB := Aside0.mk (below_step (by repeat first | (with_reducible first | exact HB.out | apply below_alloc | apply pw_below_drewN | apply below_drew1) | exact HB.out) hb); (try clear hb)))
  (try simp only [Act.put, List.setIfInBounds_toArray, List.set_cons_zero, List.set_cons_succ])
  go_cut [34] (fun v34 wc => ∃ (kq : Nat) (x34_4 : Bool), v34 = .bool x34_4 ∧ Aside0 (laws_FnAndExpr.j0 kq t265 t266 t267 x34_4 = some r) ∧ Aside0 (kq ≤ k) ∧ Aside0 (Below w.heap.size w wc))
  case first =>
   have H := HC5.out; clear HC5
   replace H := Option.bind_eq_some_iff.mp H
   obtain ⟨t268, A80, H⟩ := H
   replace H : (if t267.toList = t268.toList then (if t267.toList = ([] : List UInt8) then (laws_FnAndExpr.j0 k t265 t266 t267 true) else ((impl_AtomsOf.f k t267).bind fun t269 => (laws_FnAndExpr.j0 k t265 t266 t267 (decide ((t269.length : Int) > 6))))) else (laws_FnAndExpr.j0 k t265 t266 t267 true)) = some r := H
   have A8 := Aside0.mk A80; clear A80
   by_cases c9 : t267.toList = t268.toList
   ·rw [if_pos c9] at H
    have c9b0 : (t267.toList == t268.toList) = true := beq_iff_eq.mpr c9
    have c9b1 : (t267.toList != t268.toList) = false := bne_eq_false_iff_eq.mpr c9
    clear c9
    (first | rw [c9b0] | (simp only [i64_w, i32_w]; rw [c9b0]) | skip)
    by_cases c10 : t267.toList = ([] : List UInt8)
    ·rw [if_pos c10] at H
     have c10b0 : (t267.toList == ([] : List UInt8)) = true := beq_iff_eq.mpr c10
     have c10b1 : (t267.toList != ([] : List UInt8)) = false := bne_eq_false_iff_eq.mpr c10
     clear c10; have H' := Aside0.mk H; clear H
     go_wp2_with (first | ((with_reducible refine gate_callee (f := 30) rfl ?_); refine goesL_ (some 23) rfl rfl Try.func30 (by kernel_rfl) rfl #[.string t265, .string t266] rfl (by (try simp only [List.map_toArray, List.map_cons, List.map_nil]); first | done | rfl) ?_; (with_reducible refine (spec_AndExpr.calls k t265 t266 t268 _ A8.out).mono ?_); rintro e w11 ⟨rfl, hb⟩; refine ⟨_, rfl, ?_⟩; replace HB := Aside0.mk (below_step (by repeat first | (with_reducible first | exact HB.out | apply below_alloc | apply pw_below_drewN | apply below_drew1) | exact HB.out) hb); (try clear hb)))
     go_meet
     case rel => exact ⟨_, (true), (by first | rfl | (simp; done) | (simp [*]; done)), H', ⟨by first | omega | exact Nat.le_refl _⟩, ⟨by repeat (first | (with_reducible first | exact HB.out | apply below_alloc | apply pw_below_drewN | apply below_drew1) | exact HB.out)⟩⟩
    ·rw [if_neg c10] at H
     have c10b0 : (t267.toList == ([] : List UInt8)) = false := beq_eq_false_iff_ne.mpr c10
     have c10b1 : (t267.toList != ([] : List UInt8)) = true := bne_iff_ne.mpr c10
     replace H := Option.bind_eq_some_iff.mp H
     obtain ⟨t269, A120, H⟩ := H
     replace H : (laws_FnAndExpr.j0 k t265 t266 t267 (decide ((t269.length : Int) > 6))) = some r := H
     have A12 := Aside0.mk A120; clear A120; have H' := Aside0.mk H; clear H
     go_wp2_with (first | ((with_reducible refine gate_callee (f := 30) rfl ?_); refine goesL_ (some 23) rfl rfl Try.func30 (by kernel_rfl) rfl #[.string t265, .string t266] rfl (by (try simp only [List.map_toArray, List.map_cons, List.map_nil]); first | done | rfl) ?_; (with_reducible refine (spec_AndExpr.calls k t265 t266 t268 _ A8.out).mono ?_); rintro e w13 ⟨rfl, hb⟩; refine ⟨_, rfl, ?_⟩; replace HB := Aside0.mk (below_step (by repeat first | (with_reducible first | exact HB.out | apply below_alloc | apply pw_below_drewN | apply below_drew1) | exact HB.out) hb); (try clear hb)) | (go_at_call 21; (with_reducible refine (impl_AtomsOf.calls k t267 t269 _ A12.out).mono ?_); rintro e w14 ⟨v270, rfl, ho0, hb⟩; have HO271 := Aside0.mk (Kd.R_lower ho0 (below_size (by repeat first | (with_reducible first | exact HB.out | apply below_alloc | apply pw_below_drewN | apply below_drew1) | exact HB.out))); replace HB := Aside0.mk (below_step (by repeat first | (with_reducible first | exact HB.out | apply below_alloc | apply pw_below_drewN | apply below_drew1) | exact HB.out) hb); (try clear hb); (try clear ho0); obtain ⟨Ao15, co15, eo15⟩ := Kd.R_slice HO271.out; subst eo15))
     go_meet
     case rel => exact ⟨_, (decide ((t269.length : Int) > 6)), (by first | rfl | (simp; done) | (simp [*]; done)), H', ⟨by first | omega | exact Nat.le_refl _⟩, ⟨by repeat (first | (with_reducible first | exact HB.out | apply below_alloc | apply pw_below_drewN | apply below_drew1) | exact HB.out)⟩⟩
   ·rw [if_neg c9] at H
    have c9b0 : (t267.toList == t268.toList) = false := beq_eq_false_iff_ne.mpr c9
    have c9b1 : (t267.toList != t268.toList) = true := bne_iff_ne.mpr c9
    (first | rw [c9b0] | (simp only [i64_w, i32_w]; rw [c9b0]) | skip)
    have H' := Aside0.mk H; clear H
    go_wp2_with (first | ((with_reducible refine gate_callee (f := 30) rfl ?_); refine goesL_ (some 23) rfl rfl Try.func30 (by kernel_rfl) rfl #[.string t265, .string t266] rfl (by (try simp only [List.map_toArray, List.map_cons, List.map_nil]); first | done | rfl) ?_; (with_reducible refine (spec_AndExpr.calls k t265 t266 t268 _ A8.out).mono ?_); rintro e w16 ⟨rfl, hb⟩; refine ⟨_, rfl, ?_⟩; replace HB := Aside0.mk (below_step (by repeat first | (with_reducible first | exact HB.out | apply below_alloc | apply pw_below_drewN | apply below_drew1) | exact HB.out) hb); (try clear hb)))
    go_meet
    case rel => exact ⟨_, (true), (by first | rfl | (simp; done) | (simp [*]; done)), H', ⟨by first | omega | exact Nat.le_refl _⟩, ⟨by repeat (first | (with_reducible first | exact HB.out | apply below_alloc | apply pw_below_drewN | apply below_drew1) | exact HB.out)⟩⟩
  case rest =>
   clear HC5; try clear c1; try clear c2; try clear c2b0; try clear c2b1; try clear p2; try clear c3; try clear c8; try clear c9; try clear c9b0; try clear c9b1; try clear c10; try clear c10b0; try clear c10b1
   obtain ⟨kq, x34_4, rfl, HA, HJ4, HB⟩ := hcut
   cases kq with
   | zero => exact absurd HA.out (by simp [laws_FnAndExpr.j0])
   | succ kj4 =>
    have H := HA.out; clear HA
    simp only [laws_FnAndExpr.j0] at H
    by_cases c17 : x34_4 = true
    ·subst c17
     have H1 : ((spec_AndExpr.f kj4 t265 t266).bind fun t272 => (some (t267.toList == t272.toList))) = some r := by rw [if_pos rfl] at H; exact H
     clear H; have H := H1; clear H1
     replace H := Option.bind_eq_some_iff.mp H
     obtain ⟨t272, A180, H⟩ := H
     replace H : (some (t267.toList == t272.toList)) = some r := H
     have A18 := Aside0.mk A180; clear A180
     obtain rfl := Option.some.inj H
     go_wp2_with (first | ((with_reducible refine gate_callee (f := 30) rfl ?_); refine goesL_ (some 38) rfl rfl Try.func30 (by kernel_rfl) rfl #[.string t265, .string t266] rfl (by (try simp only [List.map_toArray, List.map_cons, List.map_nil]); first | done | rfl) ?_; (with_reducible refine (spec_AndExpr.calls kj4 t265 t266 t272 _ A18.out).mono ?_); rintro e w19 ⟨rfl, hb⟩; refine ⟨_, rfl, ?_⟩; replace HB := Aside0.mk (below_step (by repeat first | (with_reducible first | exact HB.out | apply below_alloc | apply pw_below_drewN | apply below_drew1) | exact HB.out) hb); (try clear hb)))
     go_ret
     exact ⟨by first | rfl | (simp [errW_none, errW_some] <;> rfl) | (simp [*, errW_none, errW_some] <;> rfl), by repeat (first | (with_reducible first | exact HB.out | apply below_alloc | apply pw_below_drewN | apply below_drew1) | exact HB.out)⟩
    ·replace c17 := Bool.eq_false_iff.mpr c17
     subst c17
     have H1 : ((impl_AndExpr.f kj4 t266 t265).bind fun t273 => ((impl_NotExpr.f kj4 t265).bind fun t274 => ((impl_NotExpr.f kj4 t266).bind fun t275 => ((impl_OrExpr.f kj4 t274 t275).bind fun t276 => ((impl_NotExpr.f kj4 t267).bind fun t277 => ((impl_SameExpr.f kj4 t267 t273).bind fun t278 => (if t278 = true then (if t276.toList = ([] : List UInt8) then (some true) else (if t277.toList = ([] : List UInt8) then (some true) else ((impl_SameExpr.f kj4 t277 t276).bind fun t279 => (some t279)))) else (some false)))))))) = some r := by rw [if_neg (show ¬ (false = true) by decide)] at H; exact H
     clear H; have H := H1; clear H1
     replace H := Option.bind_eq_some_iff.mp H
     obtain ⟨t273, A200, H⟩ := H
     replace H : ((impl_NotExpr.f kj4 t265).bind fun t274 => ((impl_NotExpr.f kj4 t266).bind fun t275 => ((impl_OrExpr.f kj4 t274 t275).bind fun t276 => ((impl_NotExpr.f kj4 t267).bind fun t277 => ((impl_SameExpr.f kj4 t267 t273).bind fun t278 => (if t278 = true then (if t276.toList = ([] : List UInt8) then (some true) else (if t277.toList = ([] : List UInt8) then (some true) else ((impl_SameExpr.f kj4 t277 t276).bind fun t279 => (some t279)))) else (some false))))))) = some r := H
     have A20 := Aside0.mk A200; clear A200
     replace H := Option.bind_eq_some_iff.mp H
     obtain ⟨t274, A210, H⟩ := H
     replace H : ((impl_NotExpr.f kj4 t266).bind fun t275 => ((impl_OrExpr.f kj4 t274 t275).bind fun t276 => ((impl_NotExpr.f kj4 t267).bind fun t277 => ((impl_SameExpr.f kj4 t267 t273).bind fun t278 => (if t278 = true then (if t276.toList = ([] : List UInt8) then (some true) else (if t277.toList = ([] : List UInt8) then (some true) else ((impl_SameExpr.f kj4 t277 t276).bind fun t279 => (some t279)))) else (some false)))))) = some r := H
     have A21 := Aside0.mk A210; clear A210
     replace H := Option.bind_eq_some_iff.mp H
     obtain ⟨t275, A220, H⟩ := H
     replace H : ((impl_OrExpr.f kj4 t274 t275).bind fun t276 => ((impl_NotExpr.f kj4 t267).bind fun t277 => ((impl_SameExpr.f kj4 t267 t273).bind fun t278 => (if t278 = true then (if t276.toList = ([] : List UInt8) then (some true) else (if t277.toList = ([] : List UInt8) then (some true) else ((impl_SameExpr.f kj4 t277 t276).bind fun t279 => (some t279)))) else (some false))))) = some r := H
     have A22 := Aside0.mk A220; clear A220
     replace H := Option.bind_eq_some_iff.mp H
     obtain ⟨t276, A230, H⟩ := H
     replace H : ((impl_NotExpr.f kj4 t267).bind fun t277 => ((impl_SameExpr.f kj4 t267 t273).bind fun t278 => (if t278 = true then (if t276.toList = ([] : List UInt8) then (some true) else (if t277.toList = ([] : List UInt8) then (some true) else ((impl_SameExpr.f kj4 t277 t276).bind fun t279 => (some t279)))) else (some false)))) = some r := H
     have A23 := Aside0.mk A230; clear A230
     replace H := Option.bind_eq_some_iff.mp H
     obtain ⟨t277, A240, H⟩ := H
     replace H : ((impl_SameExpr.f kj4 t267 t273).bind fun t278 => (if t278 = true then (if t276.toList = ([] : List UInt8) then (some true) else (if t277.toList = ([] : List UInt8) then (some true) else ((impl_SameExpr.f kj4 t277 t276).bind fun t279 => (some t279)))) else (some false))) = some r := H
     have A24 := Aside0.mk A240; clear A240
     replace H := Option.bind_eq_some_iff.mp H
     obtain ⟨t278, A250, H⟩ := H
     replace H : (if t278 = true then (if t276.toList = ([] : List UInt8) then (some true) else (if t277.toList = ([] : List UInt8) then (some true) else ((impl_SameExpr.f kj4 t277 t276).bind fun t279 => (some t279)))) else (some false)) = some r := H
     have A25 := Aside0.mk A250; clear A250
     by_cases c26 : t278 = true
     ·subst c26
      have H1 : (if t276.toList = ([] : List UInt8) then (some true) else (if t277.toList = ([] : List UInt8) then (some true) else ((impl_SameExpr.f kj4 t277 t276).bind fun t279 => (some t279)))) = some r := by rw [if_pos rfl] at H; exact H
      clear H; have H := H1; clear H1
      by_cases c27 : t276.toList = ([] : List UInt8)
      ·rw [if_pos c27] at H
       have c27b0 : (t276.toList == ([] : List UInt8)) = true := beq_iff_eq.mpr c27
       have c27b1 : (t276.toList != ([] : List UInt8)) = false := bne_eq_false_iff_eq.mpr c27
       clear c27
       obtain rfl := Option.some.inj H
       go_wp2_with (first | ((with_reducible refine gate_callee (f := 29) rfl ?_); refine goesL_ (some 42) rfl rfl Try.func29 (by kernel_rfl) rfl #[.string t266, .string t265] rfl (by (try simp only [List.map_toArray, List.map_cons, List.map_nil]); first | done | rfl) ?_; (with_reducible refine (impl_AndExpr.calls kj4 t266 t265 t273 _ A20.out).mono ?_); rintro e w28 ⟨rfl, hb⟩; refine ⟨_, rfl, ?_⟩; replace HB := Aside0.mk (below_step (by repeat first | (with_reducible first | exact HB.out | apply below_alloc | apply pw_below_drewN | apply below_drew1) | exact HB.out) hb); (try clear hb)) | ((with_reducible refine gate_callee (f := 23) rfl ?_); refine goesL_ (some 44) rfl rfl Try.func23 (by kernel_rfl) rfl #[.string t265] rfl (by (try simp only [List.map_toArray, List.map_cons, List.map_nil]); first | done | rfl) ?_; (with_reducible refine (impl_NotExpr.calls kj4 t265 t274 _ A21.out).mono ?_); rintro e w29 ⟨rfl, hb⟩; refine ⟨_, rfl, ?_⟩; replace HB := Aside0.mk (below_step (by repeat first | (with_reducible first | exact HB.out | apply below_alloc | apply pw_below_drewN | apply below_drew1) | exact HB.out) hb); (try clear hb)) | ((with_reducible refine gate_callee (f := 23) rfl ?_); refine goesL_ (some 46) rfl rfl Try.func23 (by kernel_rfl) rfl #[.string t266] rfl (by (try simp only [List.map_toArray, List.map_cons, List.map_nil]); first | done | rfl) ?_; (with_reducible refine (impl_NotExpr.calls kj4 t266 t275 _ A22.out).mono ?_); rintro e w30 ⟨rfl, hb⟩; refine ⟨_, rfl, ?_⟩; replace HB := Aside0.mk (below_step (by repeat first | (with_reducible first | exact HB.out | apply below_alloc | apply pw_below_drewN | apply below_drew1) | exact HB.out) hb); (try clear hb)) | ((with_reducible refine gate_callee (f := 26) rfl ?_); refine goesL_ (some 47) rfl rfl Try.func26 (by kernel_rfl) rfl #[.string t274, .string t275] rfl (by (try simp only [List.map_toArray, List.map_cons, List.map_nil]); first | done | rfl) ?_; (with_reducible refine (impl_OrExpr.calls kj4 t274 t275 t276 _ A23.out).mono ?_); rintro e w31 ⟨rfl, hb⟩; refine ⟨_, rfl, ?_⟩; replace HB := Aside0.mk (below_step (by repeat first | (with_reducible first | exact HB.out | apply below_alloc | apply pw_below_drewN | apply below_drew1) | exact HB.out) hb); (try clear hb)) | ((with_reducible refine gate_callee (f := 23) rfl ?_); refine goesL_ (some 49) rfl rfl Try.func23 (by kernel_rfl) rfl #[.string t267] rfl (by (try simp only [List.map_toArray, List.map_cons, List.map_nil]); first | done | rfl) ?_; (with_reducible refine (impl_NotExpr.calls kj4 t267 t277 _ A24.out).mono ?_); rintro e w32 ⟨rfl, hb⟩; refine ⟨_, rfl, ?_⟩; replace HB := Aside0.mk (below_step (by repeat first | (with_reducible first | exact HB.out | apply below_alloc | apply pw_below_drewN | apply below_drew1) | exact HB.out) hb); (try clear hb)) | ((with_reducible refine gate_callee (f := 12) rfl ?_); refine goesL_ (some 52) rfl rfl Try.func12 (by kernel_rfl) rfl #[.string t267, .string t273] rfl (by (try simp only [List.map_toArray, List.map_cons, List.map_nil]); first | done | rfl) ?_; (with_reducible refine (impl_SameExpr.calls kj4 t267 t273 true _ A25.out).mono ?_); rintro e w33 ⟨rfl, hb⟩; refine ⟨_, rfl, ?_⟩; replace HB := Aside0.mk (below_step (by repeat first | (with_reducible first | exact HB.out | apply below_alloc | apply pw_below_drewN | apply below_drew1) | exact HB.out) hb); (try clear hb)))
       go_ret
       exact ⟨by first | rfl | (simp [errW_none, errW_some] <;> rfl) | (simp [*, errW_none, errW_some] <;> rfl), by repeat (first | (with_reducible first | exact HB.out | apply below_alloc | apply pw_below_drewN | apply below_drew1) | exact HB.out)⟩
      ·rw [if_neg c27] at H
       have c27b0 : (t276.toList == ([] : List UInt8)) = false := beq_eq_false_iff_ne.mpr c27
       have c27b1 : (t276.toList != ([] : List UInt8)) = true := bne_iff_ne.mpr c27
       by_cases c34 : t277.toList = ([] : List UInt8)
       ·rw [if_pos c34] at H
        have c34b0 : (t277.toList == ([] : List UInt8)) = true := beq_iff_eq.mpr c34
        have c34b1 : (t277.toList != ([] : List UInt8)) = false := bne_eq_false_iff_eq.mpr c34
        clear c34
        obtain rfl := Option.some.inj H
        go_wp2_with (first | ((with_reducible refine gate_callee (f := 29) rfl ?_); refine goesL_ (some 42) rfl rfl Try.func29 (by kernel_rfl) rfl #[.string t266, .string t265] rfl (by (try simp only [List.map_toArray, List.map_cons, List.map_nil]); first | done | rfl) ?_; (with_reducible refine (impl_AndExpr.calls kj4 t266 t265 t273 _ A20.out).mono ?_); rintro e w35 ⟨rfl, hb⟩; refine ⟨_, rfl, ?_⟩; replace HB := Aside0.mk (below_step (by repeat first | (with_reducible first | exact HB.out | apply below_alloc | apply pw_below_drewN | apply below_drew1) | exact HB.out) hb); (try clear hb)) | ((with_reducible refine gate_callee (f := 23) rfl ?_); refine goesL_ (some 44) rfl rfl Try.func23 (by kernel_rfl) rfl #[.string t265] rfl (by (try simp only [List.map_toArray, List.map_cons, List.map_nil]); first | done | rfl) ?_; (with_reducible refine (impl_NotExpr.calls kj4 t265 t274 _ A21.out).mono ?_); rintro e w36 ⟨rfl, hb⟩; refine ⟨_, rfl, ?_⟩; replace HB := Aside0.mk (below_step (by repeat first | (with_reducible first | exact HB.out | apply below_alloc | apply pw_below_drewN | apply below_drew1) | exact HB.out) hb); (try clear hb)) | ((with_reducible refine gate_callee (f := 23) rfl ?_); refine goesL_ (some 46) rfl rfl Try.func23 (by kernel_rfl) rfl #[.string t266] rfl (by (try simp only [List.map_toArray, List.map_cons, List.map_nil]); first | done | rfl) ?_; (with_reducible refine (impl_NotExpr.calls kj4 t266 t275 _ A22.out).mono ?_); rintro e w37 ⟨rfl, hb⟩; refine ⟨_, rfl, ?_⟩; replace HB := Aside0.mk (below_step (by repeat first | (with_reducible first | exact HB.out | apply below_alloc | apply pw_below_drewN | apply below_drew1) | exact HB.out) hb); (try clear hb)) | ((with_reducible refine gate_callee (f := 26) rfl ?_); refine goesL_ (some 47) rfl rfl Try.func26 (by kernel_rfl) rfl #[.string t274, .string t275] rfl (by (try simp only [List.map_toArray, List.map_cons, List.map_nil]); first | done | rfl) ?_; (with_reducible refine (impl_OrExpr.calls kj4 t274 t275 t276 _ A23.out).mono ?_); rintro e w38 ⟨rfl, hb⟩; refine ⟨_, rfl, ?_⟩; replace HB := Aside0.mk (below_step (by repeat first | (with_reducible first | exact HB.out | apply below_alloc | apply pw_below_drewN | apply below_drew1) | exact HB.out) hb); (try clear hb)) | ((with_reducible refine gate_callee (f := 23) rfl ?_); refine goesL_ (some 49) rfl rfl Try.func23 (by kernel_rfl) rfl #[.string t267] rfl (by (try simp only [List.map_toArray, List.map_cons, List.map_nil]); first | done | rfl) ?_; (with_reducible refine (impl_NotExpr.calls kj4 t267 t277 _ A24.out).mono ?_); rintro e w39 ⟨rfl, hb⟩; refine ⟨_, rfl, ?_⟩; replace HB := Aside0.mk (below_step (by repeat first | (with_reducible first | exact HB.out | apply below_alloc | apply pw_below_drewN | apply below_drew1) | exact HB.out) hb); (try clear hb)) | ((with_reducible refine gate_callee (f := 12) rfl ?_); refine goesL_ (some 52) rfl rfl Try.func12 (by kernel_rfl) rfl #[.string t267, .string t273] rfl (by (try simp only [List.map_toArray, List.map_cons, List.map_nil]); first | done | rfl) ?_; (with_reducible refine (impl_SameExpr.calls kj4 t267 t273 true _ A25.out).mono ?_); rintro e w40 ⟨rfl, hb⟩; refine ⟨_, rfl, ?_⟩; replace HB := Aside0.mk (below_step (by repeat first | (with_reducible first | exact HB.out | apply below_alloc | apply pw_below_drewN | apply below_drew1) | exact HB.out) hb); (try clear hb)))
        go_ret
        exact ⟨by first | rfl | (simp [errW_none, errW_some] <;> rfl) | (simp [*, errW_none, errW_some] <;> rfl), by repeat (first | (with_reducible first | exact HB.out | apply below_alloc | apply pw_below_drewN | apply below_drew1) | exact HB.out)⟩
       ·rw [if_neg c34] at H
        have c34b0 : (t277.toList == ([] : List UInt8)) = false := beq_eq_false_iff_ne.mpr c34
        have c34b1 : (t277.toList != ([] : List UInt8)) = true := bne_iff_ne.mpr c34
        replace H := Option.bind_eq_some_iff.mp H
        obtain ⟨t279, A410, H⟩ := H
        replace H : (some t279) = some r := H
        have A41 := Aside0.mk A410; clear A410
        obtain rfl := Option.some.inj H
        go_wp2_with (first | ((with_reducible refine gate_callee (f := 29) rfl ?_); refine goesL_ (some 42) rfl rfl Try.func29 (by kernel_rfl) rfl #[.string t266, .string t265] rfl (by (try simp only [List.map_toArray, List.map_cons, List.map_nil]); first | done | rfl) ?_; (with_reducible refine (impl_AndExpr.calls kj4 t266 t265 t273 _ A20.out).mono ?_); rintro e w42 ⟨rfl, hb⟩; refine ⟨_, rfl, ?_⟩; replace HB := Aside0.mk (below_step (by repeat first | (with_reducible first | exact HB.out | apply below_alloc | apply pw_below_drewN | apply below_drew1) | exact HB.out) hb); (try clear hb)) | ((with_reducible refine gate_callee (f := 23) rfl ?_); refine goesL_ (some 44) rfl rfl Try.func23 (by kernel_rfl) rfl #[.string t265] rfl (by (try simp only [List.map_toArray, List.map_cons, List.map_nil]); first | done | rfl) ?_; (with_reducible refine (impl_NotExpr.calls kj4 t265 t274 _ A21.out).mono ?_); rintro e w43 ⟨rfl, hb⟩; refine ⟨_, rfl, ?_⟩; replace HB := Aside0.mk (below_step (by repeat first | (with_reducible first | exact HB.out | apply below_alloc | apply pw_below_drewN | apply below_drew1) | exact HB.out) hb); (try clear hb)) | ((with_reducible refine gate_callee (f := 23) rfl ?_); refine goesL_ (some 46) rfl rfl Try.func23 (by kernel_rfl) rfl #[.string t266] rfl (by (try simp only [List.map_toArray, List.map_cons, List.map_nil]); first | done | rfl) ?_; (with_reducible refine (impl_NotExpr.calls kj4 t266 t275 _ A22.out).mono ?_); rintro e w44 ⟨rfl, hb⟩; refine ⟨_, rfl, ?_⟩; replace HB := Aside0.mk (below_step (by repeat first | (with_reducible first | exact HB.out | apply below_alloc | apply pw_below_drewN | apply below_drew1) | exact HB.out) hb); (try clear hb)) | ((with_reducible refine gate_callee (f := 26) rfl ?_); refine goesL_ (some 47) rfl rfl Try.func26 (by kernel_rfl) rfl #[.string t274, .string t275] rfl (by (try simp only [List.map_toArray, List.map_cons, List.map_nil]); first | done | rfl) ?_; (with_reducible refine (impl_OrExpr.calls kj4 t274 t275 t276 _ A23.out).mono ?_); rintro e w45 ⟨rfl, hb⟩; refine ⟨_, rfl, ?_⟩; replace HB := Aside0.mk (below_step (by repeat first | (with_reducible first | exact HB.out | apply below_alloc | apply pw_below_drewN | apply below_drew1) | exact HB.out) hb); (try clear hb)) | ((with_reducible refine gate_callee (f := 23) rfl ?_); refine goesL_ (some 49) rfl rfl Try.func23 (by kernel_rfl) rfl #[.string t267] rfl (by (try simp only [List.map_toArray, List.map_cons, List.map_nil]); first | done | rfl) ?_; (with_reducible refine (impl_NotExpr.calls kj4 t267 t277 _ A24.out).mono ?_); rintro e w46 ⟨rfl, hb⟩; refine ⟨_, rfl, ?_⟩; replace HB := Aside0.mk (below_step (by repeat first | (with_reducible first | exact HB.out | apply below_alloc | apply pw_below_drewN | apply below_drew1) | exact HB.out) hb); (try clear hb)) | ((with_reducible refine gate_callee (f := 12) rfl ?_); refine goesL_ (some 52) rfl rfl Try.func12 (by kernel_rfl) rfl #[.string t267, .string t273] rfl (by (try simp only [List.map_toArray, List.map_cons, List.map_nil]); first | done | rfl) ?_; (with_reducible refine (impl_SameExpr.calls kj4 t267 t273 true _ A25.out).mono ?_); rintro e w47 ⟨rfl, hb⟩; refine ⟨_, rfl, ?_⟩; replace HB := Aside0.mk (below_step (by repeat first | (with_reducible first | exact HB.out | apply below_alloc | apply pw_below_drewN | apply below_drew1) | exact HB.out) hb); (try clear hb)) | (go_at_call 12; (with_reducible refine (impl_SameExpr.calls kj4 t277 t276 t279 _ A41.out).mono ?_); rintro e w48 ⟨rfl, hb⟩; replace HB := Aside0.mk (below_step (by repeat first | (with_reducible first | exact HB.out | apply below_alloc | apply pw_below_drewN | apply below_drew1) | exact HB.out) hb); (try clear hb)))
        go_ret
        exact ⟨by first | rfl | (simp [errW_none, errW_some] <;> rfl) | (simp [*, errW_none, errW_some] <;> rfl), by repeat (first | (with_reducible first | exact HB.out | apply below_alloc | apply pw_below_drewN | apply below_drew1) | exact HB.out)⟩
     ·replace c26 := Bool.eq_false_iff.mpr c26
      subst c26
      have H1 : (some false) = some r := by rw [if_neg (show ¬ (false = true) by decide)] at H; exact H
      clear H; have H := H1; clear H1
      obtain rfl := Option.some.inj H
      go_wp2_with (first | ((with_reducible refine gate_callee (f := 29) rfl ?_); refine goesL_ (some 42) rfl rfl Try.func29 (by kernel_rfl) rfl #[.string t266, .string t265] rfl (by (try simp only [List.map_toArray, List.map_cons, List.map_nil]); first | done | rfl) ?_; (with_reducible refine (impl_AndExpr.calls kj4 t266 t265 t273 _ A20.out).mono ?_); rintro e w49 ⟨rfl, hb⟩; refine ⟨_, rfl, ?_⟩; replace HB := Aside0.mk (below_step (by repeat first | (with_reducible first | exact HB.out | apply below_alloc | apply pw_below_drewN | apply below_drew1) | exact HB.out) hb); (try clear hb)) | ((with_reducible refine gate_callee (f := 23) rfl ?_); refine goesL_ (some 44) rfl rfl Try.func23 (by kernel_rfl) rfl #[.string t265] rfl (by (try simp only [List.map_toArray, List.map_cons, List.map_nil]); first | done | rfl) ?_; (with_reducible refine (impl_NotExpr.calls kj4 t265 t274 _ A21.out).mono ?_); rintro e w50 ⟨rfl, hb⟩; refine ⟨_, rfl, ?_⟩; replace HB := Aside0.mk (below_step (by repeat first | (with_reducible first | exact HB.out | apply below_alloc | apply pw_below_drewN | apply below_drew1) | exact HB.out) hb); (try clear hb)) | ((with_reducible refine gate_callee (f := 23) rfl ?_); refine goesL_ (some 46) rfl rfl Try.func23 (by kernel_rfl) rfl #[.string t266] rfl (by (try simp only [List.map_toArray, List.map_cons, List.map_nil]); first | done | rfl) ?_; (with_reducible refine (impl_NotExpr.calls kj4 t266 t275 _ A22.out).mono ?_); rintro e w51 ⟨rfl, hb⟩; refine ⟨_, rfl, ?_⟩; replace HB := Aside0.mk (below_step (by repeat first | (with_reducible first | exact HB.out | apply below_alloc | apply pw_below_drewN | apply below_drew1) | exact HB.out) hb); (try clear hb)) | ((with_reducible refine gate_callee (f := 26) rfl ?_); refine goesL_ (some 47) rfl rfl Try.func26 (by kernel_rfl) rfl #[.string t274, .string t275] rfl (by (try simp only [List.map_toArray, List.map_cons, List.map_nil]); first | done | rfl) ?_; (with_reducible refine (impl_OrExpr.calls kj4 t274 t275 t276 _ A23.out).mono ?_); rintro e w52 ⟨rfl, hb⟩; refine ⟨_, rfl, ?_⟩; replace HB := Aside0.mk (below_step (by repeat first | (with_reducible first | exact HB.out | apply below_alloc | apply pw_below_drewN | apply below_drew1) | exact HB.out) hb); (try clear hb)) | ((with_reducible refine gate_callee (f := 23) rfl ?_); refine goesL_ (some 49) rfl rfl Try.func23 (by kernel_rfl) rfl #[.string t267] rfl (by (try simp only [List.map_toArray, List.map_cons, List.map_nil]); first | done | rfl) ?_; (with_reducible refine (impl_NotExpr.calls kj4 t267 t277 _ A24.out).mono ?_); rintro e w53 ⟨rfl, hb⟩; refine ⟨_, rfl, ?_⟩; replace HB := Aside0.mk (below_step (by repeat first | (with_reducible first | exact HB.out | apply below_alloc | apply pw_below_drewN | apply below_drew1) | exact HB.out) hb); (try clear hb)) | ((with_reducible refine gate_callee (f := 12) rfl ?_); refine goesL_ (some 52) rfl rfl Try.func12 (by kernel_rfl) rfl #[.string t267, .string t273] rfl (by (try simp only [List.map_toArray, List.map_cons, List.map_nil]); first | done | rfl) ?_; (with_reducible refine (impl_SameExpr.calls kj4 t267 t273 false _ A25.out).mono ?_); rintro e w54 ⟨rfl, hb⟩; refine ⟨_, rfl, ?_⟩; replace HB := Aside0.mk (below_step (by repeat first | (with_reducible first | exact HB.out | apply below_alloc | apply pw_below_drewN | apply below_drew1) | exact HB.out) hb); (try clear hb)))
      go_ret
      exact ⟨by first | rfl | (simp [errW_none, errW_some] <;> rfl) | (simp [*, errW_none, errW_some] <;> rfl), by repeat (first | (with_reducible first | exact HB.out | apply below_alloc | apply pw_below_drewN | apply below_drew1) | exact HB.out)⟩

/-- THE ONE PURE STATEMENT of laws_FnAndExpr: yours. -/
def laws_FnAndExpr.Pure : Prop := ∀ (l0 : List Int), l0.length ≤ maxLen → l0.length * 1 ≤ 140737488351232 → (∀ x ∈ l0, (Lit.int .u8 x).wf = true) → ∃ k, laws_FnAndExpr.f k l0 = some true
theorem laws_FnAndExpr.walk (P : laws_FnAndExpr.Pure) (a0 : Option Addr) (len0 cap0 : Nat) (z0 : List Int) (w : World) (w0 : (a0 = none ∧ len0 = 0 ∧ cap0 = 0 ∧ z0 = []) ∨ ∃ x, a0 = some x ∧ len0 ≤ cap0 ∧ cap0 ≤ maxLen ∧ z0.length = cap0 ∧ (∀ i, i < z0.length → w.cell? (x.add i) = some (.int .u8 (z0.getD i 0))) ∧ ∀ n ∈ z0, (Lit.int .u8 n).wf = true) (y0 : len0 * 1 ≤ 140737488351232) :
  Calls Try.prog 8 #[.slice a0 len0 cap0] w fun e w' => e = .returned (.bool true) ∧ Below w.heap.size w w' := by
 obtain ⟨l0, rfl, hr0, hm0, hw0, hc0⟩ := ReadsInt.ofRowC w0
 obtain ⟨k, h⟩ := P l0 hm0 y0 hw0
 refine (laws_FnAndExpr.calls k _ _ l0 true w (Kd.C_of_reads (d := (0 : Int)) (h1 := fun _ => rfl) hr0) hc0 h).mono ?_
 rintro e w' ⟨rfl, hd⟩
 exact ⟨rfl, hd⟩

end Go.Proofs.Ytdllommmccgleaa.A
