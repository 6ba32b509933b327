-- WRITTEN by wip/ext.py
import Derived.Test.YtdllommmccgleaaEx0
import Derived.Test.YtdllommmccgleaaEx11
import Derived.Test.YtdllommmccgleaaEx32
namespace Go.Proofs.Ytdllommmccgleaa.E
open Go.RowKit Go.Proofs.YtdllommmccgleaaW.PrintWords Go.Proofs.YtdllommmccgleaaW.PrintLast Go.Proofs.YtdllommmccgleaaW.PrintMore
attribute [local go_sem] max2_int min2_int max_two min_two max_three min_three max_four min_four   -- for this text's walks alone
set_option linter.unusedVariables false
set_option linter.unusedSimpArgs false

/-! ### spec_modules: function 63 -/
def spec_modules.l0 : Nat → List (S28) → List ByteArray → Int → Option (List ByteArray)
 | 0, _, _, _ => none
 | k + 1, x0, x3, x4 => if x4 < (x0.length : Int) then (if 0 ≤ x4 then ((spec_addText.f k x3 ((rd_T28 x0 x4).f0)).bind fun t759 => (spec_modules.l0 k x0 t759 (wrap64 (x4 + 1)))) else (none)) else (some x3)
def spec_modules.f (k : Nat) (l0 : List (S28)) : Option (List ByteArray) := spec_modules.l0 k l0 (([] : List ByteArray)) 0
theorem spec_modules.mono_l : ∀ k, (∀ y0 y1 y2, LeO (spec_modules.l0 k y0 y1 y2) (spec_modules.l0 (k + 1) y0 y1 y2))
 | 0 => fun _ _ _ r h => by simp [spec_modules.l0] at h
 | k + 1 => by
  have ih0 := spec_modules.mono_l k
  ·intro y0 y1 y2
   unfold spec_modules.l0
   repeat' first
   | (with_reducible exact ih0 _ _ _)
   | (with_reducible exact spec_addText.mono _ _ _)
   | (with_reducible exact LeO.refl _)
   | (with_reducible exact LeO.none _)
   | (with_reducible refine LeO.ite ?_ ?_)
   | (with_reducible refine LeO.bind ?_ (fun _ => ?_))
   | refine LeO.ite ?_ ?_
   | refine LeO.bind ?_ (fun _ => ?_)
theorem spec_modules.mono : ∀ a0 k, LeO (spec_modules.f k a0) (spec_modules.f (k + 1) a0) := by
 intro a0 k
 have ih0 := spec_modules.mono_l k
 unfold spec_modules.f
 repeat' first
   | (with_reducible exact ih0 _ _ _)
   | (with_reducible exact spec_addText.mono _ _ _)
   | (with_reducible exact LeO.refl _)
   | (with_reducible exact LeO.none _)
   | (with_reducible refine LeO.ite ?_ ?_)
   | (with_reducible refine LeO.bind ?_ (fun _ => ?_))
   | refine LeO.ite ?_ ?_
   | refine LeO.bind ?_ (fun _ => ?_)
set_option maxHeartbeats 8000000 in
set_option maxRecDepth 100000 in
theorem spec_modules.calls (k : Nat) (A0 : Option Addr) (c0 : Nat) (l0 : List (S28)) (r : List ByteArray) (w : World) (hr0 : Kd.C k28 w A0 l0.length l0) (hc0 : l0.length ≤ c0) (h : spec_modules.f k l0 = some r) :
  Calls Try.prog 63 #[.slice A0 l0.length c0] w fun e w' => ∃ v0_ : Value, e = .returned (v0_) ∧ Kd.R Kd.string 9 w' w.heap.size (fun _ => True) v0_ r ∧ Below w.heap.size w w' := by
 have HR0 := Aside0.mk hr0; have HC0 := Aside0.mk hc0; clear hr0 hc0; have HB := Aside0.mk (Below.refl w.heap.size w)
 have H : (spec_modules.l0 k l0 (([] : List ByteArray)) 0) = some r := h
 clear h
 obtain ⟨y755, hy755⟩ : ∃ y_ : List ByteArray, y_ = (([] : List ByteArray)) := ⟨_, rfl⟩
 replace H : (spec_modules.l0 k l0 y755 0) = some r := by first | (rw [hy755]; with_reducible exact H) | (have H2_ := (Option.bind_some _ _).symm.trans H; rw [hy755]; with_reducible exact H2_) | (have H2_ := (Option.bind_some _ _).symm.trans H; with_reducible exact H2_) | with_reducible exact H | (rw [hy755]; exact H) | exact H
 have Ny755 := Aside0.mk hy755; clear hy755; have H' := Aside0.mk H; clear H
 go_enter Try.func63, Try.ntmps63
 go_wp2_with (first | ((with_reducible refine gate_dst (N := 5) rfl ?_); refine Kd.R_lit Kd.string _ 9 ?hg (N := 5) ?hd (xs := ([] : List ByteArray)) (inner := []) (ok := fun _ => True) (okp := fun _ => True) ?hr ?hp (fun _ hk => hk) trivial (Below.refl _ _) (Nat.le_refl _) (by simp) ?_; (case hd => rfl); (case hg => rfl); (case hr => first | (go_simp; done) | (go_simp; rfl)); (case hp => exact (Reps.none _ _)); intro v756 w2 ho3 hb hg_ hnew_; clear hg_ hnew_; (first | rw [← Ny755.out] at ho3 | (simp only [Int.reduceToNat] at ho3; rw [← Ny755.out] at ho3)); have HO757 := Aside0.mk (Kd.R_lower ho3 (below_size (by repeat first | (with_reducible first | exact HB.out | apply below_alloc | apply pw_below_drewN | apply below_drew1) | exact HB.out))); replace HB := Aside0.mk (below_step (by repeat first | (with_reducible first | exact HB.out | apply below_alloc | apply pw_below_drewN | apply below_drew1) | exact HB.out) hb); clear hb ho3))
 go_loopg [3, 4] k (fun kq v3 v4 w' => ∃ (x3_1 : List ByteArray) (x4_1 : Int), v4 = .int .i64 x4_1 ∧ Aside0 (spec_modules.l0 kq l0 x3_1 x4_1 = some r) ∧ Aside0 (kq ≤ k) ∧ Aside0 (Kd.R Kd.string 9 w' w.heap.size (fun _ => True) v3 x3_1) ∧ Aside0 (Below w.heap.size w w'))
 case atStart => exact ⟨(y755), (0), (by first | rfl | (simp; done) | (simp [*]; done)), H', ⟨Nat.le_refl _⟩, ⟨by (with_reducible repeat first | apply Kd.R_alloc | apply Kd.R_drewN | apply Kd.R_drew); exact HO757.out⟩, ⟨by repeat (first | (with_reducible first | exact HB.out | apply below_alloc | apply pw_below_drewN | apply below_drew1) | exact HB.out)⟩⟩
 case round =>
  clear H'; try clear p2
  obtain ⟨x3_1, x4_1, rfl, HA, HK1, HO_3, HB⟩ := hrel
  cases gk with
  | zero => exact absurd HA.out (by simp [spec_modules.l0])
  | succ k1 =>
   have H := HA.out; clear HA
   simp only [spec_modules.l0] at H
   by_cases c4 : x4_1 < (l0.length : Int)
   ·rw [if_pos c4] at H
    have c4b0 : decide (x4_1 < (l0.length : Int)) = true := decide_eq_true c4
    clear c4
    by_cases c5 : 0 ≤ x4_1
    ·rw [if_pos c5] at H
     have c5b0 : decide (0 ≤ x4_1) = true := decide_eq_true c5
     clear c5
     replace H := Option.bind_eq_some_iff.mp H
     obtain ⟨t759, A60, H⟩ := H
     replace H : (spec_modules.l0 k1 l0 t759 (wrap64 (x4_1 + 1))) = some r := H
     have A6 := Aside0.mk A60; clear A60; have H' := Aside0.mk H; clear H
     have p758 : 0 ≤ (x4_1 : Int) := of_decide_eq_true (by first | (with_reducible assumption) | assumption)
     have q758 : x4_1 < (l0.length : Int) := of_decide_eq_true (by first | (with_reducible assumption) | assumption)
     obtain ⟨ad758, A758_2, c758_2, A758_3, c758_3, e758, hx758_0, hx758_1, hx758_2, hx758_3, hl758_2, hi758_2, hl758_3, hi758_3⟩ := at_T28 HR0.out x4_1 p758 q758
     cases e758
     replace hx758_0 := cup_ HB.out hx758_0; replace hx758_1 := cup_ HB.out hx758_1; replace hx758_2 := cup_ HB.out hx758_2; replace hx758_3 := cup_ HB.out hx758_3
     have HR758_2 := Aside0.mk hi758_2; have HC758_2 := Aside0.mk hl758_2; clear hi758_2 hl758_2; have HR758_3 := Aside0.mk hi758_3; have HC758_3 := Aside0.mk hl758_3; clear hi758_3 hl758_3
     replace p758 := eq_true p758
     replace q758 := eq_true q758
     obtain ⟨Ao7, co7, eo7⟩ := Kd.R_slice HO_3.out
     subst eo7
     go_wp2_with (first | ((with_reducible refine gate_callee (f := 43) rfl ?_); refine goesL_ (some 18) rfl rfl Try.func43 (by kernel_rfl) rfl #[.slice Ao7 x3_1.length co7, .string ((rd_T28 l0 x4_1).f0)] rfl (by (try simp only [List.map_toArray, List.map_cons, List.map_nil]); first | done | rfl) ?_; (with_reducible refine (spec_addText.calls k1 (fun k_ => some k_ = (.slice Ao7 x3_1.length co7 : Value).ownBlock) (.slice Ao7 x3_1.length co7) x3_1 ((rd_T28 l0 x4_1).f0) t759 w _ ?side1 ?side2 A6.out).mono ?_); (case side1 => repeat (first | (with_reducible first | exact HB.out | apply below_alloc | apply pw_below_drewN | apply below_drew1) | exact HB.out)); (case side2 => exact Kd.R_tight rfl HO_3.out); rintro e w8 ⟨v760, rfl, ho0, hb, hkp⟩; refine ⟨_, rfl, ?_⟩; have HO761 := Aside0.mk (Kd.R_mono (ok' := fun k_ => True) ho0 (fun k_ hk_ => trivial)); replace HB := Aside0.mk (hb); clear HO_3; (try clear hb); (try clear hkp); (try clear ho0)))
     go_roundg k1
     case measure => have := HK1.out; omega
     case rel => exact ⟨(t759), (wrap64 (x4_1 + 1)), (by first | rfl | (simp; done) | (simp [*]; done)), H', ⟨by have := HK1.out; omega⟩, ⟨by (with_reducible repeat first | apply Kd.R_alloc | apply Kd.R_drewN | apply Kd.R_drew); exact HO761.out⟩, ⟨by repeat (first | (with_reducible first | exact HB.out | apply below_alloc | apply pw_below_drewN | apply below_drew1) | exact HB.out)⟩⟩
    ·rw [if_neg c5] at H
     exact absurd H (by simp)
   ·rw [if_neg c4] at H
    have c4b0 : decide (x4_1 < (l0.length : Int)) = false := decide_eq_false c4
    clear c4
    obtain rfl := Option.some.inj H
    go_wp2
    go_ret
    exact ⟨_, by first | rfl | (simp [errW_none, errW_some] <;> rfl) | (simp [*, errW_none, errW_some] <;> rfl), by (with_reducible repeat first | apply Kd.R_alloc | apply Kd.R_drewN | apply Kd.R_drew); exact HO_3.out, by repeat (first | (with_reducible first | exact HB.out | apply below_alloc | apply pw_below_drewN | apply below_drew1) | exact HB.out)⟩

/-! ### spec_ModulesOf: function 38 -/
def spec_ModulesOf.f (k : Nat) (l0 : List (S28)) : Option (List ByteArray) := (spec_validTests.f k l0).bind fun t762 => (if t762 = true then ((spec_modules.f k l0).bind fun t763 => (some t763)) else (some ([] : List ByteArray)))
theorem spec_ModulesOf.mono : ∀ a0 k, LeO (spec_ModulesOf.f k a0) (spec_ModulesOf.f (k + 1) a0) := by
 intro a0 k
 unfold spec_ModulesOf.f
 repeat' first
   | (with_reducible exact spec_modules.mono _ _)
   | (with_reducible exact spec_validTests.mono _ _)
   | (with_reducible exact LeO.refl _)
   | (with_reducible exact LeO.none _)
   | (with_reducible refine LeO.ite ?_ ?_)
   | (with_reducible refine LeO.bind ?_ (fun _ => ?_))
   | refine LeO.ite ?_ ?_
   | refine LeO.bind ?_ (fun _ => ?_)
set_option maxHeartbeats 8000000 in
set_option maxRecDepth 100000 in
theorem spec_ModulesOf.calls (k : Nat) (A0 : Option Addr) (c0 : Nat) (l0 : List (S28)) (r : List ByteArray) (w : World) (hr0 : Kd.C k28 w A0 l0.length l0) (hc0 : l0.length ≤ c0) (h : spec_ModulesOf.f k l0 = some r) :
  Calls Try.prog 38 #[.slice A0 l0.length c0] w fun e w' => ∃ v0_ : Value, e = .returned (v0_) ∧ Kd.R Kd.string 9 w' w.heap.size (fun _ => True) v0_ r ∧ Below w.heap.size w w' := by
 have HR0 := Aside0.mk hr0; have HC0 := Aside0.mk hc0; clear hr0 hc0; have HB := Aside0.mk (Below.refl w.heap.size w)
 have H : ((spec_validTests.f k l0).bind fun t762 => (if t762 = true then ((spec_modules.f k l0).bind fun t763 => (some t763)) else (some ([] : List ByteArray)))) = some r := h
 clear h
 replace H := Option.bind_eq_some_iff.mp H
 obtain ⟨t762, A20, H⟩ := H
 replace H : (if t762 = true then ((spec_modules.f k l0).bind fun t763 => (some t763)) else (some ([] : List ByteArray))) = some r := H
 have A2 := Aside0.mk A20; clear A20
 by_cases c3 : t762 = true
 ·subst c3
  have H1 : ((spec_modules.f k l0).bind fun t763 => (some t763)) = some r := by rw [if_pos rfl] at H; exact H
  clear H; have H := H1; clear H1
  replace H := Option.bind_eq_some_iff.mp H
  obtain ⟨t763, A40, H⟩ := H
  replace H : (some t763) = some r := H
  have A4 := Aside0.mk A40; clear A40
  obtain rfl := Option.some.inj H
  go_enter Try.func38, Try.ntmps38
  go_wp2_with (first | ((with_reducible refine gate_callee (f := 62) rfl ?_); refine goesL_ (some 4) rfl rfl Try.func62 (by kernel_rfl) rfl #[.slice A0 l0.length c0] rfl (by (try simp only [List.map_toArray, List.map_cons, List.map_nil]); first | done | rfl) ?_; (with_reducible refine (spec_validTests.calls k _ _ l0 true _ ?side1 ?side2 A2.out).mono ?_); (case side1 => repeat (first | exact HR0.out | with_reducible first | apply Kd.C_alloc | apply Kd.C_drewN | apply Kd.C_drew)); (case side2 => exact HC0.out); rintro e w5 ⟨rfl, hb⟩; refine ⟨_, rfl, ?_⟩; replace HB := Aside0.mk (below_step (by repeat first | (with_reducible first | exact HB.out | apply below_alloc | apply pw_below_drewN | apply below_drew1) | exact HB.out) hb); (try clear hb)) | ((with_reducible refine gate_callee (f := 63) rfl ?_); refine goesL_ (some 7) rfl rfl Try.func63 (by kernel_rfl) rfl #[.slice A0 l0.length c0] rfl (by (try simp only [List.map_toArray, List.map_cons, List.map_nil]); first | done | rfl) ?_; (with_reducible refine (spec_modules.calls k _ _ l0 t763 _ ?side1 ?side2 A4.out).mono ?_); (case side1 => repeat (first | exact (Kd.C_below HR0.out HB.out) | with_reducible first | apply Kd.C_alloc | apply Kd.C_drewN | apply Kd.C_drew)); (case side2 => exact HC0.out); rintro e w6 ⟨v764, rfl, ho0, hb⟩; refine ⟨_, rfl, ?_⟩; have HO765 := Aside0.mk (Kd.R_lower ho0 (below_size (by repeat first | (with_reducible first | exact HB.out | apply below_alloc | apply pw_below_drewN | apply below_drew1) | exact HB.out))); replace HB := Aside0.mk (below_step (by repeat first | (with_reducible first | exact HB.out | apply below_alloc | apply pw_below_drewN | apply below_drew1) | exact HB.out) hb); (try clear hb); (try clear ho0)))
  go_ret
  exact ⟨_, by first | rfl | (simp [errW_none, errW_some] <;> rfl) | (simp [*, errW_none, errW_some] <;> rfl), by (with_reducible repeat first | apply Kd.R_alloc | apply Kd.R_drewN | apply Kd.R_drew); exact HO765.out, by repeat (first | (with_reducible first | exact HB.out | apply below_alloc | apply pw_below_drewN | apply below_drew1) | exact HB.out)⟩
 ·replace c3 := Bool.eq_false_iff.mpr c3
  subst c3
  have H1 : (some ([] : List ByteArray)) = some r := by rw [if_neg (show ¬ (false = true) by decide)] at H; exact H
  clear H; have H := H1; clear H1
  obtain rfl := Option.some.inj H
  go_enter Try.func38, Try.ntmps38
  go_wp2_with (first | ((with_reducible refine gate_callee (f := 62) rfl ?_); refine goesL_ (some 4) rfl rfl Try.func62 (by kernel_rfl) rfl #[.slice A0 l0.length c0] rfl (by (try simp only [List.map_toArray, List.map_cons, List.map_nil]); first | done | rfl) ?_; (with_reducible refine (spec_validTests.calls k _ _ l0 false _ ?side1 ?side2 A2.out).mono ?_); (case side1 => repeat (first | exact HR0.out | with_reducible first | apply Kd.C_alloc | apply Kd.C_drewN | apply Kd.C_drew)); (case side2 => exact HC0.out); rintro e w7 ⟨rfl, hb⟩; refine ⟨_, rfl, ?_⟩; replace HB := Aside0.mk (below_step (by repeat first | (with_reducible first | exact HB.out | apply below_alloc | apply pw_below_drewN | apply below_drew1) | exact HB.out) hb); (try clear hb)))
  go_ret
  exact ⟨_, by first | rfl | (simp [errW_none, errW_some] <;> rfl) | (simp [*, errW_none, errW_some] <;> rfl), by first | exact Kd.R_nil _ _ _ _ _ | exact Kd.N_nil _ _ _ _ _ | exact Kd.V_nil _ _ _ _ _ | exact Kd.Q_nil _ _ _ _ _ | exact Kd.S_nil _ _ _ _ _, by repeat (first | (with_reducible first | exact HB.out | apply below_alloc | apply pw_below_drewN | apply below_drew1) | exact HB.out)⟩

/-! ### slices_Clone_string_string: function 94 -/
def slices_Clone_string_string.f (l0 : List ByteArray) : Option (List ByteArray) := (some (([] : List ByteArray) : List ByteArray)).bind fun y766 => (if y766.length + l0.length < 8796093022208 then (some (y766 ++ l0)) else (none))
set_option maxHeartbeats 8000000 in
set_option maxRecDepth 100000 in
theorem slices_Clone_string_string.calls (A0 : Option Addr) (c0 : Nat) (l0 : List ByteArray) (r : List ByteArray) (w : World) (hr0 : Kd.C Kd.string w A0 l0.length l0) (hc0 : l0.length ≤ c0) (h : slices_Clone_string_string.f l0 = some r) :
  Calls Try.prog 94 #[.slice A0 l0.length c0] w fun e w' => ∃ v0_ : Value, e = .returned (v0_) ∧ Kd.R Kd.string 9 w' w.heap.size (fun _ => True) v0_ r ∧ Below w.heap.size w w' := by
 have qnil : ∀ (w : World) (a : Option Addr) (n c n' c' : Nat), (binOp .eql 23 (.slice a n c) (.slice none n' c')).run Try.prog w = .ok (.bool a.isNone) w := fun w a n c n' c' => Lib.run_eql_slice_nil w _ _ a n c n' c' Try.underlying23
 cases A0 with
 | none =>
  have hl0 : l0 = [] := by
   cases l0 with
   | nil => rfl
   | cons a t => obtain ⟨ad, e, _⟩ := hr0.2.2 (by simp); cases e
  subst hl0
  have hr1 : r = [] := by
   have h1 := h
   simp [slices_Clone_string_string.f] at h1
   exact h1
  subst hr1; clear hr0 hc0 h
  go_enter Try.func94, Try.ntmps94
  go_wp2
  go_ret
  exact ⟨_, rfl, Kd.R_nil _ _ _ _ _, Below.refl _ _⟩
 | some A0 =>
  have HR0 := Aside0.mk hr0; have HC0 := Aside0.mk hc0; clear hr0 hc0; have HB := Aside0.mk (Below.refl w.heap.size w)
  have H : ((some (([] : List ByteArray) : List ByteArray)).bind fun y766 => (if y766.length + l0.length < 8796093022208 then (some (y766 ++ l0)) else (none))) = some r := h
  clear h
  obtain ⟨y766, hy766⟩ : ∃ y_ : List ByteArray, y_ = (([] : List ByteArray)) := ⟨_, rfl⟩
  replace H : (if y766.length + l0.length < 8796093022208 then (some (y766 ++ l0)) else (none)) = some r := by first | (rw [hy766]; with_reducible exact H) | (have H2_ := (Option.bind_some _ _).symm.trans H; rw [hy766]; with_reducible exact H2_) | (have H2_ := (Option.bind_some _ _).symm.trans H; with_reducible exact H2_) | with_reducible exact H | (rw [hy766]; exact H) | exact H
  have Ny766 := Aside0.mk hy766; clear hy766
  by_cases c2 : y766.length + l0.length < 8796093022208
  ·rw [if_pos c2] at H
   have LMc2 := Aside0.mk c2; clear c2
   obtain ⟨y769, hy769⟩ : ∃ y_ : List ByteArray, y_ = (y766 ++ l0) := ⟨_, rfl⟩
   replace H : (some y769) = some r := by first | (rw [hy769]; with_reducible exact H) | (have H2_ := (Option.bind_some _ _).symm.trans H; rw [hy769]; with_reducible exact H2_) | (have H2_ := (Option.bind_some _ _).symm.trans H; with_reducible exact H2_) | with_reducible exact H | (rw [hy769]; exact H) | exact H
   have Ny769 := Aside0.mk hy769; clear hy769
   obtain rfl := Option.some.inj H
   go_enter Try.func94, Try.ntmps94
   go_wp2_with (first | ((with_reducible refine gate_dst (N := 5) rfl ?_); refine Kd.R_lit Kd.string _ 9 ?hg (N := 5) ?hd (xs := ([] : List ByteArray)) (inner := []) (ok := fun _ => True) (okp := fun _ => True) ?hr ?hp (fun _ hk => hk) trivial (Below.refl _ _) (Nat.le_refl _) (by simp) ?_; (case hd => rfl); (case hg => rfl); (case hr => first | (go_simp; done) | (go_simp; rfl)); (case hp => exact (Reps.none _ _)); intro v767 w3 ho4 hb hg_ hnew_; clear hg_ hnew_; (first | rw [← Ny766.out] at ho4 | (simp only [Int.reduceToNat] at ho4; rw [← Ny766.out] at ho4)); have HO768 := Aside0.mk (Kd.R_lower ho4 (below_size (by repeat first | (with_reducible first | exact HB.out | apply below_alloc | apply pw_below_drewN | apply below_drew1) | exact HB.out))); replace HB := Aside0.mk (below_step (by repeat first | (with_reducible first | exact HB.out | apply below_alloc | apply pw_below_drewN | apply below_drew1) | exact HB.out) hb); clear hb ho4) | ((with_reducible refine gate_builtin (b := .append) (xs := #[.tmp 5, .tmp 6]) rfl ?_); at_builtin; refine Kd.R_append_rows Kd.string (w0 := w) w.heap.size rfl (.tmp 5) (.tmp 6) 23 9 (.string ⟨#[]⟩) 16 rfl Try.underlying23 info9 rfl (by decide) (by omega) v767 y766 l0 _ _ _ (fun _ => True) (fun _ => False) rfl rfl ?aO ?aR (fun _ _ h => h) (fun _ h => h.elim) ?aF ?aB ?aS ?aL ?_; (case aR => repeat (first | exact (Kd.C_below HR0.out HB.out) | with_reducible first | apply Kd.C_alloc | apply Kd.C_drewN | apply Kd.C_drew)); (case aB => exact (by repeat first | (with_reducible first | exact HB.out | apply below_alloc | apply pw_below_drewN | apply below_drew1) | exact HB.out)); (case aF => exact (fun _ _ => trivial)); (case aO => exact (by (with_reducible repeat first | apply Kd.R_alloc | apply Kd.R_drewN | apply Kd.R_drew); exact HO768.out)); (case aS => exact (below_size (by repeat first | (with_reducible first | exact HB.out | apply below_alloc | apply pw_below_drewN | apply below_drew1) | exact HB.out))); (case aL => have := LMc2.out; omega); intro v770 w5 ho hb hg hat; rw [← Ny769.out] at ho; replace HB := Aside0.mk (hb); have HO771 := Aside0.mk (ho); clear HO768; clear ho hb hg hat))
   go_ret
   exact ⟨_, by first | rfl | (simp [errW_none, errW_some] <;> rfl) | (simp [*, errW_none, errW_some] <;> rfl), by (with_reducible repeat first | apply Kd.R_alloc | apply Kd.R_drewN | apply Kd.R_drew); exact HO771.out, by repeat (first | (with_reducible first | exact HB.out | apply below_alloc | apply pw_below_drewN | apply below_drew1) | exact HB.out)⟩
  ·rw [if_neg c2] at H
   exact absurd H (by simp)

/-! ### impl_copyTests: function 82 -/
def impl_copyTests.l0 : Nat → List (S28) → List (S28) → Int → Int → Option ((List (S28)))
 | 0, _, _, _, _ => none
 | k + 1, x3, x7, x8, x9 => if x9 < x8 then (if 0 ≤ x9 then (if x9 < (x7.length : Int) then ((slices_Clone_string_string.f ((rd_T28 x7 x9).f2)).bind fun t777 => ((slices_Clone_string_string.f ((rd_T28 x7 x9).f3)).bind fun t780 => (if x3.length < 1759218604441 then (impl_copyTests.l0 k (x3 ++ [(⟨(rd_T28 x7 x9).f0, (rd_T28 x7 x9).f1, t777, t780⟩ : S28)]) x7 x8 (wrap64 (x9 + 1))) else (none)))) else (none)) else (none)) else (some x3)
def impl_copyTests.f (k : Nat) (l0 : List (S28)) : Option ((List (S28))) := impl_copyTests.l0 k (([] : List (S28))) l0 (l0.length : Int) 0
theorem impl_copyTests.mono_l : ∀ k, (∀ y0 y1 y2 y3, LeO (impl_copyTests.l0 k y0 y1 y2 y3) (impl_copyTests.l0 (k + 1) y0 y1 y2 y3))
 | 0 => fun _ _ _ _ r h => by simp [impl_copyTests.l0] at h
 | k + 1 => by
  have ih0 := impl_copyTests.mono_l k
  ·intro y0 y1 y2 y3
   unfold impl_copyTests.l0
   repeat' first
   | (with_reducible exact ih0 _ _ _ _)
   | (with_reducible exact LeO.refl _)
   | (with_reducible exact LeO.none _)
   | (with_reducible refine LeO.ite ?_ ?_)
   | (with_reducible refine LeO.bind ?_ (fun _ => ?_))
   | refine LeO.ite ?_ ?_
   | refine LeO.bind ?_ (fun _ => ?_)
theorem impl_copyTests.mono : ∀ a0 k, LeO (impl_copyTests.f k a0) (impl_copyTests.f (k + 1) a0) := by
 intro a0 k
 have ih0 := impl_copyTests.mono_l k
 unfold impl_copyTests.f
 repeat' first
   | (with_reducible exact ih0 _ _ _ _)
   | (with_reducible exact LeO.refl _)
   | (with_reducible exact LeO.none _)
   | (with_reducible refine LeO.ite ?_ ?_)
   | (with_reducible refine LeO.bind ?_ (fun _ => ?_))
   | refine LeO.ite ?_ ?_
   | refine LeO.bind ?_ (fun _ => ?_)
def impl_copyTests.T5 : Bool × List (List Nat × List Nat) := (true, [([], []), ([0], [0]), ([1], [1]), ([], []), ([3], [3]), ([4, 2], [4]), ([0, 1, 2, 3, 4], []), ([6, 2, 5, 0, 1, 2, 3, 4], [2, 6]), ([0, 1, 2, 3, 4, 5, 6, 7], []), ([8, 5, 7, 0, 1, 2, 3, 4, 5, 6, 7], [5, 8])])
def impl_copyTests.B5 : List Nat := [0, 1, 3, 0, 8, 31, 31, 127, 255, 511]
theorem impl_copyTests.tab5 : rtab .any (opsOf Try.f82 5) = impl_copyTests.T5 := by kernel_rfl
theorem impl_copyTests.bits5 : waitsOk impl_copyTests.T5.2 impl_copyTests.B5 = true := by kernel_rfl
set_option maxHeartbeats 8000000 in
set_option maxRecDepth 100000 in
theorem impl_copyTests.calls (k : Nat) (A0 : Option Addr) (c0 : Nat) (l0 : List (S28)) (r : List (S28)) (w : World) (hr0 : Kd.C k28 w A0 l0.length l0) (hc0 : l0.length ≤ c0) (h : impl_copyTests.f k l0 = some r) :
  Calls Try.prog 82 #[.slice A0 l0.length c0] w fun e w' => ∃ v0_ : Value, e = .returned (v0_) ∧ Kd.S k28 28 w' w.heap.size (fun _ => True) v0_ r ∧ Below w.heap.size w w' := by
 have hu28 := Try.underlying28; have HR0 := Aside0.mk hr0; have HC0 := Aside0.mk hc0; clear hr0 hc0; have HB := Aside0.mk (Below.refl w.heap.size w)
 have H : (impl_copyTests.l0 k (([] : List (S28))) l0 (l0.length : Int) 0) = some r := h
 clear h
 obtain ⟨y772, hy772⟩ : ∃ y_ : List (S28), y_ = (([] : List (S28))) := ⟨_, rfl⟩
 replace H : (impl_copyTests.l0 k y772 l0 (l0.length : Int) 0) = some r := by first | (rw [hy772]; with_reducible exact H) | (have H2_ := (Option.bind_some _ _).symm.trans H; rw [hy772]; with_reducible exact H2_) | (have H2_ := (Option.bind_some _ _).symm.trans H; with_reducible exact H2_) | with_reducible exact H | (rw [hy772]; exact H) | exact H
 have Ny772 := Aside0.mk hy772; clear hy772; have H' := Aside0.mk H; clear H
 go_enter Try.func82, Try.ntmps82
 go_wp2_with (first | ((with_reducible refine gate_dst (N := 6) rfl ?_); refine Kd.S_lit k28 _ 28 ?hg (N := 6) ?hd (xs := ([] : List (S28))) (inner := []) (ok := fun _ => True) (okp := fun _ => True) ?hr ?hp (fun _ hk => hk) trivial (Below.refl _ _) (Nat.le_refl _) (by simp) ?_; (case hd => rfl); (case hg => rfl); (case hr => first | (go_simp; done) | (go_simp; rfl)); (case hp => exact (Reps.none _ _)); intro v773 w2 ho3 hb hg_ hnew_; clear hg_ hnew_; (first | rw [← Ny772.out] at ho3 | (simp only [Int.reduceToNat] at ho3; rw [← Ny772.out] at ho3)); have HO774 := Aside0.mk (Kd.S_lower ho3 (below_size (by repeat first | (with_reducible first | exact HB.out | apply below_alloc | apply pw_below_drewN | apply below_drew1) | exact HB.out))); replace HB := Aside0.mk (below_step (by repeat first | (with_reducible first | exact HB.out | apply below_alloc | apply pw_below_drewN | apply below_drew1) | exact HB.out) hb); clear hb ho3))
 go_loopg [3, 9] k (fun kq v3 v9 w' => ∃ (x3_1 : List (S28)) (x9_1 : Int), v9 = .int .i64 x9_1 ∧ Aside0 (impl_copyTests.l0 kq x3_1 l0 (l0.length : Int) x9_1 = some r) ∧ Aside0 (kq ≤ k) ∧ Aside0 (Kd.S k28 28 w' w.heap.size (fun _ => True) v3 x3_1) ∧ Aside0 (Below w.heap.size w w'))
 case atStart => exact ⟨(y772), (0), (by first | rfl | (simp; done) | (simp [*]; done)), H', ⟨Nat.le_refl _⟩, ⟨by (with_reducible repeat first | apply Kd.S_alloc | apply Kd.S_drewN | apply Kd.S_drew); exact HO774.out⟩, ⟨by repeat (first | (with_reducible first | exact HB.out | apply below_alloc | apply pw_below_drewN | apply below_drew1) | exact HB.out)⟩⟩
 case round =>
  clear H'; try clear p2
  obtain ⟨x3_1, x9_1, rfl, HA, HK1, HO_3, HB⟩ := hrel
  cases gk with
  | zero => exact absurd HA.out (by simp [impl_copyTests.l0])
  | succ k1 =>
   have H := HA.out; clear HA
   simp only [impl_copyTests.l0] at H
   by_cases c4 : x9_1 < (l0.length : Int)
   ·rw [if_pos c4] at H
    have c4b0 : decide (x9_1 < (l0.length : Int)) = true := decide_eq_true c4
    clear c4
    by_cases c5 : 0 ≤ x9_1
    ·rw [if_pos c5] at H
     have c5b0 : decide (0 ≤ x9_1) = true := decide_eq_true c5
     clear c5
     by_cases c6 : x9_1 < (l0.length : Int)
     ·rw [if_pos c6] at H
      have c6b0 : decide (x9_1 < (l0.length : Int)) = true := decide_eq_true c6
      clear c6
      replace H := Option.bind_eq_some_iff.mp H
      obtain ⟨t777, A70, H⟩ := H
      replace H : ((slices_Clone_string_string.f ((rd_T28 l0 x9_1).f3)).bind fun t780 => (if x3_1.length < 1759218604441 then (impl_copyTests.l0 k1 (x3_1 ++ [(⟨(rd_T28 l0 x9_1).f0, (rd_T28 l0 x9_1).f1, t777, t780⟩ : S28)]) l0 (l0.length : Int) (wrap64 (x9_1 + 1))) else (none))) = some r := H
      have A7 := Aside0.mk A70; clear A70
      replace H := Option.bind_eq_some_iff.mp H
      obtain ⟨t780, A80, H⟩ := H
      replace H : (if x3_1.length < 1759218604441 then (impl_copyTests.l0 k1 (x3_1 ++ [(⟨(rd_T28 l0 x9_1).f0, (rd_T28 l0 x9_1).f1, t777, t780⟩ : S28)]) l0 (l0.length : Int) (wrap64 (x9_1 + 1))) else (none)) = some r := H
      have A8 := Aside0.mk A80; clear A80
      by_cases c9 : x3_1.length < 1759218604441
      ·rw [if_pos c9] at H
       have LMc9 := Aside0.mk c9; clear c9
       obtain ⟨y783, hy783⟩ : ∃ y_ : List (S28), y_ = (x3_1 ++ [(⟨(rd_T28 l0 x9_1).f0, (rd_T28 l0 x9_1).f1, t777, t780⟩ : S28)]) := ⟨_, rfl⟩
       replace H : (impl_copyTests.l0 k1 y783 l0 (l0.length : Int) (wrap64 (x9_1 + 1))) = some r := by first | (rw [hy783]; with_reducible exact H) | (have H2_ := (Option.bind_some _ _).symm.trans H; rw [hy783]; with_reducible exact H2_) | (have H2_ := (Option.bind_some _ _).symm.trans H; with_reducible exact H2_) | with_reducible exact H | (rw [hy783]; exact H) | exact H
       have Ny783 := Aside0.mk hy783; clear hy783; have H' := Aside0.mk H; clear H
       have p775 : 0 ≤ (x9_1 : Int) := of_decide_eq_true (by first | (with_reducible assumption) | assumption)
       have q775 : x9_1 < (l0.length : Int) := of_decide_eq_true (by first | (with_reducible assumption) | assumption)
       obtain ⟨ad775, A775_2, c775_2, A775_3, c775_3, e775, hx775_0, hx775_1, hx775_2, hx775_3, hl775_2, hi775_2, hl775_3, hi775_3⟩ := at_T28 HR0.out x9_1 p775 q775
       cases e775
       replace hx775_0 := cup_ HB.out hx775_0; replace hx775_1 := cup_ HB.out hx775_1; replace hx775_2 := cup_ HB.out hx775_2; replace hx775_3 := cup_ HB.out hx775_3
       have HR775_2 := Aside0.mk hi775_2; have HC775_2 := Aside0.mk hl775_2; clear hi775_2 hl775_2; have HR775_3 := Aside0.mk hi775_3; have HC775_3 := Aside0.mk hl775_3; clear hi775_3 hl775_3
       replace p775 := eq_true p775
       replace q775 := eq_true q775
       try go_wp2_with (first | ((with_reducible refine gate_dst (N := 5) rfl ?_); refine box_event ?hg (N := 5) ?hd (cs := #[.string (⟨#[]⟩ : ByteArray), .string (⟨#[]⟩ : ByteArray), .slice none 0 0, .slice none 0 0]) (t := 28) ?hr ?_; (case hd => rfl); (case hg => rfl); (case hr => first | (go_simp; done) | (go_simp; rfl)); intro gb776 hg w10 hbox hb; replace HO_3 := Aside0.mk (Kd.S_below (Kd.S_elderB (by (with_reducible repeat first | apply Kd.S_alloc | apply Kd.S_drewN | apply Kd.S_drew); exact HO_3.out) gb776 (Nat.le_of_eq hg.symm)) hb); have BK776 := Aside0.mk (hbox); have GW776 := Aside0.mk ((by rw [hg]; exact (below_size (by repeat first | (with_reducible first | exact HB.out | apply below_alloc | apply pw_below_drewN | apply below_drew1) | exact HB.out)) : w.heap.size ≤ gb776)); have GE776 := Aside0.mk ((by rw [hg]; exact (below_size (by repeat first | (with_reducible first | exact HB.out | apply below_alloc | apply pw_below_drewN | apply below_drew1) | exact HB.out)) : w.heap.size ≤ gb776)); replace HB := Aside0.mk (below_step (by repeat first | (with_reducible first | exact HB.out | apply below_alloc | apply pw_below_drewN | apply below_drew1) | exact HB.out) hb); clear hb hbox hg; have hcz11_0 : w10.cell? ⟨gb776, 0, none⟩ = some (.string (⟨#[]⟩ : ByteArray)) := (blk_cell BK776.out 0).trans rfl; have hcz11_1 : w10.cell? ⟨gb776, 1, none⟩ = some (.string (⟨#[]⟩ : ByteArray)) := (blk_cell BK776.out 1).trans rfl; have hcz11_2 : w10.cell? ⟨gb776, 2, none⟩ = some (.slice none 0 0) := (blk_cell BK776.out 2).trans rfl; have hcz11_3 : w10.cell? ⟨gb776, 3, none⟩ = some (.slice none 0 0) := (blk_cell BK776.out 3).trans rfl; have hfz11_0 := blk_frozen BK776.out 0; have hfz11_1 := blk_frozen BK776.out 1; have hfz11_2 := blk_frozen BK776.out 2; have hfz11_3 := blk_frozen BK776.out 3))
       have n0_ : Aside0 (Kd.S k28 28 ((((w10.setCell ⟨gb776, 0, none⟩ (.string ((rd_T28 l0 x9_1).f0))).setCell ⟨gb776, 1, none⟩ (.string ((rd_T28 l0 x9_1).f1))).setCell ⟨gb776, 2, none⟩ (.slice A775_2 ((rd_T28 l0 x9_1).f2).length c775_2)).setCell ⟨gb776, 3, none⟩ (.slice A775_3 ((rd_T28 l0 x9_1).f3).length c775_3)) w.heap.size (fun k_ => k_ ≠ gb776) u3 x3_1) := ⟨by (with_reducible repeat first | apply Kd.S_alloc | apply Kd.S_drewN | apply Kd.S_drew); exact Kd.S_mono (Kd.S_far (p := ⟨gb776, 3, none⟩) (Kd.S_far (p := ⟨gb776, 2, none⟩) (Kd.S_far (p := ⟨gb776, 1, none⟩) (Kd.S_far (p := ⟨gb776, 0, none⟩) (Kd.S_mono HO_3.out (fun k_ hk => (⟨hk, hk.2⟩ : _ ∧ k_ ≠ gb776))) (fun _ hk => hk.2) (.string ((rd_T28 l0 x9_1).f0))) (fun _ hk => hk.2) (.string ((rd_T28 l0 x9_1).f1))) (fun _ hk => hk.2) (.slice A775_2 ((rd_T28 l0 x9_1).f2).length c775_2)) (fun _ hk => hk.2) (.slice A775_3 ((rd_T28 l0 x9_1).f3).length c775_3)) (fun _ hk => hk.1.2)⟩
       have n1_ : Aside0 (((((w10.setCell ⟨gb776, 0, none⟩ (.string ((rd_T28 l0 x9_1).f0))).setCell ⟨gb776, 1, none⟩ (.string ((rd_T28 l0 x9_1).f1))).setCell ⟨gb776, 2, none⟩ (.slice A775_2 ((rd_T28 l0 x9_1).f2).length c775_2)).setCell ⟨gb776, 3, none⟩ (.slice A775_3 ((rd_T28 l0 x9_1).f3).length c775_3)).heap[gb776]? = some (.cells #[.string ((rd_T28 l0 x9_1).f0), .string ((rd_T28 l0 x9_1).f1), .slice A775_2 ((rd_T28 l0 x9_1).f2).length c775_2, .slice A775_3 ((rd_T28 l0 x9_1).f3).length c775_3] 28 (0, 0))) := ⟨by (with_reducible repeat first | apply blk_drewN | apply blk_drew | apply blk_alloc); refine blk_put (cs := #[.string ((rd_T28 l0 x9_1).f0), .string ((rd_T28 l0 x9_1).f1), .slice A775_2 ((rd_T28 l0 x9_1).f2).length c775_2, .slice none 0 0]) ?_ 3 _ rfl; (with_reducible repeat first | apply blk_drewN | apply blk_drew | apply blk_alloc); refine blk_put (cs := #[.string ((rd_T28 l0 x9_1).f0), .string ((rd_T28 l0 x9_1).f1), .slice none 0 0, .slice none 0 0]) ?_ 2 _ rfl; (with_reducible repeat first | apply blk_drewN | apply blk_drew | apply blk_alloc); refine blk_put (cs := #[.string ((rd_T28 l0 x9_1).f0), .string (⟨#[]⟩ : ByteArray), .slice none 0 0, .slice none 0 0]) ?_ 1 _ rfl; (with_reducible repeat first | apply blk_drewN | apply blk_drew | apply blk_alloc); refine blk_put (cs := #[.string (⟨#[]⟩ : ByteArray), .string (⟨#[]⟩ : ByteArray), .slice none 0 0, .slice none 0 0]) ?_ 0 _ rfl; (with_reducible repeat first | apply blk_drewN | apply blk_drew | apply blk_alloc); exact BK776.out⟩
       have n2_ : Aside0 (Below w.heap.size w ((((w10.setCell ⟨gb776, 0, none⟩ (.string ((rd_T28 l0 x9_1).f0))).setCell ⟨gb776, 1, none⟩ (.string ((rd_T28 l0 x9_1).f1))).setCell ⟨gb776, 2, none⟩ (.slice A775_2 ((rd_T28 l0 x9_1).f2).length c775_2)).setCell ⟨gb776, 3, none⟩ (.slice A775_3 ((rd_T28 l0 x9_1).f3).length c775_3))) := ⟨by repeat (first | (with_reducible first | exact HB.out | apply below_alloc | apply pw_below_drewN | apply below_drew1 | refine below_set ?_ GE776.out) | exact HB.out)⟩
       (try clear HO_3)
       (try clear BK776)
       (try clear HB)
       generalize ((((w10.setCell ⟨gb776, 0, none⟩ (.string ((rd_T28 l0 x9_1).f0))).setCell ⟨gb776, 1, none⟩ (.string ((rd_T28 l0 x9_1).f1))).setCell ⟨gb776, 2, none⟩ (.slice A775_2 ((rd_T28 l0 x9_1).f2).length c775_2)).setCell ⟨gb776, 3, none⟩ (.slice A775_3 ((rd_T28 l0 x9_1).f3).length c775_3)) = w12 at n0_ n1_ n2_ ⊢
       have HO_3 := n0_; have BK776 := n1_; have HB := n2_; clear n0_ n1_ n2_; replace HO_3 := Aside0.mk (Kd.S_drew HO_3.out); replace BK776 := Aside0.mk (blk_drew BK776.out); replace HB := Aside0.mk (below_drew1 HB.out)
       refine start_ (n := 10) (S := fun w' => w'.cell? ⟨gb776, 0, none⟩ = some (.string ((rd_T28 l0 x9_1).f0)) ∧ w'.cell? ⟨gb776, 1, none⟩ = some (.string ((rd_T28 l0 x9_1).f1)) ∧ w'.cell? ⟨gb776, 2, none⟩ = some (.slice A775_2 ((rd_T28 l0 x9_1).f2).length c775_2) ∧ w'.cell? ⟨gb776, 3, none⟩ = some (.slice A775_3 ((rd_T28 l0 x9_1).f3).length c775_3)) (ds := [7, 9]) #[ff,ff,ff,ff,ff,ff,ff,ff,ff,ff] (by kernel_rfl) rfl rfl ⟨(blk_cell BK776.out 0).trans rfl, (blk_cell BK776.out 1).trans rfl, (blk_cell BK776.out 2).trans rfl, (blk_cell BK776.out 3).trans rfl⟩ (fun hHeld => ?_); refine with_tabW impl_copyTests.tab5 impl_copyTests.bits5 (fun HT_ HW_ => ?_)
       generalize w12.drew = w13 at HO_3 BK776 HB hHeld ⊢
       refine pu_ 0 (some 13) (v := ?_) (a' := ?_) #[tt,ff,ff,ff,ff,ff,ff,ff,ff,ff] HT_.out rfl rfl (by kernel_rfl) (fun _ _ _ h => h) (Or.inl ⟨by rfl, ?_⟩) ?_ ?_
       rotate_left
       ·intro w'
        go_simp
        with_reducible rfl
       rotate_left
       ·simp only [Act.put, ps_]
        rfl
       refine pu_ 3 (some 16) (v := ?_) (a' := ?_) #[tt,ff,ff,tt,ff,ff,ff,ff,ff,ff] HT_.out rfl rfl (by kernel_rfl) (fun _ _ _ h => h) (Or.inl ⟨by rfl, ?_⟩) ?_ ?_
       rotate_left
       ·intro w'
        go_simp
        with_reducible rfl
       rotate_left
       ·simp only [Act.put, ps_]
        rfl
       refine take_ (i := 1) (N := some 14) (v := ?_) (a' := ?_) #[tt,tt,ff,tt,ff,ff,ff,ff,ff,ff] rfl rfl (take_ofW HT_.out HW_.out (by kernel_rfl)) (fun _ _ _ h => h) (Or.inl ⟨by rfl, ?_⟩) hHeld ?_ ?_
       rotate_left
       ·rintro w' ⟨s0, s1, s2, s3⟩
        go_simp
        with_reducible rfl
       rotate_left
       ·simp only [Act.put, ps_]
        rfl
       refine take_ (i := 4) (N := some 17) (v := ?_) (a' := ?_) #[tt,tt,ff,tt,tt,ff,ff,ff,ff,ff] rfl rfl (take_ofW HT_.out HW_.out (by kernel_rfl)) (fun _ _ _ h => h) (Or.inl ⟨by rfl, ?_⟩) hHeld ?_ ?_
       rotate_left
       ·rintro w' ⟨s0, s1, s2, s3⟩
        go_simp
        with_reducible rfl
       rotate_left
       ·simp only [Act.put, ps_]
        rfl
       refine one_ (i := 2) (N := some 15) #[tt,tt,tt,tt,tt,ff,ff,ff,ff,ff] rfl rfl (one_of HT_.out (by kernel_rfl)) (by decide) (fun K hK => ?_)
       refine goes_ Try.func94 (by kernel_rfl) rfl #[.slice A775_2 ((rd_T28 l0 x9_1).f2).length c775_2] (by rfl) rfl rfl (by (try simp only [List.map_toArray, List.map_cons, List.map_nil]); first | done | rfl) ?_
       with_reducible refine (slices_Clone_string_string.calls _ _ ((rd_T28 l0 x9_1).f2) t777 _ ?side1 ?side2 A7.out).mono ?_
       (case side1 => repeat (first | exact (Kd.C_below HR775_2.out HB.out) | with_reducible first | apply Kd.C_alloc | apply Kd.C_drewN | apply Kd.C_drew))
       (case side2 => exact HC775_2.out)
       rintro e w14 ⟨v778, rfl, ho0, hb⟩
       refine ⟨_, rfl, ?_⟩
       have n0_ := Aside0.mk (Kd.S_elder' (by (with_reducible repeat first | apply Kd.S_alloc | apply Kd.S_drewN | apply Kd.S_drew); exact HO_3.out) (Kd.R_base ho0) hb)
       have n1_ := Aside0.mk (Kd.R_lower ho0 (below_size (by repeat first | (with_reducible first | exact HB.out | apply below_alloc | apply pw_below_drewN | apply below_drew1 | refine below_set ?_ GE776.out) | exact HB.out)))
       have n2_ := Aside0.mk (blk_below (g := gb776) (o := .cells #[.string ((rd_T28 l0 x9_1).f0), .string ((rd_T28 l0 x9_1).f1), .slice A775_2 ((rd_T28 l0 x9_1).f2).length c775_2, .slice A775_3 ((rd_T28 l0 x9_1).f3).length c775_3] 28 (0, 0)) (by (with_reducible repeat first | apply blk_drewN | apply blk_drew | apply blk_alloc); exact BK776.out) hb)
       have n3_ := Aside0.mk (below_step (by repeat first | (with_reducible first | exact HB.out | apply below_alloc | apply pw_below_drewN | apply below_drew1 | refine below_set ?_ GE776.out) | exact HB.out) hb); clear HO_3 BK776 HB; have HO_3 := n0_; have HO779 := n1_; have BK776 := n2_; have HB := n3_; clear n0_ n1_ n2_ n3_
       (try clear hb)
       (try clear hb2)
       (try clear hk)
       (try clear hi)
       (try clear ho0)
       refine hK.out _ _ ⟨(blk_cell BK776.out 0).trans rfl, (blk_cell BK776.out 1).trans rfl, (blk_cell BK776.out 2).trans rfl, (blk_cell BK776.out 3).trans rfl⟩ (fun hHeld => ?_)
       clear hK K
       refine norm_ (a' := ?_) ?_ ?_
       rotate_left
       ·show Act.put _ (some 15) _ = _
        simp only [Act.put, ps_]
        rfl
       refine pu_ 6 (some 19) (v := ?_) (a' := ?_) #[tt,tt,tt,tt,tt,ff,tt,ff,ff,ff] HT_.out rfl rfl (by kernel_rfl) (fun _ _ _ h => h) (Or.inl ⟨by rfl, ?_⟩) ?_ ?_
       rotate_left
       ·intro w'
        go_simp
        with_reducible rfl
       rotate_left
       ·simp only [Act.put, ps_]
        rfl
       refine one_ (i := 5) (N := some 18) #[tt,tt,tt,tt,tt,tt,tt,ff,ff,ff] rfl rfl (one_of HT_.out (by kernel_rfl)) (by decide) (fun K hK => ?_)
       refine goes_ Try.func94 (by kernel_rfl) rfl #[.slice A775_3 ((rd_T28 l0 x9_1).f3).length c775_3] (by rfl) rfl rfl (by (try simp only [List.map_toArray, List.map_cons, List.map_nil]); first | done | rfl) ?_
       with_reducible refine (slices_Clone_string_string.calls _ _ ((rd_T28 l0 x9_1).f3) t780 _ ?side1 ?side2 A8.out).mono ?_
       (case side1 => repeat (first | exact (Kd.C_below HR775_3.out HB.out) | with_reducible first | apply Kd.C_alloc | apply Kd.C_drewN | apply Kd.C_drew))
       (case side2 => exact HC775_3.out)
       rintro e w15 ⟨v781, rfl, ho0, hb⟩
       refine ⟨_, rfl, ?_⟩
       have n0_ := Aside0.mk (Kd.S_elder' (by (with_reducible repeat first | apply Kd.S_alloc | apply Kd.S_drewN | apply Kd.S_drew); exact HO_3.out) (Kd.R_base ho0) hb)
       have n1_ := Aside0.mk (Kd.R_elder' (by (with_reducible repeat first | apply Kd.R_alloc | apply Kd.R_drewN | apply Kd.R_drew); exact HO779.out) (Kd.R_base ho0) hb)
       have n2_ := Aside0.mk (Kd.R_lower (Kd.R_new' ho0 (Kd.R_lt (by (with_reducible repeat first | apply Kd.R_alloc | apply Kd.R_drewN | apply Kd.R_drew); exact HO779.out))) (below_size (by repeat first | (with_reducible first | exact HB.out | apply below_alloc | apply pw_below_drewN | apply below_drew1 | refine below_set ?_ GE776.out) | exact HB.out)))
       have n3_ := Aside0.mk (blk_below (g := gb776) (o := .cells #[.string ((rd_T28 l0 x9_1).f0), .string ((rd_T28 l0 x9_1).f1), .slice A775_2 ((rd_T28 l0 x9_1).f2).length c775_2, .slice A775_3 ((rd_T28 l0 x9_1).f3).length c775_3] 28 (0, 0)) (by (with_reducible repeat first | apply blk_drewN | apply blk_drew | apply blk_alloc); exact BK776.out) hb)
       have n4_ := Aside0.mk (below_step (by repeat first | (with_reducible first | exact HB.out | apply below_alloc | apply pw_below_drewN | apply below_drew1 | refine below_set ?_ GE776.out) | exact HB.out) hb); clear HO_3 HO779 BK776 HB; have HO_3 := n0_; have HO779 := n1_; have HO782 := n2_; have BK776 := n3_; have HB := n4_; clear n0_ n1_ n2_ n3_ n4_
       (try clear hb)
       (try clear hb2)
       (try clear hk)
       (try clear hi)
       (try clear ho0)
       obtain ⟨Ao16, co16, eo16⟩ := Kd.R_slice HO779.out
       (first | subst eo16 | (injection eo16 with f1_ f2_ f3_; have f4_ := f1_.symm; have f5_ := f3_.symm; clear f1_ f2_ f3_; subst f4_; subst f5_))
       obtain ⟨Ao18, co18, eo18⟩ := Kd.R_slice HO782.out
       (first | subst eo18 | (injection eo18 with f1_ f2_ f3_; have f4_ := f1_.symm; have f5_ := f3_.symm; clear f1_ f2_ f3_; subst f4_; subst f5_))
       refine hK.out _ _ ⟨(blk_cell BK776.out 0).trans rfl, (blk_cell BK776.out 1).trans rfl, (blk_cell BK776.out 2).trans rfl, (blk_cell BK776.out 3).trans rfl⟩ (fun hHeld => ?_)
       clear hK K
       refine norm_ (a' := ?_) ?_ ?_
       rotate_left
       ·show Act.put _ (some 18) _ = _
        simp only [Act.put, ps_]
        rfl
       refine last_ (i := 7) (N := none) #[tt,tt,tt,tt,tt,tt,tt,tt,ff,ff] rfl rfl (one_of HT_.out (by kernel_rfl)) (by decide) (fun K hK => ?_)
       have hs17 : w15.cell? ⟨gb776, 2, none⟩ = some (.slice A775_2 ((rd_T28 l0 x9_1).f2).length c775_2) := (blk_cell BK776.out 2).trans rfl
       have hfs17 := blk_frozen BK776.out 2
       refine skip_ (w1 := ?_) (by rfl) rfl ?_ ?_
       rotate_left
       ·go_simp
        rfl
       refine hK.out _ _ ?_
       clear hK K
       refine pu_ 8 (some 20) (v := ?_) (a' := ?_) #[tt,tt,tt,tt,tt,tt,tt,tt,tt,ff] HT_.out rfl rfl (by kernel_rfl) (fun _ _ _ h => h) (Or.inl ⟨by rfl, ?_⟩) ?_ ?_
       rotate_left
       ·intro w'
        go_simp
        with_reducible rfl
       rotate_left
       ·simp only [Act.put, ps_]
        rfl
       refine last_ (i := 9) (N := none) #[tt,tt,tt,tt,tt,tt,tt,tt,tt,tt] rfl rfl (one_of HT_.out (by kernel_rfl)) (by decide) (fun K hK => ?_)
       have hs19 : w15.cell? ⟨gb776, 3, none⟩ = some (.slice A775_3 ((rd_T28 l0 x9_1).f3).length c775_3) := (blk_cell BK776.out 3).trans rfl
       have hfs19 := blk_frozen BK776.out 3
       refine skip_ (w1 := ?_) (by rfl) rfl ?_ ?_
       rotate_left
       ·go_simp
        rfl
       refine hK.out _ _ ?_
       clear hK K
       refine done_ (done_of HT_.out (by kernel_rfl)) ?_
       have n0_ : Aside0 (Kd.S k28 28 ((w15.setCell ⟨gb776, 2, none⟩ (.slice Ao16 t777.length co16)).setCell ⟨gb776, 3, none⟩ (.slice Ao18 t780.length co18)) w.heap.size (fun k_ => some k_ ≠ (.slice Ao16 t777.length co16 : Value).ownBlock ∧ some k_ ≠ (.slice Ao18 t780.length co18 : Value).ownBlock ∧ k_ ≠ gb776) u3 x3_1) := ⟨by (with_reducible repeat first | apply Kd.S_alloc | apply Kd.S_drewN | apply Kd.S_drew); exact Kd.S_mono (Kd.S_far (p := ⟨gb776, 3, none⟩) (Kd.S_far (p := ⟨gb776, 2, none⟩) (Kd.S_mono HO_3.out (fun k_ hk => (⟨hk, hk.1.1⟩ : _ ∧ k_ ≠ gb776))) (fun _ hk => hk.2) (.slice Ao16 t777.length co16)) (fun _ hk => hk.2) (.slice Ao18 t780.length co18)) (fun _ hk => ⟨hk.1.1.2, ⟨hk.1.2, hk.1.1.1⟩⟩)⟩
       have n1_ : Aside0 (Kd.R Kd.string 9 ((w15.setCell ⟨gb776, 2, none⟩ (.slice Ao16 t777.length co16)).setCell ⟨gb776, 3, none⟩ (.slice Ao18 t780.length co18)) w.heap.size (fun k_ => some k_ ≠ (.slice Ao18 t780.length co18 : Value).ownBlock) (.slice Ao16 t777.length co16) t777) := ⟨by (with_reducible repeat first | apply Kd.R_alloc | apply Kd.R_drewN | apply Kd.R_drew); exact Kd.R_mono (Kd.R_far (p := ⟨gb776, 3, none⟩) (Kd.R_far (p := ⟨gb776, 2, none⟩) (Kd.R_types HO779.out BK776.out (by decide)) (fun _ hk => hk.2) (.slice Ao16 t777.length co16)) (fun _ hk => hk.2) (.slice Ao18 t780.length co18)) (fun _ hk => hk.1.2)⟩
       have n2_ : Aside0 (Kd.R Kd.string 9 ((w15.setCell ⟨gb776, 2, none⟩ (.slice Ao16 t777.length co16)).setCell ⟨gb776, 3, none⟩ (.slice Ao18 t780.length co18)) w.heap.size (fun k_ => some k_ ≠ (.slice Ao16 t777.length co16 : Value).ownBlock) (.slice Ao18 t780.length co18) t780) := ⟨by (with_reducible repeat first | apply Kd.R_alloc | apply Kd.R_drewN | apply Kd.R_drew); exact Kd.R_mono (Kd.R_far (p := ⟨gb776, 3, none⟩) (Kd.R_far (p := ⟨gb776, 2, none⟩) (Kd.R_types HO782.out BK776.out (by decide)) (fun _ hk => hk.2) (.slice Ao16 t777.length co16)) (fun _ hk => hk.2) (.slice Ao18 t780.length co18)) (fun _ hk => hk.1.2)⟩
       have n3_ : Aside0 (((w15.setCell ⟨gb776, 2, none⟩ (.slice Ao16 t777.length co16)).setCell ⟨gb776, 3, none⟩ (.slice Ao18 t780.length co18)).heap[gb776]? = some (.cells #[.string ((rd_T28 l0 x9_1).f0), .string ((rd_T28 l0 x9_1).f1), .slice Ao16 t777.length co16, .slice Ao18 t780.length co18] 28 (0, 0))) := ⟨by (with_reducible repeat first | apply blk_drewN | apply blk_drew | apply blk_alloc); refine blk_put (cs := #[.string ((rd_T28 l0 x9_1).f0), .string ((rd_T28 l0 x9_1).f1), .slice Ao16 t777.length co16, .slice A775_3 ((rd_T28 l0 x9_1).f3).length c775_3]) ?_ 3 _ rfl; (with_reducible repeat first | apply blk_drewN | apply blk_drew | apply blk_alloc); refine blk_put (cs := #[.string ((rd_T28 l0 x9_1).f0), .string ((rd_T28 l0 x9_1).f1), .slice A775_2 ((rd_T28 l0 x9_1).f2).length c775_2, .slice A775_3 ((rd_T28 l0 x9_1).f3).length c775_3]) ?_ 2 _ rfl; (with_reducible repeat first | apply blk_drewN | apply blk_drew | apply blk_alloc); exact BK776.out⟩
       have n4_ : Aside0 (Below w.heap.size w ((w15.setCell ⟨gb776, 2, none⟩ (.slice Ao16 t777.length co16)).setCell ⟨gb776, 3, none⟩ (.slice Ao18 t780.length co18))) := ⟨by repeat (first | (with_reducible first | exact HB.out | apply below_alloc | apply pw_below_drewN | apply below_drew1 | refine below_set ?_ GE776.out) | exact HB.out)⟩
       (try clear HO_3)
       (try clear HO779)
       (try clear HO782)
       (try clear BK776)
       (try clear HB)
       generalize ((w15.setCell ⟨gb776, 2, none⟩ (.slice Ao16 t777.length co16)).setCell ⟨gb776, 3, none⟩ (.slice Ao18 t780.length co18)) = w20 at n0_ n1_ n2_ n3_ n4_ ⊢
       have HO_3 := n0_; have HO779 := n1_; have HO782 := n2_; have BK776 := n3_; have HB := n4_; clear n0_ n1_ n2_ n3_ n4_
       have hcz21_0 : w20.cell? ⟨gb776, 0, none⟩ = some (.string ((rd_T28 l0 x9_1).f0)) := (blk_cell BK776.out 0).trans rfl
       have hcz21_1 : w20.cell? ⟨gb776, 1, none⟩ = some (.string ((rd_T28 l0 x9_1).f1)) := (blk_cell BK776.out 1).trans rfl
       have hcz21_2 : w20.cell? ⟨gb776, 2, none⟩ = some (.slice Ao16 t777.length co16) := (blk_cell BK776.out 2).trans rfl
       have hcz21_3 : w20.cell? ⟨gb776, 3, none⟩ = some (.slice Ao18 t780.length co18) := (blk_cell BK776.out 3).trans rfl
       have hfz21_0 := blk_frozen BK776.out 0; have hfz21_1 := blk_frozen BK776.out 1; have hfz21_2 := blk_frozen BK776.out 2; have hfz21_3 := blk_frozen BK776.out 3
       try go_wp2_with (first | ((with_reducible refine gate_builtin (b := .append) (xs := #[.tmp 21, .tmp 23]) rfl ?_); at_builtin; refine Kd.S_append k28 (w0 := w) w.heap.size rfl (.tmp 21) (.tmp 23) 44 28 (.agg #[(.string ⟨#[]⟩), (.string ⟨#[]⟩), (.slice none 0 0), (.slice none 0 0)]) 80 rfl Try.underlying44 info28 rfl (by decide) (by omega) u3 x3_1 (⟨(rd_T28 l0 x9_1).f0, (rd_T28 l0 x9_1).f1, t777, t780⟩ : S28) [.string ((rd_T28 l0 x9_1).f0), .string ((rd_T28 l0 x9_1).f1), .slice Ao16 t777.length co16, .slice Ao18 t780.length co18] (fun k_ => k_ ≠ gb776) (fun k_ => some k_ = (.slice Ao16 t777.length co16 : Value).ownBlock ∨ some k_ = (.slice Ao18 t780.length co18 : Value).ownBlock) rfl rfl ?aP (fun k_ hk_ => hk_.elim (fun h_ => ((Kd.R_mono (ok' := fun k_ => ((fun k_ => k_ ≠ gb776)) k_ ∧ some k_ ≠ (u3 : Value).ownBlock) (Kd.R_types (Kd.R_apart' (HO779.out) (Kd.S_typed HO_3.out) (by decide)) BK776.out (by decide)) (fun k_ hk => ⟨hk.2, hk.1.2⟩))).1 k_ h_.symm) (fun h_ => ((Kd.R_mono (ok' := fun k_ => ((fun k_ => k_ ≠ gb776)) k_ ∧ some k_ ≠ (u3 : Value).ownBlock) (Kd.R_types (Kd.R_apart' (HO782.out) (Kd.S_typed HO_3.out) (by decide)) BK776.out (by decide)) (fun k_ hk => ⟨hk.2, hk.1.2⟩))).1 k_ h_.symm)) ?aF ?aO ?aB ?aS ?aL ?_; (case aP => exact k28_mkM _ _ _ (⟨(rd_T28 l0 x9_1).f0, (rd_T28 l0 x9_1).f1, t777, t780⟩ : S28) (Kd.R_mono (Kd.R_tight rfl (Kd.R_mono (ok' := fun k_ => ((fun k_ => k_ ≠ gb776)) k_ ∧ some k_ ≠ (u3 : Value).ownBlock) (Kd.R_types (Kd.R_apart' (HO779.out) (Kd.S_typed HO_3.out) (by decide)) BK776.out (by decide)) (fun k_ hk => ⟨hk.2, hk.1.2⟩))) (fun _ h_ => Or.inl h_)) (Kd.R_mono (Kd.R_tight rfl (Kd.R_mono (ok' := fun k_ => ((fun k_ => k_ ≠ gb776)) k_ ∧ some k_ ≠ (u3 : Value).ownBlock) (Kd.R_types (Kd.R_apart' (HO782.out) (Kd.S_typed HO_3.out) (by decide)) BK776.out (by decide)) (fun k_ hk => ⟨hk.2, hk.1.2⟩))) (fun _ h_ => Or.inr (h_)))); (case aB => exact (by repeat first | (with_reducible first | exact HB.out | apply below_alloc | apply pw_below_drewN | apply below_drew1 | refine below_set ?_ GE776.out) | exact HB.out)); (case aF => exact (fun k_ hk => Kd.freshB (g := gb776) (o := .cells #[.string ((rd_T28 l0 x9_1).f0), .string ((rd_T28 l0 x9_1).f1), .slice Ao16 t777.length co16, .slice Ao18 t780.length co18] 28 (0, 0)) (by (with_reducible repeat first | apply blk_drewN | apply blk_drew | apply blk_alloc); exact BK776.out) k_ hk)); (case aO => exact (by (with_reducible repeat first | apply Kd.S_alloc | apply Kd.S_drewN | apply Kd.S_drew); exact Kd.S_mono HO_3.out (fun k_ hk => ⟨hk.2.2, fun e_ => e_.elim (fun h_ => hk.1 h_) (fun h_ => hk.2.1 h_)⟩))); (case aS => exact (below_size (by repeat first | (with_reducible first | exact HB.out | apply below_alloc | apply pw_below_drewN | apply below_drew1 | refine below_set ?_ GE776.out) | exact HB.out))); (case aL => have := LMc9.out; omega); intro v784 w22 ho hb hg hat; rw [← Ny783.out] at ho; replace BK776 := Aside0.mk (blk_grown (g := gb776) (o := .cells #[.string ((rd_T28 l0 x9_1).f0), .string ((rd_T28 l0 x9_1).f1), .slice Ao16 t777.length co16, .slice Ao18 t780.length co18] 28 (0, 0)) (by (with_reducible repeat first | apply blk_drewN | apply blk_drew | apply blk_alloc); exact BK776.out) hg (Kd.S_away HO_3.out (fun _ hk => hk.2.2))); replace HB := Aside0.mk (hb); have HO785 := Aside0.mk (ho); clear HO_3 HO779 HO782; clear ho hb hg hat))
       go_roundg k1
       case measure => have := HK1.out; omega
       case rel => exact ⟨(y783), (wrap64 (x9_1 + 1)), (by first | rfl | (simp; done) | (simp [*]; done)), H', ⟨by have := HK1.out; omega⟩, ⟨by (with_reducible repeat first | apply Kd.S_alloc | apply Kd.S_drewN | apply Kd.S_drew); exact Kd.S_mono HO785.out (fun _ hk => trivial)⟩, ⟨by repeat (first | (with_reducible first | exact HB.out | apply below_alloc | apply pw_below_drewN | apply below_drew1 | refine below_set ?_ GE776.out) | exact HB.out)⟩⟩
      ·rw [if_neg c9] at H
       exact absurd H (by simp)
     ·rw [if_neg c6] at H
      exact absurd H (by simp)
    ·rw [if_neg c5] at H
     exact absurd H (by simp)
   ·rw [if_neg c4] at H
    have c4b0 : decide (x9_1 < (l0.length : Int)) = false := decide_eq_false c4
    clear c4
    obtain rfl := Option.some.inj H
    go_wp2
    go_ret
    exact ⟨_, by first | rfl | (simp [errW_none, errW_some] <;> rfl) | (simp [*, errW_none, errW_some] <;> rfl), by (with_reducible repeat first | apply Kd.S_alloc | apply Kd.S_drewN | apply Kd.S_drew); exact HO_3.out, by repeat (first | (with_reducible first | exact HB.out | apply below_alloc | apply pw_below_drewN | apply below_drew1) | exact HB.out)⟩

end Go.Proofs.Ytdllommmccgleaa.E
