-- WRITTEN by wip/ext.py
import Derived.Test.YtieghkchhjailaaSx0
import Derived.Test.YtieghkchhjailaaSx17
import Derived.Test.YtieghkchhjailaaSx18
namespace Go.Proofs.Ytieghkchhjailaa.S
open Go.RowKit Go.Proofs.YtieghkchhjailaaW.PrintWords Go.Proofs.YtieghkchhjailaaW.PrintLast Go.Proofs.YtieghkchhjailaaW.PrintMore
attribute [local go_sem] max2_int min2_int max_two min_two max_three min_three max_four min_four   -- for this text's walks alone
set_option linter.unusedVariables false
set_option linter.unusedSimpArgs false

/-! ### spec_TotalSetups: function 42 -/
def spec_TotalSetups.l0 : Nat → List (S70) → Int → Int → Option (Int)
 | 0, _, _, _ => none
 | k + 1, x0, x3, x4 => if x4 < (x0.length : Int) then (if 0 ≤ x4 then (if ((rd_T70 x0 x4).f0) = 0 then (spec_TotalSetups.l0 k x0 (wrap64 (x3 + 1)) (wrap64 (x4 + 1))) else (spec_TotalSetups.l0 k x0 x3 (wrap64 (x4 + 1)))) else (none)) else (some x3)
def spec_TotalSetups.f (k : Nat) (l0 : List (S70)) : Option (Int) := spec_TotalSetups.l0 k l0 0 0
theorem spec_TotalSetups.mono_l : ∀ k, (∀ y0 y1 y2, LeO (spec_TotalSetups.l0 k y0 y1 y2) (spec_TotalSetups.l0 (k + 1) y0 y1 y2))
 | 0 => fun _ _ _ r h => by simp [spec_TotalSetups.l0] at h
 | k + 1 => by
  have ih0 := spec_TotalSetups.mono_l k
  ·intro y0 y1 y2
   unfold spec_TotalSetups.l0
   repeat' first | (with_reducible first | exact ih0 _ _ _ | exact le1_ | exact le2_ | apply LeO.ite | refine LeO.bind ?_ fun _ => ?_) | apply LeO.ite | refine LeO.bind ?_ fun _ => ?_
theorem spec_TotalSetups.mono : ∀ a0 k, LeO (spec_TotalSetups.f k a0) (spec_TotalSetups.f (k + 1) a0) := by
 intro a0 k
 have ih0 := spec_TotalSetups.mono_l k
 unfold spec_TotalSetups.f
 repeat' first | (with_reducible first | exact ih0 _ _ _ | exact le1_ | exact le2_ | apply LeO.ite | refine LeO.bind ?_ fun _ => ?_) | apply LeO.ite | refine LeO.bind ?_ fun _ => ?_
set_option maxHeartbeats 8000000 in
set_option maxRecDepth 100000 in
theorem spec_TotalSetups.calls (k : Nat) (A0 : Option Addr) (c0 : Nat) (l0 : List (S70)) (r : Int) (w : World) (hr0 : Kd.C k70 w A0 l0.length l0) (hc0 : l0.length ≤ c0) (h : spec_TotalSetups.f k l0 = some r) :
  Calls Try.prog 42 #[.slice A0 l0.length c0] w fun e w' => e = .returned (.int .i64 r) ∧ Drawn0 w w' := by
 have HR0 := zA hr0; have HC0 := zA hc0; clear hr0 hc0
 have H : (spec_TotalSetups.l0 k l0 0 0) = some r := h
 clear h; have H' := zA H; clear H
 go_enter Try.func42, Try.ntmps42
 go_wp2
 go_loopg [3, 4] k (fun kq v3 v4 w' => ∃ (x3_1 : Int) (x4_1 : Int), v3 = .int .i64 x3_1 ∧ v4 = .int .i64 x4_1 ∧ Aside0 (spec_TotalSetups.l0 kq l0 x3_1 x4_1 = some r) ∧ Aside0 (kq ≤ k) ∧ Drawn0 w w')
 case atStart => exact ⟨(0), (0), zz9, zz9, H', ⟨Nat.le_refl _⟩, zz19⟩
 case round =>
  clear H'
  obtain ⟨x3_1, x4_1, rfl, rfl, HA, HK1, ⟨m1, rfl⟩⟩ := hrel
  cases gk with
  | zero => exact absurd HA.out (by simp [spec_TotalSetups.l0])
  | succ k1 =>
   have H := HA.out; clear HA
   simp only [spec_TotalSetups.l0] at H
   rcases iu_ H with ⟨c2b0, H⟩ | ⟨c2b0, H⟩
   ·obtain ⟨c3b0, H⟩ := it_ H
    rcases ie_ H with ⟨c4, H⟩ | ⟨c4, H⟩
    ·have c4b0 : (((rd_T70 l0 x4_1).f0) == 0) = true := beq_iff_eq.mpr c4
     have c4b1 : (((rd_T70 l0 x4_1).f0) != 0) = false := bne_eq_false_iff_eq.mpr c4
     clear c4; have H' := zA H; clear H
     have p647 : 0 ≤ (x4_1 : Int) := dz_
     have q647 : x4_1 < (l0.length : Int) := dz_
     obtain ⟨ad647, e647, hx647_0, hx647_1⟩ := at_T70 HR0.out x4_1 p647 q647
     cases e647
     replace p647 := eq_true p647
     replace q647 := eq_true q647
     go_wp2
     go_roundg k1
     case measure => have := HK1.out; omega
     case rel => exact ⟨(wrap64 (x3_1 + 1)), (wrap64 (x4_1 + 1)), zz9, zz9, H', ⟨by have := HK1.out; omega⟩, zz19⟩
    ·have c4b0 : (((rd_T70 l0 x4_1).f0) == 0) = false := beq_eq_false_iff_ne.mpr c4
     have c4b1 : (((rd_T70 l0 x4_1).f0) != 0) = true := bne_iff_ne.mpr c4
     have H' := zA H; clear H
     have p647 : 0 ≤ (x4_1 : Int) := dz_
     have q647 : x4_1 < (l0.length : Int) := dz_
     obtain ⟨ad647, e647, hx647_0, hx647_1⟩ := at_T70 HR0.out x4_1 p647 q647
     cases e647
     replace p647 := eq_true p647
     replace q647 := eq_true q647
     go_wp2
     go_roundg k1
     case measure => have := HK1.out; omega
     case rel => exact ⟨(x3_1), (wrap64 (x4_1 + 1)), zz9, zz9, H', ⟨by have := HK1.out; omega⟩, zz19⟩
   ·obtain rfl := Option.some.inj H
    go_wp2
    go_ret
    exact ⟨zz9, zz19⟩

/-! ### laws_FnTotalSetups: function 8 -/
def laws_FnTotalSetups.f (k : Nat) (l0 : List Int) : Option (Bool) := if (l0.length : Int) > 1048576 then (some true) else ((spec_DrawTotalSetups.f k l0).bind fun t648 => ((impl_TotalSetups.f k t648).bind fun t651 => ((spec_TotalSetups.f k t648).bind fun t652 => (if t651 = t652 then (if 0 ≤ (wrap64 ((t648.length : Int) / 2)) then (if (wrap64 ((t648.length : Int) / 2)) ≤ (t648.length : Int) then ((impl_TotalSetups.f k (t648.take ((wrap64 ((t648.length : Int) / 2)) : Int).toNat)).bind fun t657 => ((impl_TotalSetups.f k (t648.drop ((wrap64 ((t648.length : Int) / 2)) : Int).toNat)).bind fun t662 => (some ((wrap64 (t657 + t662)) == t651)))) else (none)) else (none)) else ((spec_TotalSetups.f k t648).bind fun t663 => (some (t651 == t663)))))))
theorem laws_FnTotalSetups.mono : ∀ a0 k, LeO (laws_FnTotalSetups.f k a0) (laws_FnTotalSetups.f (k + 1) a0) := by
 intro a0 k
 unfold laws_FnTotalSetups.f
 repeat' first | (with_reducible first | exact impl_TotalSetups.mono _ _ | exact spec_DrawTotalSetups.mono _ _ | exact spec_TotalSetups.mono _ _ | exact le1_ | exact le2_ | apply LeO.ite | refine LeO.bind ?_ fun _ => ?_) | apply LeO.ite | refine LeO.bind ?_ fun _ => ?_
def laws_FnTotalSetups.T8 : Bool × List (List Nat × List Nat) := (true, [([], []), ([], []), ([0, 1], [0, 1]), ([2], [2]), ([], []), ([], []), ([4, 5], [4, 5]), ([6, 3], [6]), ([3, 7], [3, 7]), ([], []), ([8, 9], [8, 9]), ([10, 7, 0, 1, 2, 3, 4, 5, 6, 7, 8, 9, 10], [10])])
def laws_FnTotalSetups.B8 : List Nat := [0, 0, 3, 7, 0, 0, 48, 127, 255, 0, 1023, 2047]
theorem laws_FnTotalSetups.tab8 : rtab .any (opsOf Try.f8 8) = laws_FnTotalSetups.T8 := by kernel_rfl
theorem laws_FnTotalSetups.bits8 : waitsOk laws_FnTotalSetups.T8.2 laws_FnTotalSetups.B8 = true := by kernel_rfl
set_option maxHeartbeats 8000000 in
set_option maxRecDepth 100000 in
theorem laws_FnTotalSetups.calls (k : Nat) (A0 : Option Addr) (c0 : Nat) (l0 : List Int) (r : Bool) (w : World) (hr0 : Kd.C (Kd.int .u8) w A0 l0.length l0) (hc0 : l0.length ≤ c0) (h : laws_FnTotalSetups.f k l0 = some r) :
  Calls Try.prog 8 #[.slice A0 l0.length c0] w fun e w' => e = .returned (.bool r) ∧ Below w.heap.size w w' := by
 have HR0 := zA hr0; have HC0 := zA hc0; clear hr0 hc0; have HB := zA zz2
 have H : (if (l0.length : Int) > 1048576 then (some true) else ((spec_DrawTotalSetups.f k l0).bind fun t648 => ((impl_TotalSetups.f k t648).bind fun t651 => ((spec_TotalSetups.f k t648).bind fun t652 => (if t651 = t652 then (if 0 ≤ (wrap64 ((t648.length : Int) / 2)) then (if (wrap64 ((t648.length : Int) / 2)) ≤ (t648.length : Int) then ((impl_TotalSetups.f k (t648.take ((wrap64 ((t648.length : Int) / 2)) : Int).toNat)).bind fun t657 => ((impl_TotalSetups.f k (t648.drop ((wrap64 ((t648.length : Int) / 2)) : Int).toNat)).bind fun t662 => (some ((wrap64 (t657 + t662)) == t651)))) else (none)) else (none)) else ((spec_TotalSetups.f k t648).bind fun t663 => (some (t651 == t663)))))))) = some r := h
 clear h
 rcases ie_ H with ⟨c2, H⟩ | ⟨c2, H⟩
 ·have c2b0 : decide (1048576 < (l0.length : Int)) = true := decide_eq_true c2
  have c2b1 : decide (1048576 < l0.length) = true := decide_eq_true (by omega)
  clear c2
  obtain rfl := Option.some.inj H
  go_enter Try.func8, Try.ntmps8
  go_wp2
  go_ret
  exact ⟨zz14, zz23⟩
 ·have c2b0 : decide (1048576 < (l0.length : Int)) = false := decide_eq_false c2
  have c2b1 : decide (1048576 < l0.length) = false := decide_eq_false (by omega)
  clear c2
  obtain ⟨t648, A3, H⟩ := bs_ H
  (try dsimp only at H)
  obtain ⟨t651, A4, H⟩ := bs_ H
  (try dsimp only at H)
  obtain ⟨t652, A5, H⟩ := bs_ H
  (try dsimp only at H)
  rcases ie_ H with ⟨c6, H⟩ | ⟨c6, H⟩
  ·have c6b0 : (t651 == t652) = true := beq_iff_eq.mpr c6
   have c6b1 : (t651 != t652) = false := bne_eq_false_iff_eq.mpr c6
   clear c6
   obtain ⟨ji7, hji7⟩ : ∃ j_ : Int, (wrap64 ((t648.length : Int) / 2)) = j_ := ⟨_, rfl⟩
   replace H : (if 0 ≤ (ji7) then (if (ji7) ≤ (t648.length : Int) then ((impl_TotalSetups.f k (t648.take ((ji7) : Int).toNat)).bind fun t657 => ((impl_TotalSetups.f k (t648.drop ((ji7) : Int).toNat)).bind fun t662 => (some ((wrap64 (t657 + t662)) == t651)))) else (none)) else (none)) = some r := (zz15 hji7)
   (try rw [hji7] at A3)
   (try rw [hji7] at A4)
   (try rw [hji7] at A5)
   have hji7w : (IntKind.i64.wrap ((t648.length : Int) / 2)) = ji7 := (i64_w _).trans hji7
   obtain ⟨c8, H⟩ := in_ H
   have c8b0 := eq_true c8
   have c8b1 : decide (0 ≤ (ji7)) = true := decide_eq_true c8
   clear c8
   obtain ⟨c9, H⟩ := in_ H
   have c9b0 := eq_true c9
   have c9b1 : decide ((ji7) ≤ (t648.length : Int)) = true := decide_eq_true c9
   clear c9
   obtain ⟨y653, hy653⟩ : ∃ y_ : List (S70), y_ = (t648.take ((ji7) : Int).toNat) := ⟨_, rfl⟩
   replace H : ((impl_TotalSetups.f k y653).bind fun t657 => ((impl_TotalSetups.f k (t648.drop ((ji7) : Int).toNat)).bind fun t662 => (some ((wrap64 (t657 + t662)) == t651)))) = some r := (zz24 hy653)
   have Ny653 := zA hy653; clear hy653
   replace H := Option.bind_eq_some_iff.mp H
   obtain ⟨t657, A100, H⟩ := H
   (try dsimp only at H)
   have A10 := zA A100; clear A100; have c11b0 := eq_true (of_decide_eq_true zz3 : 0 ≤ (ji7)); have c12b0 := eq_true (of_decide_eq_true zz3 : (ji7) ≤ (t648.length : Int))
   obtain ⟨y658, hy658⟩ : ∃ y_ : List (S70), y_ = (t648.drop ((ji7) : Int).toNat) := ⟨_, rfl⟩
   replace H : ((impl_TotalSetups.f k y658).bind fun t662 => (some ((wrap64 (t657 + t662)) == t651))) = some r := (zz24 hy658)
   have Ny658 := zA hy658; clear hy658
   obtain ⟨t662, A13, H⟩ := bs_ H
   (try dsimp only at H)
   obtain rfl := Option.some.inj H
   go_enter Try.func8, Try.ntmps8
   try go_wp2_with (first | ((with_reducible refine gate_callee (f := 40) rfl ?_); refine goesL_ (some 10) rfl rfl Try.func40 (by kernel_rfl) rfl #[.slice A0 l0.length c0] rfl zz17 ?_; (with_reducible refine (spec_DrawTotalSetups.calls k _ _ l0 t648 _ ?side1 ?side2 A3.out).mono ?_); (case side1 => exact (zz135 HR0.out)); (case side2 => exact HC0.out); rintro e w14 ⟨v649, rfl, ho0, hb⟩; refine ⟨_, rfl, ?_⟩; have HO650 := zA (zz39 ho0); replace HB := zA zz4; (try clear hb); (try clear ho0); obtain ⟨Ao15, co15, eo15⟩ := Kd.R_slice HO650.out; subst eo15) | ((with_reducible refine gate_callee (f := 41) rfl ?_); refine goesL_ (some 12) rfl rfl Try.func41 (by kernel_rfl) rfl #[.slice Ao15 t648.length co15] rfl zz17 ?_; (with_reducible refine (impl_TotalSetups.calls k _ _ t648 t651 _ ?side1 ?side2 A4.out).mono ?_); (case side1 => exact (zz20 HO650.out)); (case side2 => exact (zz21 HO650.out)); rintro e w16 ⟨rfl, hb⟩; refine ⟨_, rfl, ?_⟩; replace HO650 := zA (zz33 HO650.out); replace HB := zA zz4; (try clear hb)) | ((with_reducible refine gate_callee (f := 42) rfl ?_); refine goesL_ (some 15) rfl rfl Try.func42 (by kernel_rfl) rfl #[.slice Ao15 t648.length co15] rfl zz17 ?_; (with_reducible refine (spec_TotalSetups.calls k _ _ t648 t652 _ ?side1 ?side2 A5.out).mono ?_); (case side1 => exact (zz20 HO650.out)); (case side2 => exact (zz21 HO650.out)); rintro e w' ⟨rfl, ⟨nd, rfl⟩⟩; refine ⟨_, rfl, ?_⟩))
   (try (rw [drewN_self w16]; generalize hq_ : World.drewN w16 _ = w16; have n0_ : Aside0 (Kd.R k70 70 w16 w.heap.size (fun _ => True) (.slice Ao15 t648.length co15) t648) := ⟨(zz119 HO650.out)⟩; have n1_ : Aside0 (Below w.heap.size w w16) := ⟨by rw [← hq_]; exact zz56⟩; clear HO650 HB hq_; have HO650 := n0_; have HB := n1_; clear n0_ n1_))
   replace HO650 := zA (Kd.R_drew HO650.out); replace HB := zA zz40
   have q18 : ((ji7) : Int) ≤ ((t648.length : Int) : Int) := dz_
   obtain ⟨i018, hi018, _, hsz18, _⟩ := info_parts info70
   have hroom18 : t648.length ≤ co15 := (Kd.R_reads' HO650.out).2.1
   have hC18 : Kd.C k70 _ Ao15 t648.length t648 := (Kd.R_reads' HO650.out).2.2
   have hcut18 := cut_to (P := Try.prog) 25 70 .i64 Try.underlying25 hi018 Ao15 t648.length co15 (ji7) (of_decide_eq_true zz3) q18 hroom18; have hr18 := Kd.C_take (m := ((ji7) : Int).toNat) hC18 (by omega)
   have hy18 : y653.length = ((ji7) : Int).toNat := (zz42 Ny653.out)
   rw [← Ny653.out] at hr18
   rw [← hy18] at hcut18
   have HR656 := zA hr18
   have HC656 := zA (show y653.length ≤ co15 from by omega)
   clear hr18 hC18 hroom18 hi018 hsz18; have KY18 := zA hy18; clear hy18
   have KL18 := zA (show ((ji7) : Int).toNat ≤ t648.length from by omega)
   replace q18 := eq_true q18
   have q19 : ((ji7) : Int) ≤ ((t648.length : Int) : Int) := dz_
   obtain ⟨i019, hi019, _, hsz19, _⟩ := info_parts info70
   have hroom19 : t648.length ≤ co15 := (Kd.R_reads' HO650.out).2.1
   have hC19 : Kd.C k70 _ Ao15 t648.length t648 := (Kd.R_reads' HO650.out).2.2
   have q019 : (0 : Int) ≤ ((ji7) : Int) := dz_
   have hcut19 := cut_from (P := Try.prog) 25 70 .i64 Try.underlying25 hi019 2 hsz19 Ao15 t648.length co15 (ji7) q019 q19; have hr19 := Kd.C_drop (m := ((ji7) : Int).toNat) (c := co15) hC19 (by omega) hroom19
   obtain ⟨A19, hA19⟩ : ∃ A1, A1 = (if co15 = ((ji7) : Int).toNat then Ao15 else (Ao15 : Option Addr).map (·.add (((ji7) : Int).toNat * 2))) := ⟨_, rfl⟩
   obtain ⟨c19, hc19⟩ : ∃ c1, c1 = co15 - ((ji7) : Int).toNat := ⟨_, rfl⟩
   have hy19 : y658.length = t648.length - ((ji7) : Int).toNat := (by rw [Ny658.out, List.length_drop] <;> omega)
   rw [show (t648).drop ((ji7) : Int).toNat = y658 from Ny658.out.symm] at hr19
   replace hr19 : Kd.C k70 _ A19 y658.length y658 := (by rw [hA19]; exact hr19)
   rw [← hy19, ← hA19, ← hc19] at hcut19
   have HR661 := zA hr19
   have HC661 := zA (show y658.length ≤ c19 from by rw [hy19, hc19]; exact Nat.sub_le_sub_right hroom19 _)
   clear hr19 hC19 hroom19 hi019 hsz19 hc19; have KY19 := zA hy19; have KA19 := zA hA19; clear hy19 hA19
   have KL19 := zA (show ((ji7) : Int).toNat ≤ t648.length from by omega)
   replace q19 := eq_true q19
   refine start_ (n := 12) (S := fun w' => True) (ds := []) #[ff,ff,ff,ff,ff,ff,ff,ff,ff,ff,ff,ff] (by kernel_rfl) rfl rfl trivial (fun hHeld => ?_); refine with_tabW laws_FnTotalSetups.tab8 laws_FnTotalSetups.bits8 (fun HT_ HW_ => ?_)
   generalize w16.drew = w17 at HO650 HB HR656 HR661 hHeld ⊢
   refine qp_ 0 26 ?_
   refine qp_ 1 27 ?_
   refine qp_ 2 28 ?_
   refine qp_ 4 30 ?_
   refine qp_ 5 31 ?_
   refine qp_ 6 32 ?_
   refine qp_ 9 35 ?_
   refine qo_ 3 29 (fun K hK => ?_)
   refine goes_ Try.func41 (by kernel_rfl) rfl #[.slice Ao15 y653.length co15] (by rfl) rfl rfl zz17 ?_
   with_reducible refine (impl_TotalSetups.calls k _ _ y653 t657 _ ?side1 ?side2 A10.out).mono ?_
   (case side1 => exact (zz46 HR656.out))
   (case side2 => exact HC656.out)
   rintro e w20 ⟨rfl, hb⟩
   refine ⟨_, rfl, ?_⟩
   replace HO650 := zA (zz33 HO650.out)
   replace HR656 := zA (zz45 HR656.out)
   replace HR661 := zA (zz45 HR661.out)
   replace HB := zA zz4
   (try clear hb)
   (try clear hb2)
   (try clear hk)
   (try clear hi)
   refine hK.out _ _ trivial (fun hHeld => ?_)
   clear hK K
   refine qn_ 29 ?_
   refine qo_ 7 33 (fun K hK => ?_)
   refine goes_ Try.func41 (by kernel_rfl) rfl #[.slice A19 y658.length c19] (by rfl) rfl rfl zz17 ?_
   with_reducible refine (impl_TotalSetups.calls k _ _ y658 t662 _ ?side1 ?side2 A13.out).mono ?_
   (case side1 => exact (zz46 HR661.out))
   (case side2 => exact HC661.out)
   rintro e w21 ⟨rfl, hb⟩
   refine ⟨_, rfl, ?_⟩
   replace HO650 := zA (zz33 HO650.out)
   replace HR656 := zA (zz45 HR656.out)
   replace HR661 := zA (zz45 HR661.out)
   replace HB := zA zz4
   (try clear hb)
   (try clear hb2)
   (try clear hk)
   (try clear hi)
   refine hK.out _ _ trivial (fun hHeld => ?_)
   clear hK K
   refine qn_ 33 ?_
   refine qp_ 8 34 ?_
   refine qp_ 10 36 ?_
   refine qp_ 11 2 ?_
   refine qd_ ?_
   try go_wp2
   go_ret
   exact ⟨(zz16 hji7), zz23⟩
  ·have c6b0 : (t651 == t652) = false := beq_eq_false_iff_ne.mpr c6
   have c6b1 : (t651 != t652) = true := bne_iff_ne.mpr c6
   obtain ⟨t663, A22, H⟩ := bs_ H
   (try dsimp only at H)
   obtain rfl := Option.some.inj H
   go_enter Try.func8, Try.ntmps8
   go_wp2_with (first | ((with_reducible refine gate_callee (f := 40) rfl ?_); refine goesL_ (some 10) rfl rfl Try.func40 (by kernel_rfl) rfl #[.slice A0 l0.length c0] rfl zz17 ?_; (with_reducible refine (spec_DrawTotalSetups.calls k _ _ l0 t648 _ ?side1 ?side2 A3.out).mono ?_); (case side1 => exact (zz135 HR0.out)); (case side2 => exact HC0.out); rintro e w23 ⟨v649, rfl, ho0, hb⟩; refine ⟨_, rfl, ?_⟩; have HO650 := zA (zz39 ho0); replace HB := zA zz4; (try clear hb); (try clear ho0); obtain ⟨Ao24, co24, eo24⟩ := Kd.R_slice HO650.out; subst eo24) | ((with_reducible refine gate_callee (f := 41) rfl ?_); refine goesL_ (some 12) rfl rfl Try.func41 (by kernel_rfl) rfl #[.slice Ao24 t648.length co24] rfl zz17 ?_; (with_reducible refine (impl_TotalSetups.calls k _ _ t648 t651 _ ?side1 ?side2 A4.out).mono ?_); (case side1 => exact (zz20 HO650.out)); (case side2 => exact (zz21 HO650.out)); rintro e w25 ⟨rfl, hb⟩; refine ⟨_, rfl, ?_⟩; replace HO650 := zA (zz33 HO650.out); replace HB := zA zz4; (try clear hb)) | ((with_reducible refine gate_callee (f := 42) rfl ?_); refine goesL_ (some 15) rfl rfl Try.func42 (by kernel_rfl) rfl #[.slice Ao24 t648.length co24] rfl zz17 ?_; (with_reducible refine (spec_TotalSetups.calls k _ _ t648 t652 _ ?side1 ?side2 A5.out).mono ?_); (case side1 => exact (zz20 HO650.out)); (case side2 => exact (zz21 HO650.out)); rintro e w' ⟨rfl, ⟨nd, rfl⟩⟩; refine ⟨_, rfl, ?_⟩) | ((with_reducible refine gate_callee (f := 42) rfl ?_); refine goesL_ (some 21) rfl rfl Try.func42 (by kernel_rfl) rfl #[.slice Ao24 t648.length co24] rfl zz17 ?_; (with_reducible refine (spec_TotalSetups.calls k _ _ t648 t663 _ ?side1 ?side2 A22.out).mono ?_); (case side1 => exact (zz20 HO650.out)); (case side2 => exact (zz21 HO650.out)); rintro e w' ⟨rfl, ⟨nd, rfl⟩⟩; refine ⟨_, rfl, ?_⟩))
   go_ret
   exact ⟨zz14, zz23⟩

/-- THE ONE PURE STATEMENT of laws_FnTotalSetups: yours. -/
def laws_FnTotalSetups.Pure : Prop := ∀ (l0 : List Int), l0.length ≤ maxLen → l0.length * 1 ≤ 140737488351232 → (∀ x ∈ l0, (Lit.int .u8 x).wf = true) → ∃ k, laws_FnTotalSetups.f k l0 = some true
theorem laws_FnTotalSetups.walk (P : laws_FnTotalSetups.Pure) (a0 : Option Addr) (len0 cap0 : Nat) (z0 : List Int) (w : World) (w0 : (a0 = none ∧ len0 = 0 ∧ cap0 = 0 ∧ z0 = []) ∨ ∃ x, a0 = some x ∧ len0 ≤ cap0 ∧ cap0 ≤ maxLen ∧ z0.length = cap0 ∧ (∀ i, i < z0.length → w.cell? (x.add i) = some (.int .u8 (z0.getD i 0))) ∧ ∀ n ∈ z0, (Lit.int .u8 n).wf = true) (y0 : len0 * 1 ≤ 140737488351232) :
  Calls Try.prog 8 #[.slice a0 len0 cap0] w fun e w' => e = .returned (.bool true) ∧ Below w.heap.size w w' := by
 obtain ⟨l0, rfl, hr0, hm0, hw0, hc0⟩ := ReadsInt.ofRowC w0
 obtain ⟨k, h⟩ := P l0 hm0 y0 hw0
 refine (laws_FnTotalSetups.calls k _ _ l0 true w (Kd.C_of_reads (d := (0 : Int)) (h1 := fun _ => rfl) hr0) hc0 h).mono ?_
 rintro e w' ⟨rfl, hd⟩
 exact ⟨rfl, hd⟩

end Go.Proofs.Ytieghkchhjailaa.S
