-- WRITTEN by wip/ext.py
import Derived.Test.YtieghkchhjailaaSx0
import Derived.Test.YtieghkchhjailaaSx17
namespace Go.Proofs.Ytieghkchhjailaa.S
open Go.RowKit Go.Proofs.YtieghkchhjailaaW.PrintWords Go.Proofs.YtieghkchhjailaaW.PrintLast Go.Proofs.YtieghkchhjailaaW.PrintMore
attribute [local go_sem] max2_int min2_int max_two min_two max_three min_three max_four min_four   -- for this text's walks alone
set_option linter.unusedVariables false
set_option linter.unusedSimpArgs false

/-! ### spec_DrawTestsRun: function 45 -/
def spec_DrawTestsRun.f (k : Nat) (l0 : List Int) : Option ((List (S70))) := (spec_DrawTotalSetups.f k l0).bind fun t664 => (some t664)
theorem spec_DrawTestsRun.mono : ∀ a0 k, LeO (spec_DrawTestsRun.f k a0) (spec_DrawTestsRun.f (k + 1) a0) := by
 intro a0 k
 unfold spec_DrawTestsRun.f
 repeat' first | (with_reducible first | exact spec_DrawTotalSetups.mono _ _ | exact le1_ | exact le2_ | apply LeO.ite | refine LeO.bind ?_ fun _ => ?_) | apply LeO.ite | refine LeO.bind ?_ fun _ => ?_
set_option maxHeartbeats 8000000 in
set_option maxRecDepth 100000 in
theorem spec_DrawTestsRun.calls (k : Nat) (A0 : Option Addr) (c0 : Nat) (l0 : List Int) (r : List (S70)) (w : World) (hr0 : Kd.C (Kd.int .u8) w A0 l0.length l0) (hc0 : l0.length ≤ c0) (h : spec_DrawTestsRun.f k l0 = some r) :
  Calls Try.prog 45 #[.slice A0 l0.length c0] w fun e w' => ∃ v0_ : Value, e = .returned (v0_) ∧ Kd.R k70 70 w' w.heap.size (fun _ => True) v0_ r ∧ Below w.heap.size w w' := by
 have HR0 := zA hr0; have HC0 := zA hc0; clear hr0 hc0; have HB := zA zz2
 have H : ((spec_DrawTotalSetups.f k l0).bind fun t664 => (some t664)) = some r := h
 clear h
 obtain ⟨t664, A2, H⟩ := bs_ H
 (try dsimp only at H)
 obtain rfl := Option.some.inj H
 go_enter Try.func45, Try.ntmps45
 go_wp2_with (((with_reducible refine gate_callee (f := 40) rfl ?_); refine goesL_ (some 4) rfl rfl Try.func40 (by kernel_rfl) rfl #[.slice A0 l0.length c0] rfl zz17 ?_; (with_reducible refine (spec_DrawTotalSetups.calls k _ _ l0 t664 _ ?side1 ?side2 A2.out).mono ?_); (case side1 => exact (zz135 HR0.out)); (case side2 => exact HC0.out); rintro e w3 ⟨v665, rfl, ho0, hb⟩; refine ⟨_, rfl, ?_⟩; have HO666 := zA (zz39 ho0); replace HB := zA zz4; (try clear hb); (try clear ho0)))
 go_ret
 exact ⟨_, zz14, (zz22 HO666.out), zz23⟩

/-! ### impl_TestsRun: function 46 -/
def impl_TestsRun.l0 : Nat → List ByteArray → List (S70) → Int → Int → Option (List ByteArray)
 | 0, _, _, _, _ => none
 | k + 1, x3, x7, x8, x9 => if x9 < x8 then (if 0 ≤ x9 then (if x9 < (x7.length : Int) then (if ((rd_T70 x7 x9).f0) = 2 then (if x3.length < 8796093022208 then (impl_TestsRun.l0 k (x3 ++ [(rd_T70 x7 x9).f1]) x7 x8 (wrap64 (x9 + 1))) else (none)) else (impl_TestsRun.l0 k x3 x7 x8 (wrap64 (x9 + 1)))) else (none)) else (none)) else (some x3)
def impl_TestsRun.f (k : Nat) (l0 : List (S70)) : Option (List ByteArray) := impl_TestsRun.l0 k (([] : List ByteArray)) l0 (l0.length : Int) 0
theorem impl_TestsRun.mono_l : ∀ k, (∀ y0 y1 y2 y3, LeO (impl_TestsRun.l0 k y0 y1 y2 y3) (impl_TestsRun.l0 (k + 1) y0 y1 y2 y3))
 | 0 => fun _ _ _ _ r h => by simp [impl_TestsRun.l0] at h
 | k + 1 => by
  have ih0 := impl_TestsRun.mono_l k
  ·intro y0 y1 y2 y3
   unfold impl_TestsRun.l0
   repeat' first | (with_reducible first | exact ih0 _ _ _ _ | exact le1_ | exact le2_ | apply LeO.ite | refine LeO.bind ?_ fun _ => ?_) | apply LeO.ite | refine LeO.bind ?_ fun _ => ?_
theorem impl_TestsRun.mono : ∀ a0 k, LeO (impl_TestsRun.f k a0) (impl_TestsRun.f (k + 1) a0) := by
 intro a0 k
 have ih0 := impl_TestsRun.mono_l k
 unfold impl_TestsRun.f
 repeat' first | (with_reducible first | exact ih0 _ _ _ _ | exact le1_ | exact le2_ | apply LeO.ite | refine LeO.bind ?_ fun _ => ?_) | apply LeO.ite | refine LeO.bind ?_ fun _ => ?_
set_option maxHeartbeats 8000000 in
set_option maxRecDepth 100000 in
theorem impl_TestsRun.calls (k : Nat) (A0 : Option Addr) (c0 : Nat) (l0 : List (S70)) (r : List ByteArray) (w : World) (hr0 : Kd.C k70 w A0 l0.length l0) (hc0 : l0.length ≤ c0) (h : impl_TestsRun.f k l0 = some r) :
  Calls Try.prog 46 #[.slice A0 l0.length c0] w fun e w' => ∃ v0_ : Value, e = .returned (v0_) ∧ Kd.R Kd.string 9 w' w.heap.size (fun _ => True) v0_ r ∧ Below w.heap.size w w' := by
 have hu70 := Try.underlying70; have HR0 := zA hr0; have HC0 := zA hc0; clear hr0 hc0; have HB := zA zz2
 have H : (impl_TestsRun.l0 k (([] : List ByteArray)) l0 (l0.length : Int) 0) = some r := h
 clear h
 obtain ⟨y667, hy667⟩ : ∃ y_ : List ByteArray, y_ = (([] : List ByteArray)) := ⟨_, rfl⟩
 replace H : (impl_TestsRun.l0 k y667 l0 (l0.length : Int) 0) = some r := (zz24 hy667)
 have Ny667 := zA hy667; clear hy667; have H' := zA H; clear H
 go_enter Try.func46, Try.ntmps46
 go_wp2_with (((with_reducible refine gate_dst (N := 6) rfl ?_); refine rl_ Kd.string 9 6 ?_; intro v668 w2 ho3 hb; replace ho3 := ny_ Ny667.out ho3; have HO669 := zA (zz39 ho3); replace HB := zA zz4; clear hb ho3))
 go_loopg [3, 9] k (fun kq v3 v9 w' => ∃ (x3_1 : List ByteArray) (x9_1 : Int), v9 = .int .i64 x9_1 ∧ Aside0 (impl_TestsRun.l0 kq x3_1 l0 (l0.length : Int) x9_1 = some r) ∧ Aside0 (kq ≤ k) ∧ Aside0 (Kd.R Kd.string 9 w' w.heap.size (fun _ => True) v3 x3_1) ∧ Aside0 (Below w.heap.size w w'))
 case atStart => exact ⟨(y667), (0), zz9, H', ⟨Nat.le_refl _⟩, ⟨(zz22 HO669.out)⟩, ⟨zz23⟩⟩
 case round =>
  clear H'; try clear p2
  obtain ⟨x3_1, x9_1, rfl, HA, HK1, HO_3, HB⟩ := hrel
  cases gk with
  | zero => exact absurd HA.out (by simp [impl_TestsRun.l0])
  | succ k1 =>
   have H := HA.out; clear HA
   simp only [impl_TestsRun.l0] at H
   rcases iu_ H with ⟨c4b0, H⟩ | ⟨c4b0, H⟩
   ·obtain ⟨c5b0, H⟩ := it_ H
    obtain ⟨c6b0, H⟩ := it_ H
    rcases ie_ H with ⟨c7, H⟩ | ⟨c7, H⟩
    ·have c7b0 : (((rd_T70 l0 x9_1).f0) == 2) = true := beq_iff_eq.mpr c7
     have c7b1 : (((rd_T70 l0 x9_1).f0) != 2) = false := bne_eq_false_iff_eq.mpr c7
     clear c7
     obtain ⟨c8, H⟩ := in_ H
     have LMc8 := zA c8; clear c8
     obtain ⟨y672, hy672⟩ : ∃ y_ : List ByteArray, y_ = (x3_1 ++ [(rd_T70 l0 x9_1).f1]) := ⟨_, rfl⟩
     replace H : (impl_TestsRun.l0 k1 y672 l0 (l0.length : Int) (wrap64 (x9_1 + 1))) = some r := (zz24 hy672)
     have Ny672 := zA hy672; clear hy672; have H' := zA H; clear H
     have p670 : 0 ≤ (x9_1 : Int) := dz_
     have q670 : x9_1 < (l0.length : Int) := dz_
     obtain ⟨ad670, e670, hx670_0, hx670_1⟩ := at_T70 HR0.out x9_1 p670 q670
     cases e670
     replace hx670_0 := cup_ HB.out hx670_0; replace hx670_1 := cup_ HB.out hx670_1
     replace p670 := eq_true p670
     replace q670 := eq_true q670
     go_wp2_with (first | ((with_reducible refine gate_dst (N := 5) rfl ?_); refine bx_ 5 #[.int .i64 0, .string (⟨#[]⟩ : ByteArray)] 70 ?_; intro gb671 hg w9 hbox hb; replace HO_3 := zA (zz33 HO_3.out); have BK671 := zA (hbox); have GW671 := zA ((zz38 : w.heap.size ≤ gb671)); have GE671 := zA ((zz38 : w.heap.size ≤ gb671)); replace HB := zA zz4; clear hb hbox hg; obtain ⟨hcz10_0, hcz10_1, hfz10_0, hfz10_1⟩ := bk2_ BK671.out) | ((with_reducible refine gate_builtin (b := .append) (xs := #[.tmp 16, .tmp 19]) rfl ?_); at_builtin; refine Kd.R_append Kd.string (w0 := w) w.heap.size rfl (.tmp 16) (.tmp 19) 31 9 (.string ⟨#[]⟩) 16 rfl Try.underlying31 info9 rfl (by decide) (by omega) u3 x3_1 ((rd_T70 l0 x9_1).f1) [.string ((rd_T70 l0 x9_1).f1)] (fun _ => True) (fun _ => False) rfl zz32 ?aP (fun _ hk => hk.elim) ?aF ?aO ?aB ?aS ?aL ?_; (case aP => exact rfl); (case aB => exact (zz153 GE671.out)); (case aF => exact zz163); (case aO => exact (by (with_reducible repeat first | apply Kd.R_alloc | apply Kd.R_drewN | apply Kd.R_drew); exact Kd.R_mono (Kd.R_far (p := ⟨gb671, 1, none⟩) (Kd.R_far (p := ⟨gb671, 0, none⟩) (Kd.R_types HO_3.out BK671.out (by decide)) (fun _ hk => hk.2) (.int .i64 ((rd_T70 l0 x9_1).f0))) (fun _ hk => hk.2) (.string ((rd_T70 l0 x9_1).f1))) (fun _ hk => trivial))); (case aS => exact (zz154 GE671.out)); (case aL => have := LMc8.out; omega); intro v673 w11 ho hb hg hat; rw [← Ny672.out] at ho; replace BK671 := zA (blk_grown (g := gb671) (o := .cells #[.int .i64 ((rd_T70 l0 x9_1).f0), .string ((rd_T70 l0 x9_1).f1)] 70 (0, 0)) (by (with_reducible repeat first | apply blk_drewN | apply blk_drew | apply blk_alloc); refine blk_put (cs := #[.int .i64 ((rd_T70 l0 x9_1).f0), .string (⟨#[]⟩ : ByteArray)]) ?_ 1 _ rfl; (with_reducible repeat first | apply blk_drewN | apply blk_drew | apply blk_alloc); refine blk_put (cs := #[.int .i64 0, .string (⟨#[]⟩ : ByteArray)]) ?_ 0 _ rfl; (with_reducible repeat first | apply blk_drewN | apply blk_drew | apply blk_alloc); exact BK671.out) hg (Kd.R_ne HO_3.out BK671.out (by decide))); replace HB := zA (hb); have HO674 := zA (ho); clear HO_3; clear ho hb hg hat))
     go_roundg k1
     case measure => have := HK1.out; omega
     case rel => exact ⟨(y672), (wrap64 (x9_1 + 1)), zz9, H', ⟨by have := HK1.out; omega⟩, ⟨(zz22 HO674.out)⟩, ⟨(zz7 GE671.out)⟩⟩
    ·have c7b0 : (((rd_T70 l0 x9_1).f0) == 2) = false := beq_eq_false_iff_ne.mpr c7
     have c7b1 : (((rd_T70 l0 x9_1).f0) != 2) = true := bne_iff_ne.mpr c7
     have H' := zA H; clear H
     have p670 : 0 ≤ (x9_1 : Int) := dz_
     have q670 : x9_1 < (l0.length : Int) := dz_
     obtain ⟨ad670, e670, hx670_0, hx670_1⟩ := at_T70 HR0.out x9_1 p670 q670
     cases e670
     replace hx670_0 := cup_ HB.out hx670_0; replace hx670_1 := cup_ HB.out hx670_1
     replace p670 := eq_true p670
     replace q670 := eq_true q670
     go_wp2_with (((with_reducible refine gate_dst (N := 5) rfl ?_); refine bx_ 5 #[.int .i64 0, .string (⟨#[]⟩ : ByteArray)] 70 ?_; intro gb671 hg w12 hbox hb; replace HO_3 := zA (zz33 HO_3.out); have BK671 := zA (hbox); have GW671 := zA ((zz38 : w.heap.size ≤ gb671)); have GE671 := zA ((zz38 : w.heap.size ≤ gb671)); replace HB := zA zz4; clear hb hbox hg; obtain ⟨hcz13_0, hcz13_1, hfz13_0, hfz13_1⟩ := bk2_ BK671.out))
     go_roundg k1
     case measure => have := HK1.out; omega
     case rel => exact ⟨(x3_1), (wrap64 (x9_1 + 1)), zz9, H', ⟨by have := HK1.out; omega⟩, ⟨by (with_reducible repeat first | apply Kd.R_alloc | apply Kd.R_drewN | apply Kd.R_drew); exact Kd.R_mono (Kd.R_far (p := ⟨gb671, 1, none⟩) (Kd.R_far (p := ⟨gb671, 0, none⟩) (Kd.R_types HO_3.out BK671.out (by decide)) (fun _ hk => hk.2) (.int .i64 ((rd_T70 l0 x9_1).f0))) (fun _ hk => hk.2) (.string ((rd_T70 l0 x9_1).f1))) (fun _ hk => trivial)⟩, ⟨(zz7 GE671.out)⟩⟩
   ·obtain rfl := Option.some.inj H
    go_wp2
    go_ret
    exact ⟨_, zz14, (zz22 HO_3.out), zz23⟩

/-! ### laws_equalTexts: function 47 -/
def laws_equalTexts.l0 : Nat → List ByteArray → List ByteArray → Int → Option (Bool)
 | 0, _, _, _ => none
 | k + 1, x0, x1, x5 => if x5 < (x0.length : Int) then (if 0 ≤ x5 then (if x5 < (x1.length : Int) then (if (rdOf ByteArray.empty x0 x5).toList = (rdOf ByteArray.empty x1 x5).toList then (laws_equalTexts.l0 k x0 x1 (wrap64 (x5 + 1))) else (some false)) else (none)) else (none)) else (some true)
def laws_equalTexts.f (k : Nat) (l0 : List ByteArray) (l1 : List ByteArray) : Option (Bool) := if (l0.length : Int) = (l1.length : Int) then (laws_equalTexts.l0 k l0 l1 0) else (some false)
theorem laws_equalTexts.mono_l : ∀ k, (∀ y0 y1 y2, LeO (laws_equalTexts.l0 k y0 y1 y2) (laws_equalTexts.l0 (k + 1) y0 y1 y2))
 | 0 => fun _ _ _ r h => by simp [laws_equalTexts.l0] at h
 | k + 1 => by
  have ih0 := laws_equalTexts.mono_l k
  ·intro y0 y1 y2
   unfold laws_equalTexts.l0
   repeat' first | (with_reducible first | exact ih0 _ _ _ | exact le1_ | exact le2_ | apply LeO.ite | refine LeO.bind ?_ fun _ => ?_) | apply LeO.ite | refine LeO.bind ?_ fun _ => ?_
theorem laws_equalTexts.mono : ∀ a0 a1 k, LeO (laws_equalTexts.f k a0 a1) (laws_equalTexts.f (k + 1) a0 a1) := by
 intro a0 a1 k
 have ih0 := laws_equalTexts.mono_l k
 unfold laws_equalTexts.f
 repeat' first | (with_reducible first | exact ih0 _ _ _ | exact le1_ | exact le2_ | apply LeO.ite | refine LeO.bind ?_ fun _ => ?_) | apply LeO.ite | refine LeO.bind ?_ fun _ => ?_
set_option maxHeartbeats 8000000 in
set_option maxRecDepth 100000 in
theorem laws_equalTexts.calls (k : Nat) (A0 : Option Addr) (c0 : Nat) (l0 : List ByteArray) (A1 : Option Addr) (c1 : Nat) (l1 : List ByteArray) (r : Bool) (w : World) (hr0 : Kd.C Kd.string w A0 l0.length l0) (hc0 : l0.length ≤ c0) (hr1 : Kd.C Kd.string w A1 l1.length l1) (hc1 : l1.length ≤ c1) (h : laws_equalTexts.f k l0 l1 = some r) :
  Calls Try.prog 47 #[.slice A0 l0.length c0, .slice A1 l1.length c1] w fun e w' => e = .returned (.bool r) ∧ Drawn0 w w' := by
 have HR0 := zA hr0; have HC0 := zA hc0; clear hr0 hc0; have HR1 := zA hr1; have HC1 := zA hc1; clear hr1 hc1
 have H : (if (l0.length : Int) = (l1.length : Int) then (laws_equalTexts.l0 k l0 l1 0) else (some false)) = some r := h
 clear h
 rcases ie_ H with ⟨c3, H⟩ | ⟨c3, H⟩
 ·have c3b0 : ((l0.length : Int) == (l1.length : Int)) = true := beq_iff_eq.mpr c3
  have c3b1 : ((l0.length : Int) != (l1.length : Int)) = false := bne_eq_false_iff_eq.mpr c3
  have c3b2 : (l0.length == l1.length) = true := by first | simpa using c3 | (simp at c3 ⊢; omega)
  clear c3; have H' := zA H; clear H
  go_enter Try.func47, Try.ntmps47
  go_wp2
  repeat (go_quiet (fail); try go_wp2)
  go_loopg [5] k (fun kq v5 w' => ∃ (x5_1 : Int), v5 = .int .i64 x5_1 ∧ Aside0 (laws_equalTexts.l0 kq l0 l1 x5_1 = some r) ∧ Aside0 (kq ≤ k) ∧ Drawn0 w w')
  case atStart => exact ⟨(0), zz9, H', ⟨Nat.le_refl _⟩, zz19⟩
  case round =>
   clear H'; try clear c1; try clear p2; try clear c3; try clear c3b0; try clear c3b1; try clear c3b2
   obtain ⟨x5_1, rfl, HA, HK1, ⟨m1, rfl⟩⟩ := hrel
   cases gk with
   | zero => exact absurd HA.out (by simp [laws_equalTexts.l0])
   | succ k1 =>
    have H := HA.out; clear HA
    simp only [laws_equalTexts.l0] at H
    rcases iu_ H with ⟨c4b0, H⟩ | ⟨c4b0, H⟩
    ·obtain ⟨c5b0, H⟩ := it_ H
     obtain ⟨c6b0, H⟩ := it_ H
     rcases ie_ H with ⟨c7, H⟩ | ⟨c7, H⟩
     ·have c7b0 : ((rdOf ByteArray.empty l0 x5_1).toList == (rdOf ByteArray.empty l1 x5_1).toList) = true := beq_iff_eq.mpr c7
      have c7b1 : ((rdOf ByteArray.empty l0 x5_1).toList != (rdOf ByteArray.empty l1 x5_1).toList) = false := bne_eq_false_iff_eq.mpr c7
      clear c7; have H' := zA H; clear H
      have p675 : 0 ≤ (x5_1 : Int) := dz_
      have q675 : x5_1 < (l0.length : Int) := dz_
      obtain ⟨ad675, e675, hx675_0⟩ := Kd.at_string HR0.out x5_1 p675 q675
      cases e675
      replace p675 := eq_true p675
      replace q675 := eq_true q675
      have p676 : 0 ≤ (x5_1 : Int) := dz_
      have q676 : x5_1 < (l1.length : Int) := dz_
      obtain ⟨ad676, e676, hx676_0⟩ := Kd.at_string HR1.out x5_1 p676 q676
      cases e676
      replace p676 := eq_true p676
      replace q676 := eq_true q676
      go_wp2
      repeat (go_quiet (fail); try go_wp2)
      go_roundg k1
      case measure => have := HK1.out; omega
      case rel => exact ⟨(wrap64 (x5_1 + 1)), zz9, H', ⟨by have := HK1.out; omega⟩, zz19⟩
     ·have c7b0 : ((rdOf ByteArray.empty l0 x5_1).toList == (rdOf ByteArray.empty l1 x5_1).toList) = false := beq_eq_false_iff_ne.mpr c7
      have c7b1 : ((rdOf ByteArray.empty l0 x5_1).toList != (rdOf ByteArray.empty l1 x5_1).toList) = true := bne_iff_ne.mpr c7
      obtain rfl := Option.some.inj H
      have p675 : 0 ≤ (x5_1 : Int) := dz_
      have q675 : x5_1 < (l0.length : Int) := dz_
      obtain ⟨ad675, e675, hx675_0⟩ := Kd.at_string HR0.out x5_1 p675 q675
      cases e675
      replace p675 := eq_true p675
      replace q675 := eq_true q675
      have p676 : 0 ≤ (x5_1 : Int) := dz_
      have q676 : x5_1 < (l1.length : Int) := dz_
      obtain ⟨ad676, e676, hx676_0⟩ := Kd.at_string HR1.out x5_1 p676 q676
      cases e676
      replace p676 := eq_true p676
      replace q676 := eq_true q676
      go_wp2
      repeat (go_quiet (fail); try go_wp2)
      go_ret
      exact ⟨zz9, zz19⟩
    ·obtain rfl := Option.some.inj H
     go_wp2
     repeat (go_quiet (fail); try go_wp2)
     go_ret
     exact ⟨zz9, zz19⟩
 ·have c3b0 : ((l0.length : Int) == (l1.length : Int)) = false := beq_eq_false_iff_ne.mpr c3
  have c3b1 : ((l0.length : Int) != (l1.length : Int)) = true := bne_iff_ne.mpr c3
  have c3b2 : (l0.length == l1.length) = false := by first | simpa using c3 | (simp at c3 ⊢; omega)
  obtain rfl := Option.some.inj H
  go_enter Try.func47, Try.ntmps47
  go_wp2
  repeat (go_quiet (fail); try go_wp2)
  go_ret
  exact ⟨zz9, zz19⟩

/-! ### spec_TestsRun: function 48 -/
def spec_TestsRun.l0 : Nat → List (S70) → List ByteArray → Int → Option (List ByteArray)
 | 0, _, _, _ => none
 | k + 1, x0, x3, x4 => if x4 < (x0.length : Int) then (if 0 ≤ x4 then (if ((rd_T70 x0 x4).f0) = 2 then (if x3.length < 8796093022208 then (spec_TestsRun.l0 k x0 (x3 ++ [(rd_T70 x0 x4).f1]) (wrap64 (x4 + 1))) else (none)) else (spec_TestsRun.l0 k x0 x3 (wrap64 (x4 + 1)))) else (none)) else (some x3)
def spec_TestsRun.f (k : Nat) (l0 : List (S70)) : Option (List ByteArray) := spec_TestsRun.l0 k l0 (([] : List ByteArray)) 0
theorem spec_TestsRun.mono_l : ∀ k, (∀ y0 y1 y2, LeO (spec_TestsRun.l0 k y0 y1 y2) (spec_TestsRun.l0 (k + 1) y0 y1 y2))
 | 0 => fun _ _ _ r h => by simp [spec_TestsRun.l0] at h
 | k + 1 => by
  have ih0 := spec_TestsRun.mono_l k
  ·intro y0 y1 y2
   unfold spec_TestsRun.l0
   repeat' first | (with_reducible first | exact ih0 _ _ _ | exact le1_ | exact le2_ | apply LeO.ite | refine LeO.bind ?_ fun _ => ?_) | apply LeO.ite | refine LeO.bind ?_ fun _ => ?_
theorem spec_TestsRun.mono : ∀ a0 k, LeO (spec_TestsRun.f k a0) (spec_TestsRun.f (k + 1) a0) := by
 intro a0 k
 have ih0 := spec_TestsRun.mono_l k
 unfold spec_TestsRun.f
 repeat' first | (with_reducible first | exact ih0 _ _ _ | exact le1_ | exact le2_ | apply LeO.ite | refine LeO.bind ?_ fun _ => ?_) | apply LeO.ite | refine LeO.bind ?_ fun _ => ?_
set_option maxHeartbeats 8000000 in
set_option maxRecDepth 100000 in
theorem spec_TestsRun.calls (k : Nat) (A0 : Option Addr) (c0 : Nat) (l0 : List (S70)) (r : List ByteArray) (w : World) (hr0 : Kd.C k70 w A0 l0.length l0) (hc0 : l0.length ≤ c0) (h : spec_TestsRun.f k l0 = some r) :
  Calls Try.prog 48 #[.slice A0 l0.length c0] w fun e w' => ∃ v0_ : Value, e = .returned (v0_) ∧ Kd.R Kd.string 9 w' w.heap.size (fun _ => True) v0_ r ∧ Below w.heap.size w w' := by
 have HR0 := zA hr0; have HC0 := zA hc0; clear hr0 hc0; have HB := zA zz2
 have H : (spec_TestsRun.l0 k l0 (([] : List ByteArray)) 0) = some r := h
 clear h
 obtain ⟨y677, hy677⟩ : ∃ y_ : List ByteArray, y_ = (([] : List ByteArray)) := ⟨_, rfl⟩
 replace H : (spec_TestsRun.l0 k l0 y677 0) = some r := (zz24 hy677)
 have Ny677 := zA hy677; clear hy677; have H' := zA H; clear H
 go_enter Try.func48, Try.ntmps48
 go_wp2_with (((with_reducible refine gate_dst (N := 5) rfl ?_); refine rl_ Kd.string 9 5 ?_; intro v678 w2 ho3 hb; replace ho3 := ny_ Ny677.out ho3; have HO679 := zA (zz39 ho3); replace HB := zA zz4; clear hb ho3))
 go_loopg [3, 4] k (fun kq v3 v4 w' => ∃ (x3_1 : List ByteArray) (x4_1 : Int), v4 = .int .i64 x4_1 ∧ Aside0 (spec_TestsRun.l0 kq l0 x3_1 x4_1 = some r) ∧ Aside0 (kq ≤ k) ∧ Aside0 (Kd.R Kd.string 9 w' w.heap.size (fun _ => True) v3 x3_1) ∧ Aside0 (Below w.heap.size w w'))
 case atStart => exact ⟨(y677), (0), zz9, H', ⟨Nat.le_refl _⟩, ⟨(zz22 HO679.out)⟩, ⟨zz23⟩⟩
 case round =>
  clear H'; try clear p2
  obtain ⟨x3_1, x4_1, rfl, HA, HK1, HO_3, HB⟩ := hrel
  cases gk with
  | zero => exact absurd HA.out (by simp [spec_TestsRun.l0])
  | succ k1 =>
   have H := HA.out; clear HA
   simp only [spec_TestsRun.l0] at H
   rcases iu_ H with ⟨c4b0, H⟩ | ⟨c4b0, H⟩
   ·obtain ⟨c5b0, H⟩ := it_ H
    rcases ie_ H with ⟨c6, H⟩ | ⟨c6, H⟩
    ·have c6b0 : (((rd_T70 l0 x4_1).f0) == 2) = true := beq_iff_eq.mpr c6
     have c6b1 : (((rd_T70 l0 x4_1).f0) != 2) = false := bne_eq_false_iff_eq.mpr c6
     clear c6
     obtain ⟨c7, H⟩ := in_ H
     have LMc7 := zA c7; clear c7
     obtain ⟨y682, hy682⟩ : ∃ y_ : List ByteArray, y_ = (x3_1 ++ [(rd_T70 l0 x4_1).f1]) := ⟨_, rfl⟩
     replace H : (spec_TestsRun.l0 k1 l0 y682 (wrap64 (x4_1 + 1))) = some r := (zz24 hy682)
     have Ny682 := zA hy682; clear hy682; have H' := zA H; clear H
     have p680 : 0 ≤ (x4_1 : Int) := dz_
     have q680 : x4_1 < (l0.length : Int) := dz_
     obtain ⟨ad680, e680, hx680_0, hx680_1⟩ := at_T70 HR0.out x4_1 p680 q680
     cases e680
     replace hx680_0 := cup_ HB.out hx680_0; replace hx680_1 := cup_ HB.out hx680_1
     replace p680 := eq_true p680
     replace q680 := eq_true q680
     have p681 : 0 ≤ (x4_1 : Int) := dz_
     have q681 : x4_1 < (l0.length : Int) := dz_
     obtain ⟨ad681, e681, hx681_0, hx681_1⟩ := at_T70 HR0.out x4_1 p681 q681
     obtain rfl : ad680 = ad681 := (by injection e681)
     replace hx681_0 := cup_ HB.out hx681_0; replace hx681_1 := cup_ HB.out hx681_1
     replace p681 := eq_true p681
     replace q681 := eq_true q681
     go_wp2_with (((with_reducible refine gate_builtin (b := .append) (xs := #[.tmp 18, .tmp 24]) rfl ?_); at_builtin; refine Kd.R_append Kd.string (w0 := w) w.heap.size rfl (.tmp 18) (.tmp 24) 31 9 (.string ⟨#[]⟩) 16 rfl Try.underlying31 info9 rfl (by decide) (by omega) u3 x3_1 ((rd_T70 l0 x4_1).f1) [.string ((rd_T70 l0 x4_1).f1)] (fun _ => True) (fun _ => False) rfl rfl ?aP (fun _ hk => hk.elim) ?aF ?aO ?aB ?aS ?aL ?_; (case aP => exact rfl); (case aB => exact zz25); (case aF => exact zz163); (case aO => exact (zz26 HO_3.out)); (case aS => exact zz27); (case aL => have := LMc7.out; omega); intro v683 w8 ho hb hg hat; rw [← Ny682.out] at ho; replace HB := zA (hb); have HO684 := zA (ho); clear HO_3; clear ho hb hg hat))
     go_roundg k1
     case measure => have := HK1.out; omega
     case rel => exact ⟨(y682), (wrap64 (x4_1 + 1)), zz9, H', ⟨by have := HK1.out; omega⟩, ⟨(zz22 HO684.out)⟩, ⟨zz23⟩⟩
    ·have c6b0 : (((rd_T70 l0 x4_1).f0) == 2) = false := beq_eq_false_iff_ne.mpr c6
     have c6b1 : (((rd_T70 l0 x4_1).f0) != 2) = true := bne_iff_ne.mpr c6
     have H' := zA H; clear H
     have p680 : 0 ≤ (x4_1 : Int) := dz_
     have q680 : x4_1 < (l0.length : Int) := dz_
     obtain ⟨ad680, e680, hx680_0, hx680_1⟩ := at_T70 HR0.out x4_1 p680 q680
     cases e680
     replace hx680_0 := cup_ HB.out hx680_0; replace hx680_1 := cup_ HB.out hx680_1
     replace p680 := eq_true p680
     replace q680 := eq_true q680
     go_wp2
     go_roundg k1
     case measure => have := HK1.out; omega
     case rel => exact ⟨(x3_1), (wrap64 (x4_1 + 1)), zz9, H', ⟨by have := HK1.out; omega⟩, ⟨(zz22 HO_3.out)⟩, ⟨zz23⟩⟩
   ·obtain rfl := Option.some.inj H
    go_wp2
    go_ret
    exact ⟨_, zz14, (zz22 HO_3.out), zz23⟩

end Go.Proofs.Ytieghkchhjailaa.S
