-- WRITTEN by wip/ext.py
import Derived.Test.YtieghkchhjailaaSx0
import Derived.Test.YtieghkchhjailaaSx1
import Derived.Test.YtieghkchhjailaaSx6
namespace Go.Proofs.Ytieghkchhjailaa.S
open Go.RowKit Go.Proofs.YtieghkchhjailaaW.PrintWords Go.Proofs.YtieghkchhjailaaW.PrintLast Go.Proofs.YtieghkchhjailaaW.PrintMore
attribute [local go_sem] max2_int min2_int max_two min_two max_three min_three max_four min_four   -- for this text's walks alone
set_option linter.unusedVariables false
set_option linter.unusedSimpArgs false

/-! ### spec_validName: function 89 -/
def spec_validName.l0 : Nat → ByteArray → Int → Option (Bool)
 | 0, _, _ => none
 | k + 1, x0, x3 => if x3 < (x0.size : Int) then (if 0 ≤ x3 then (if (bt x0 x3) < 97 then (some false) else (if (bt x0 x3) > 122 then (some false) else (spec_validName.l0 k x0 (wrap64 (x3 + 1))))) else (none)) else ((spec_inRange.f (x0.size : Int) 1 6).bind fun t338 => (if t338 = true then (if x0.toList = ([97, 110, 100] : List UInt8) then (some false) else (if x0.toList = ([111, 114] : List UInt8) then (some false) else (some (x0.toList != ([110, 111, 116] : List UInt8))))) else (some false)))
def spec_validName.f (k : Nat) (a0 : ByteArray) : Option (Bool) := spec_validName.l0 k a0 0
theorem spec_validName.mono_l : ∀ k, (∀ y0 y1, LeO (spec_validName.l0 k y0 y1) (spec_validName.l0 (k + 1) y0 y1))
 | 0 => fun _ _ r h => by simp [spec_validName.l0] at h
 | k + 1 => by
  have ih0 := spec_validName.mono_l k
  ·intro y0 y1
   unfold spec_validName.l0
   repeat' first | (with_reducible first | exact ih0 _ _ | exact le1_ | exact le2_ | apply LeO.ite | refine LeO.bind ?_ fun _ => ?_) | apply LeO.ite | refine LeO.bind ?_ fun _ => ?_
theorem spec_validName.mono : ∀ a0 k, LeO (spec_validName.f k a0) (spec_validName.f (k + 1) a0) := by
 intro a0 k
 have ih0 := spec_validName.mono_l k
 unfold spec_validName.f
 repeat' first | (with_reducible first | exact ih0 _ _ | exact le1_ | exact le2_ | apply LeO.ite | refine LeO.bind ?_ fun _ => ?_) | apply LeO.ite | refine LeO.bind ?_ fun _ => ?_
set_option maxHeartbeats 8000000 in
set_option maxRecDepth 100000 in
theorem spec_validName.calls (k : Nat) (a0 : ByteArray) (r : Bool) (w : World) (h : spec_validName.f k a0 = some r) :
  Calls Try.prog 89 #[.string a0] w fun e w' => e = .returned (.bool r) ∧ Drawn0 w w' := by
 have H : (spec_validName.l0 k a0 0) = some r := h
 clear h; have H' := zA H; clear H
 go_enter Try.func89, Try.ntmps89
 go_wp2
 go_loopg [3] k (fun kq v3 w' => ∃ (x3_1 : Int), v3 = .int .i64 x3_1 ∧ Aside0 (spec_validName.l0 kq a0 x3_1 = some r) ∧ Aside0 (kq ≤ k) ∧ Drawn0 w w')
 case atStart => exact ⟨(0), zz9, H', ⟨Nat.le_refl _⟩, zz19⟩
 case round =>
  clear H'
  obtain ⟨x3_1, rfl, HA, HK1, ⟨m1, rfl⟩⟩ := hrel
  cases gk with
  | zero => exact absurd HA.out (by simp [spec_validName.l0])
  | succ k1 =>
   have H := HA.out; clear HA
   simp only [spec_validName.l0] at H
   rcases iu_ H with ⟨c2b0, H⟩ | ⟨c2b0, H⟩
   ·obtain ⟨c3b0, H⟩ := it_ H
    rcases iu_ H with ⟨c5b0, H⟩ | ⟨c5b0, H⟩
    ·obtain rfl := Option.some.inj H
     have p4 : 0 ≤ (x3_1 : Int) := dz_
     have q4 : x3_1 < (a0.size : Int) := dz_
     have hx4 := bt_at a0 x3_1
     replace p4 := eq_true p4
     replace q4 := eq_true q4
     go_wp2
     go_ret
     exact ⟨zz9, zz19⟩
    ·rcases ie_ H with ⟨c7, H⟩ | ⟨c7, H⟩
     ·have c7b0 : decide (122 < (bt a0 x3_1)) = true := decide_eq_true c7
      clear c7
      obtain rfl := Option.some.inj H
      have p4 : 0 ≤ (x3_1 : Int) := dz_
      have q4 : x3_1 < (a0.size : Int) := dz_
      have hx4 := bt_at a0 x3_1
      replace p4 := eq_true p4
      replace q4 := eq_true q4
      have p6 : 0 ≤ (x3_1 : Int) := dz_
      have q6 : x3_1 < (a0.size : Int) := dz_
      have hx6 := bt_at a0 x3_1
      replace p6 := eq_true p6
      replace q6 := eq_true q6
      go_wp2
      go_ret
      exact ⟨zz9, zz19⟩
     ·have c7b0 : decide (122 < (bt a0 x3_1)) = false := decide_eq_false c7
      clear c7; have H' := zA H; clear H
      have p4 : 0 ≤ (x3_1 : Int) := dz_
      have q4 : x3_1 < (a0.size : Int) := dz_
      have hx4 := bt_at a0 x3_1
      replace p4 := eq_true p4
      replace q4 := eq_true q4
      have p6 : 0 ≤ (x3_1 : Int) := dz_
      have q6 : x3_1 < (a0.size : Int) := dz_
      have hx6 := bt_at a0 x3_1
      replace p6 := eq_true p6
      replace q6 := eq_true q6
      go_wp2
      go_roundg k1
      case measure => have := HK1.out; omega
      case rel => exact ⟨(wrap64 (x3_1 + 1)), zz9, H', ⟨by have := HK1.out; omega⟩, zz19⟩
   ·obtain ⟨t338, A8, H⟩ := bs_ H
    (try dsimp only at H)
    by_cases c9 : t338 = true
    ·subst c9
     have H1 : (if a0.toList = ([97, 110, 100] : List UInt8) then (some false) else (if a0.toList = ([111, 114] : List UInt8) then (some false) else (some (a0.toList != ([110, 111, 116] : List UInt8))))) = some r := by rw [if_pos rfl] at H; exact H
     clear H; have H := H1; clear H1
     rcases ie_ H with ⟨c10, H⟩ | ⟨c10, H⟩
     ·have c10b0 : (a0.toList == ([97, 110, 100] : List UInt8)) = true := beq_iff_eq.mpr c10
      have c10b1 : (a0.toList != ([97, 110, 100] : List UInt8)) = false := bne_eq_false_iff_eq.mpr c10
      clear c10
      obtain rfl := Option.some.inj H
      go_wp2_with (((with_reducible refine gate_callee (f := 97) rfl ?_); refine goesL_ (some 22) rfl rfl Try.func97 (by kernel_rfl) rfl #[.int .i64 (a0.size : Int), .int .i64 1, .int .i64 6] rfl zz17 ?_; (with_reducible refine (spec_inRange.calls (a0.size : Int) 1 6 true _ A8.out).mono ?_); rintro e w' ⟨rfl, ⟨nd, rfl⟩⟩; refine ⟨_, rfl, ?_⟩))
      go_ret
      exact ⟨zz9, zz19⟩
     ·have c10b0 : (a0.toList == ([97, 110, 100] : List UInt8)) = false := beq_eq_false_iff_ne.mpr c10
      have c10b1 : (a0.toList != ([97, 110, 100] : List UInt8)) = true := bne_iff_ne.mpr c10
      rcases ie_ H with ⟨c11, H⟩ | ⟨c11, H⟩
      ·have c11b0 : (a0.toList == ([111, 114] : List UInt8)) = true := beq_iff_eq.mpr c11
       have c11b1 : (a0.toList != ([111, 114] : List UInt8)) = false := bne_eq_false_iff_eq.mpr c11
       clear c11
       obtain rfl := Option.some.inj H
       go_wp2_with (((with_reducible refine gate_callee (f := 97) rfl ?_); refine goesL_ (some 22) rfl rfl Try.func97 (by kernel_rfl) rfl #[.int .i64 (a0.size : Int), .int .i64 1, .int .i64 6] rfl zz17 ?_; (with_reducible refine (spec_inRange.calls (a0.size : Int) 1 6 true _ A8.out).mono ?_); rintro e w' ⟨rfl, ⟨nd, rfl⟩⟩; refine ⟨_, rfl, ?_⟩))
       go_ret
       exact ⟨zz9, zz19⟩
      ·have c11b0 : (a0.toList == ([111, 114] : List UInt8)) = false := beq_eq_false_iff_ne.mpr c11
       have c11b1 : (a0.toList != ([111, 114] : List UInt8)) = true := bne_iff_ne.mpr c11
       obtain rfl := Option.some.inj H
       go_wp2_with (((with_reducible refine gate_callee (f := 97) rfl ?_); refine goesL_ (some 22) rfl rfl Try.func97 (by kernel_rfl) rfl #[.int .i64 (a0.size : Int), .int .i64 1, .int .i64 6] rfl zz17 ?_; (with_reducible refine (spec_inRange.calls (a0.size : Int) 1 6 true _ A8.out).mono ?_); rintro e w' ⟨rfl, ⟨nd, rfl⟩⟩; refine ⟨_, rfl, ?_⟩))
       go_ret
       exact ⟨zz9, zz19⟩
    ·replace c9 := Bool.eq_false_iff.mpr c9
     subst c9
     have H1 : (some false) = some r := by rw [if_neg (show ¬ (false = true) by decide)] at H; exact H
     clear H; have H := H1; clear H1
     obtain rfl := Option.some.inj H
     go_wp2_with (((with_reducible refine gate_callee (f := 97) rfl ?_); refine goesL_ (some 22) rfl rfl Try.func97 (by kernel_rfl) rfl #[.int .i64 (a0.size : Int), .int .i64 1, .int .i64 6] rfl zz17 ?_; (with_reducible refine (spec_inRange.calls (a0.size : Int) 1 6 false _ A8.out).mono ?_); rintro e w' ⟨rfl, ⟨nd, rfl⟩⟩; refine ⟨_, rfl, ?_⟩))
     go_ret
     exact ⟨zz9, zz19⟩

/-! ### spec_validNames: function 122 -/
def spec_validNames.l0 : Nat → List ByteArray → Int → Int → Option (Bool)
 | 0, _, _, _ => none
 | k + 1, x0, x1, x5 => if x5 < (x0.length : Int) then (if 0 ≤ x5 then ((spec_validName.f k (rdOf ByteArray.empty x0 x5)).bind fun t340 => (if t340 = true then (if x5 ≤ (x0.length : Int) then ((spec_hasText.f k (x0.take (x5 : Int).toNat) (rdOf ByteArray.empty x0 x5)).bind fun t343 => (if t343 = true then (some false) else (spec_validNames.l0 k x0 x1 (wrap64 (x5 + 1))))) else (none)) else (some false))) else (none)) else (some (decide ((x0.length : Int) ≤ x1)))
def spec_validNames.f (k : Nat) (l0 : List ByteArray) (a1 : Int) : Option (Bool) := spec_validNames.l0 k l0 a1 0
theorem spec_validNames.mono_l : ∀ k, (∀ y0 y1 y2, LeO (spec_validNames.l0 k y0 y1 y2) (spec_validNames.l0 (k + 1) y0 y1 y2))
 | 0 => fun _ _ _ r h => by simp [spec_validNames.l0] at h
 | k + 1 => by
  have ih0 := spec_validNames.mono_l k
  ·intro y0 y1 y2
   unfold spec_validNames.l0
   repeat' first | (with_reducible first | exact ih0 _ _ _ | exact spec_hasText.mono _ _ _ | exact spec_validName.mono _ _ | exact le1_ | exact le2_ | apply LeO.ite | refine LeO.bind ?_ fun _ => ?_) | apply LeO.ite | refine LeO.bind ?_ fun _ => ?_
theorem spec_validNames.mono : ∀ a0 a1 k, LeO (spec_validNames.f k a0 a1) (spec_validNames.f (k + 1) a0 a1) := by
 intro a0 a1 k
 have ih0 := spec_validNames.mono_l k
 unfold spec_validNames.f
 repeat' first | (with_reducible first | exact ih0 _ _ _ | exact spec_hasText.mono _ _ _ | exact spec_validName.mono _ _ | exact le1_ | exact le2_ | apply LeO.ite | refine LeO.bind ?_ fun _ => ?_) | apply LeO.ite | refine LeO.bind ?_ fun _ => ?_
set_option maxHeartbeats 8000000 in
set_option maxRecDepth 100000 in
theorem spec_validNames.calls (k : Nat) (A0 : Option Addr) (c0 : Nat) (l0 : List ByteArray) (a1 : Int) (r : Bool) (w : World) (hr0 : Kd.C Kd.string w A0 l0.length l0) (hc0 : l0.length ≤ c0) (h : spec_validNames.f k l0 a1 = some r) :
  Calls Try.prog 122 #[.slice A0 l0.length c0, .int .i64 a1] w fun e w' => e = .returned (.bool r) ∧ Drawn0 w w' := by
 have HR0 := zA hr0; have HC0 := zA hc0; clear hr0 hc0
 have H : (spec_validNames.l0 k l0 a1 0) = some r := h
 clear h; have H' := zA H; clear H
 go_enter Try.func122, Try.ntmps122
 go_wp2
 repeat (go_quiet (fail); try go_wp2)
 go_loopg [5] k (fun kq v5 w' => ∃ (x5_1 : Int), v5 = .int .i64 x5_1 ∧ Aside0 (spec_validNames.l0 kq l0 a1 x5_1 = some r) ∧ Aside0 (kq ≤ k) ∧ Drawn0 w w')
 case atStart => exact ⟨(0), zz9, H', ⟨Nat.le_refl _⟩, zz19⟩
 case round =>
  clear H'; try clear c1; try clear p2
  obtain ⟨x5_1, rfl, HA, HK1, ⟨m1, rfl⟩⟩ := hrel
  cases gk with
  | zero => exact absurd HA.out (by simp [spec_validNames.l0])
  | succ k1 =>
   have H := HA.out; clear HA
   simp only [spec_validNames.l0] at H
   rcases iu_ H with ⟨c3b0, H⟩ | ⟨c3b0, H⟩
   ·obtain ⟨c4b0, H⟩ := it_ H
    obtain ⟨t340, A5, H⟩ := bs_ H
    (try dsimp only at H)
    by_cases c6 : t340 = true
    ·subst c6
     have H1 : (if x5_1 ≤ (l0.length : Int) then ((spec_hasText.f k1 (l0.take (x5_1 : Int).toNat) (rdOf ByteArray.empty l0 x5_1)).bind fun t343 => (if t343 = true then (some false) else (spec_validNames.l0 k1 l0 a1 (wrap64 (x5_1 + 1))))) else (none)) = some r := by rw [if_pos rfl] at H; exact H
     clear H; have H := H1; clear H1; have c7b0 := eq_true (of_decide_eq_true zz3 : 0 ≤ x5_1)
     obtain ⟨c8, H⟩ := in_ H
     have c8b0 := eq_true c8
     have c8b1 : decide (x5_1 ≤ (l0.length : Int)) = true := decide_eq_true c8
     clear c8
     obtain ⟨t343, A9, H⟩ := bs_ H
     (try dsimp only at H)
     by_cases c10 : t343 = true
     ·subst c10
      have H1 : (some false) = some r := by rw [if_pos rfl] at H; exact H
      clear H; have H := H1; clear H1
      obtain rfl := Option.some.inj H
      have p339 : 0 ≤ (x5_1 : Int) := dz_
      have q339 : x5_1 < (l0.length : Int) := dz_
      obtain ⟨ad339, e339, hx339_0⟩ := Kd.at_string HR0.out x5_1 p339 q339
      cases e339
      replace p339 := eq_true p339
      replace q339 := eq_true q339
      go_wp2_with (fail)
      try (obtain ⟨i011, hi011, _, hsz11, _⟩ := info_parts info9; obtain ⟨hcut11, hA11, hC11⟩ := print_take_of (P := Try.prog) Value.string (⟨#[]⟩ : ByteArray) 31 9 .i64 Try.underlying31 hi011 hsz11 (some ad339) c0 l0 x5_1 (of_decide_eq_true zz3) (of_decide_eq_true zz3) HC0.out; have HR341 := zA (Kd.C_of_reads (h1 := fun _ => rfl) (hA11 _ (Kd.reads_of_C HR0.out))); have HC341 := zA hC11; clear hA11 hC11 hi011 hsz11; have p342 : 0 ≤ (x5_1 : Int) := dz_; have q342 : x5_1 < (l0.length : Int) := dz_; obtain ⟨ad342, e342, hx342_0⟩ := Kd.at_string HR0.out x5_1 p342 q342; obtain rfl : ad339 = ad342 := (by injection e342); replace p342 := eq_true p342; replace q342 := eq_true q342)
      repeat (go_quiet (first | (go_at_call 89; (with_reducible refine (spec_validName.calls k1 (rdOf ByteArray.empty l0 x5_1) true _ A5.out).mono ?_); rintro e w' ⟨rfl, ⟨nd, rfl⟩⟩; (try exact dr_)) | (go_at_call 92; (try rw [show (x5_1 : Int).toNat = (l0.take (x5_1 : Int).toNat).length from (by rw [List.length_take, Nat.min_eq_left (by have q_ := (of_decide_eq_true zz3 : x5_1 ≤ (l0.length : Int)); omega)])]); (with_reducible refine (spec_hasText.calls k1 _ _ (l0.take (x5_1 : Int).toNat) (rdOf ByteArray.empty l0 x5_1) true _ ?side1 ?side2 A9.out).mono ?_); (case side1 => exact (zz135 HR341.out)); (case side2 => exact HC341.out); rintro e w' ⟨rfl, ⟨nd, rfl⟩⟩; (try exact dr_))); try go_wp2_with (fail))
      go_ret
      exact ⟨zz9, zz19⟩
     ·replace c10 := Bool.eq_false_iff.mpr c10
      subst c10
      have H1 : (spec_validNames.l0 k1 l0 a1 (wrap64 (x5_1 + 1))) = some r := by rw [if_neg (show ¬ (false = true) by decide)] at H; exact H
      clear H; have H := H1; clear H1; have H' := zA H; clear H
      have p339 : 0 ≤ (x5_1 : Int) := dz_
      have q339 : x5_1 < (l0.length : Int) := dz_
      obtain ⟨ad339, e339, hx339_0⟩ := Kd.at_string HR0.out x5_1 p339 q339
      cases e339
      replace p339 := eq_true p339
      replace q339 := eq_true q339
      go_wp2_with (fail)
      try (obtain ⟨i012, hi012, _, hsz12, _⟩ := info_parts info9; obtain ⟨hcut12, hA12, hC12⟩ := print_take_of (P := Try.prog) Value.string (⟨#[]⟩ : ByteArray) 31 9 .i64 Try.underlying31 hi012 hsz12 (some ad339) c0 l0 x5_1 (of_decide_eq_true zz3) (of_decide_eq_true zz3) HC0.out; have HR341 := zA (Kd.C_of_reads (h1 := fun _ => rfl) (hA12 _ (Kd.reads_of_C HR0.out))); have HC341 := zA hC12; clear hA12 hC12 hi012 hsz12; have p342 : 0 ≤ (x5_1 : Int) := dz_; have q342 : x5_1 < (l0.length : Int) := dz_; obtain ⟨ad342, e342, hx342_0⟩ := Kd.at_string HR0.out x5_1 p342 q342; obtain rfl : ad339 = ad342 := (by injection e342); replace p342 := eq_true p342; replace q342 := eq_true q342)
      repeat (go_quiet (first | (go_at_call 89; (with_reducible refine (spec_validName.calls k1 (rdOf ByteArray.empty l0 x5_1) true _ A5.out).mono ?_); rintro e w' ⟨rfl, ⟨nd, rfl⟩⟩; (try exact dr_)) | (go_at_call 92; (try rw [show (x5_1 : Int).toNat = (l0.take (x5_1 : Int).toNat).length from (by rw [List.length_take, Nat.min_eq_left (by have q_ := (of_decide_eq_true zz3 : x5_1 ≤ (l0.length : Int)); omega)])]); (with_reducible refine (spec_hasText.calls k1 _ _ (l0.take (x5_1 : Int).toNat) (rdOf ByteArray.empty l0 x5_1) false _ ?side1 ?side2 A9.out).mono ?_); (case side1 => exact (zz135 HR341.out)); (case side2 => exact HC341.out); rintro e w' ⟨rfl, ⟨nd, rfl⟩⟩; (try exact dr_))); try go_wp2_with (fail))
      go_roundg k1
      case measure => have := HK1.out; omega
      case rel => exact ⟨(wrap64 (x5_1 + 1)), zz9, H', ⟨by have := HK1.out; omega⟩, zz19⟩
    ·replace c6 := Bool.eq_false_iff.mpr c6
     subst c6
     have H1 : (some false) = some r := by rw [if_neg (show ¬ (false = true) by decide)] at H; exact H
     clear H; have H := H1; clear H1
     obtain rfl := Option.some.inj H
     have p339 : 0 ≤ (x5_1 : Int) := dz_
     have q339 : x5_1 < (l0.length : Int) := dz_
     obtain ⟨ad339, e339, hx339_0⟩ := Kd.at_string HR0.out x5_1 p339 q339
     cases e339
     replace p339 := eq_true p339
     replace q339 := eq_true q339
     go_wp2_with (fail)
     repeat (go_quiet ((go_at_call 89; (with_reducible refine (spec_validName.calls k1 (rdOf ByteArray.empty l0 x5_1) false _ A5.out).mono ?_); rintro e w' ⟨rfl, ⟨nd, rfl⟩⟩; (try exact dr_))); try go_wp2_with (fail))
     go_ret
     exact ⟨zz9, zz19⟩
   ·obtain rfl := Option.some.inj H
    go_wp2
    repeat (go_quiet (fail); try go_wp2)
    go_ret
    exact ⟨zz9, zz19⟩

/-! ### spec_ascending: function 133 -/
theorem spec_ascending.less_f : ∀ (a b : List UInt8), Op.bytesLess b a = true → Op.bytesLess a b = false ∧ (a == b) = false
 | [], b, h => by cases b <;> simp [Op.bytesLess] at h
 | x :: t, [], _ => ⟨rfl, rfl⟩
 | x :: t, y :: u, h => by
  rw [Op.bytesLess, Bool.or_eq_true, Bool.and_eq_true, decide_eq_true_eq, beq_iff_eq] at h
  rcases h with h | ⟨h1, h2⟩
  ·have hne : x ≠ y := fun e => by subst e; exact absurd h (UInt8.lt_irrefl _)
   have hnl : ¬ x < y := UInt8.lt_asymm h
   constructor
   ·rw [Op.bytesLess]; simp [hne, hnl]
   ·simp [hne]
  ·subst h1
   obtain ⟨i1, i2⟩ := spec_ascending.less_f t u h2
   constructor
   ·rw [Op.bytesLess]; simp [i1, UInt8.lt_irrefl]
   ·simpa using i2
theorem spec_ascending.less_t : ∀ (a b : List UInt8), Op.bytesLess b a = false → (Op.bytesLess a b || a == b) = true
 | [], [], _ => rfl
 | [], _ :: _, _ => rfl
 | x :: t, [], h => by simp [Op.bytesLess] at h
 | x :: t, y :: u, h => by
  rw [Op.bytesLess, Bool.or_eq_false_iff, Bool.and_eq_false_iff, decide_eq_false_iff_not] at h
  obtain ⟨h1, h2⟩ := h
  by_cases e : x = y
  ·subst e
   have h3 : Op.bytesLess u t = false := h2.elim (fun h => by simp at h) id
   have ih := spec_ascending.less_t t u h3
   rw [Op.bytesLess]
   simpa [UInt8.lt_irrefl] using ih
  ·have h3 : x < y := UInt8.lt_of_le_of_ne (UInt8.not_lt.1 h1) e
   rw [Op.bytesLess]
   simp [h3]
def spec_ascending.l0 : Nat → List ByteArray → Int → Option (Bool)
 | 0, _, _ => none
 | k + 1, x0, x3 => if x3 < (x0.length : Int) then (if 0 ≤ x3 then (if 0 ≤ (wrap64 (x3 - 1)) then (if (wrap64 (x3 - 1)) < (x0.length : Int) then (if ((Op.bytesLess ((rdOf ByteArray.empty x0 (wrap64 (x3 - 1))).toList) ((rdOf ByteArray.empty x0 x3).toList)) = true) then (spec_ascending.l0 k x0 (wrap64 (x3 + 1))) else (some false)) else (none)) else (none)) else (none)) else (some true)
def spec_ascending.f (k : Nat) (l0 : List ByteArray) : Option (Bool) := spec_ascending.l0 k l0 1
theorem spec_ascending.mono_l : ∀ k, (∀ y0 y1, LeO (spec_ascending.l0 k y0 y1) (spec_ascending.l0 (k + 1) y0 y1))
 | 0 => fun _ _ r h => by simp [spec_ascending.l0] at h
 | k + 1 => by
  have ih0 := spec_ascending.mono_l k
  ·intro y0 y1
   unfold spec_ascending.l0
   repeat' first | (with_reducible first | exact ih0 _ _ | exact le1_ | exact le2_ | apply LeO.ite | refine LeO.bind ?_ fun _ => ?_) | apply LeO.ite | refine LeO.bind ?_ fun _ => ?_
theorem spec_ascending.mono : ∀ a0 k, LeO (spec_ascending.f k a0) (spec_ascending.f (k + 1) a0) := by
 intro a0 k
 have ih0 := spec_ascending.mono_l k
 unfold spec_ascending.f
 repeat' first | (with_reducible first | exact ih0 _ _ | exact le1_ | exact le2_ | apply LeO.ite | refine LeO.bind ?_ fun _ => ?_) | apply LeO.ite | refine LeO.bind ?_ fun _ => ?_
set_option maxHeartbeats 8000000 in
set_option maxRecDepth 100000 in
theorem spec_ascending.calls (k : Nat) (A0 : Option Addr) (c0 : Nat) (l0 : List ByteArray) (r : Bool) (w : World) (hr0 : Kd.C Kd.string w A0 l0.length l0) (hc0 : l0.length ≤ c0) (h : spec_ascending.f k l0 = some r) :
  Calls Try.prog 133 #[.slice A0 l0.length c0] w fun e w' => e = .returned (.bool r) ∧ Drawn0 w w' := by
 have qleq_ : ∀ (w : World) (t : TypeId) (a b : ByteArray), (binOp .leq t (.string a) (.string b)).run Try.prog w = .ok (.bool (Op.bytesLess a.toList b.toList || a.toList == b.toList)) w := fun w t a b => by simp [binOp, Op.stringOp]
 have HR0 := zA hr0; have HC0 := zA hc0; clear hr0 hc0
 have H : (spec_ascending.l0 k l0 1) = some r := h
 clear h; have H' := zA H; clear H
 go_enter Try.func133, Try.ntmps133
 go_wp2
 repeat (go_quiet (fail); try go_wp2)
 go_loopg [3] k (fun kq v3 w' => ∃ (x3_1 : Int), v3 = .int .i64 x3_1 ∧ Aside0 (spec_ascending.l0 kq l0 x3_1 = some r) ∧ Aside0 (kq ≤ k) ∧ Drawn0 w w')
 case atStart => exact ⟨(1), zz9, H', ⟨Nat.le_refl _⟩, zz19⟩
 case round =>
  clear H'; try clear c1
  obtain ⟨x3_1, rfl, HA, HK1, ⟨m1, rfl⟩⟩ := hrel
  cases gk with
  | zero => exact absurd HA.out (by simp [spec_ascending.l0])
  | succ k1 =>
   have H := HA.out; clear HA
   simp only [spec_ascending.l0] at H
   rcases iu_ H with ⟨c2b0, H⟩ | ⟨c2b0, H⟩
   ·obtain ⟨c3b0, H⟩ := it_ H
    obtain ⟨ji4, hji4⟩ : ∃ j_ : Int, (wrap64 (x3_1 - 1)) = j_ := ⟨_, rfl⟩
    replace H : (if 0 ≤ (ji4) then (if (ji4) < (l0.length : Int) then (if ((Op.bytesLess ((rdOf ByteArray.empty l0 (ji4)).toList) ((rdOf ByteArray.empty l0 x3_1).toList)) = true) then (spec_ascending.l0 k1 l0 (wrap64 (x3_1 + 1))) else (some false)) else (none)) else (none)) = some r := (zz15 hji4)
    have hji4w : (IntKind.i64.wrap (x3_1 - 1)) = ji4 := (i64_w _).trans hji4
    obtain ⟨c5b0, H⟩ := it_ H
    obtain ⟨c6b0, H⟩ := it_ H
    rcases ie_ H with ⟨c7, H⟩ | ⟨c7, H⟩
    ·have c7b0 : (Op.bytesLess ((rdOf ByteArray.empty l0 (ji4)).toList) ((rdOf ByteArray.empty l0 x3_1).toList)) = true := c7
     obtain ⟨c7l1, c7l2⟩ := spec_ascending.less_f ((rdOf ByteArray.empty l0 x3_1).toList) ((rdOf ByteArray.empty l0 (ji4)).toList) c7b0
     clear c7; have H' := zA H; clear H
     have p344 : 0 ≤ (x3_1 : Int) := dz_
     have q344 : x3_1 < (l0.length : Int) := dz_
     obtain ⟨ad344, e344, hx344_0⟩ := Kd.at_string HR0.out x3_1 p344 q344
     cases e344
     replace p344 := eq_true p344
     replace q344 := eq_true q344
     have p345 : 0 ≤ ((ji4) : Int) := dz_
     have q345 : (ji4) < (l0.length : Int) := dz_
     obtain ⟨ad345, e345, hx345_0⟩ := Kd.at_string HR0.out (ji4) p345 q345
     obtain rfl : ad344 = ad345 := (by injection e345)
     replace p345 := eq_true p345
     replace q345 := eq_true q345
     go_wp2
     repeat (go_quiet (fail); try go_wp2)
     go_roundg k1
     case measure => have := HK1.out; omega
     case rel => exact ⟨(wrap64 (x3_1 + 1)), zz9, H', ⟨by have := HK1.out; omega⟩, zz19⟩
    ·have c7b0 : (Op.bytesLess ((rdOf ByteArray.empty l0 (ji4)).toList) ((rdOf ByteArray.empty l0 x3_1).toList)) = false := by simpa using c7
     have c7l1 := spec_ascending.less_t ((rdOf ByteArray.empty l0 x3_1).toList) ((rdOf ByteArray.empty l0 (ji4)).toList) c7b0; clear c7
     obtain rfl := Option.some.inj H
     have p344 : 0 ≤ (x3_1 : Int) := dz_
     have q344 : x3_1 < (l0.length : Int) := dz_
     obtain ⟨ad344, e344, hx344_0⟩ := Kd.at_string HR0.out x3_1 p344 q344
     cases e344
     replace p344 := eq_true p344
     replace q344 := eq_true q344
     have p345 : 0 ≤ ((ji4) : Int) := dz_
     have q345 : (ji4) < (l0.length : Int) := dz_
     obtain ⟨ad345, e345, hx345_0⟩ := Kd.at_string HR0.out (ji4) p345 q345
     obtain rfl : ad344 = ad345 := (by injection e345)
     replace p345 := eq_true p345
     replace q345 := eq_true q345
     go_wp2
     repeat (go_quiet (fail); try go_wp2)
     go_ret
     exact ⟨by first | rfl | (simp; done) | (simp only [← hji4] <;> (first | rfl | simp)) | (simp [*]; done), zz19⟩
   ·obtain rfl := Option.some.inj H
    go_wp2
    repeat (go_quiet (fail); try go_wp2)
    go_ret
    exact ⟨zz9, zz19⟩

/-! ### spec_validTest: function 130 -/
def spec_validTest.f (k : Nat) (a0_0 : ByteArray) (a0_1 : ByteArray) (l0_2 : List ByteArray) (l0_3 : List ByteArray) : Option (Bool) := (spec_validName.f k a0_0).bind fun t347 => (if t347 = true then ((spec_validName.f k a0_1).bind fun t348 => (if t348 = true then ((spec_validNames.f k l0_2 3).bind fun t349 => (if t349 = true then ((spec_ascending.f k l0_2).bind fun t350 => (if t350 = true then ((spec_validNames.f k l0_3 4).bind fun t351 => (some t351)) else (some false))) else (some false))) else (some false))) else (some false))
theorem spec_validTest.mono : ∀ a0 a1 a2 a3 k, LeO (spec_validTest.f k a0 a1 a2 a3) (spec_validTest.f (k + 1) a0 a1 a2 a3) := by
 intro a0 a1 a2 a3 k
 unfold spec_validTest.f
 repeat' first | (with_reducible first | exact spec_ascending.mono _ _ | exact spec_validName.mono _ _ | exact spec_validNames.mono _ _ _ | exact le1_ | exact le2_ | apply LeO.ite | refine LeO.bind ?_ fun _ => ?_) | apply LeO.ite | refine LeO.bind ?_ fun _ => ?_
set_option maxHeartbeats 8000000 in
set_option maxRecDepth 100000 in
theorem spec_validTest.calls (k : Nat) (a0_0 : ByteArray) (a0_1 : ByteArray) (A0_2 : Option Addr) (c0_2 : Nat) (l0_2 : List ByteArray) (A0_3 : Option Addr) (c0_3 : Nat) (l0_3 : List ByteArray) (r : Bool) (w : World) (hr0_2 : Kd.C Kd.string w A0_2 l0_2.length l0_2) (hc0_2 : l0_2.length ≤ c0_2) (hr0_3 : Kd.C Kd.string w A0_3 l0_3.length l0_3) (hc0_3 : l0_3.length ≤ c0_3) (h : spec_validTest.f k a0_0 a0_1 l0_2 l0_3 = some r) :
  Calls Try.prog 130 #[.agg #[.string a0_0, .string a0_1, .slice A0_2 l0_2.length c0_2, .slice A0_3 l0_3.length c0_3]] w fun e w' => e = .returned (.bool r) ∧ Below w.heap.size w w' := by
 have hu137 := Try.underlying137; have HR0_2 := zA hr0_2; have HC0_2 := zA hc0_2; clear hr0_2 hc0_2; have HR0_3 := zA hr0_3; have HC0_3 := zA hc0_3; clear hr0_3 hc0_3; have HB := zA zz2
 have H : ((spec_validName.f k a0_0).bind fun t347 => (if t347 = true then ((spec_validName.f k a0_1).bind fun t348 => (if t348 = true then ((spec_validNames.f k l0_2 3).bind fun t349 => (if t349 = true then ((spec_ascending.f k l0_2).bind fun t350 => (if t350 = true then ((spec_validNames.f k l0_3 4).bind fun t351 => (some t351)) else (some false))) else (some false))) else (some false))) else (some false))) = some r := h
 clear h
 obtain ⟨t347, A2, H⟩ := bs_ H
 (try dsimp only at H)
 by_cases c3 : t347 = true
 ·subst c3
  have H1 : ((spec_validName.f k a0_1).bind fun t348 => (if t348 = true then ((spec_validNames.f k l0_2 3).bind fun t349 => (if t349 = true then ((spec_ascending.f k l0_2).bind fun t350 => (if t350 = true then ((spec_validNames.f k l0_3 4).bind fun t351 => (some t351)) else (some false))) else (some false))) else (some false))) = some r := by rw [if_pos rfl] at H; exact H
  clear H; have H := H1; clear H1
  obtain ⟨t348, A4, H⟩ := bs_ H
  (try dsimp only at H)
  by_cases c5 : t348 = true
  ·subst c5
   have H1 : ((spec_validNames.f k l0_2 3).bind fun t349 => (if t349 = true then ((spec_ascending.f k l0_2).bind fun t350 => (if t350 = true then ((spec_validNames.f k l0_3 4).bind fun t351 => (some t351)) else (some false))) else (some false))) = some r := by rw [if_pos rfl] at H; exact H
   clear H; have H := H1; clear H1
   obtain ⟨t349, A6, H⟩ := bs_ H
   (try dsimp only at H)
   by_cases c7 : t349 = true
   ·subst c7
    have H1 : ((spec_ascending.f k l0_2).bind fun t350 => (if t350 = true then ((spec_validNames.f k l0_3 4).bind fun t351 => (some t351)) else (some false))) = some r := by rw [if_pos rfl] at H; exact H
    clear H; have H := H1; clear H1
    obtain ⟨t350, A8, H⟩ := bs_ H
    (try dsimp only at H)
    by_cases c9 : t350 = true
    ·subst c9
     have H1 : ((spec_validNames.f k l0_3 4).bind fun t351 => (some t351)) = some r := by rw [if_pos rfl] at H; exact H
     clear H; have H := H1; clear H1
     obtain ⟨t351, A10, H⟩ := bs_ H
     (try dsimp only at H)
     obtain rfl := Option.some.inj H
     go_enter Try.func130, Try.ntmps130
     go_wp2_with (first | ((with_reducible refine gate_dst (N := 1) rfl ?_); refine bx_ 1 #[.string a0_0, .string a0_1, .slice A0_2 l0_2.length c0_2, .slice A0_3 l0_3.length c0_3] 137 ?_; intro gb346 hg w11 hbox hb; have BK346 := zA (hbox); have GW346 := zA ((zz38 : w.heap.size ≤ gb346)); have GE346 := zA ((zz38 : w.heap.size ≤ gb346)); replace HB := zA zz4; clear hb hbox hg; obtain ⟨hcz12_0, hcz12_1, hcz12_2, hcz12_3, hfz12_0, hfz12_1, hfz12_2, hfz12_3⟩ := bk4_ BK346.out) | ((with_reducible refine gate_callee (f := 89) rfl ?_); refine goesL_ (some 5) rfl rfl Try.func89 (by kernel_rfl) rfl #[.string a0_0] rfl zz17 ?_; (with_reducible refine (spec_validName.calls k a0_0 true _ A2.out).mono ?_); rintro e w' ⟨rfl, ⟨nd, rfl⟩⟩; refine ⟨_, rfl, ?_⟩) | (go_at_call 89; (with_reducible refine (spec_validName.calls k a0_1 true _ A4.out).mono ?_); rintro e w' ⟨rfl, ⟨nd, rfl⟩⟩) | (go_at_call 122; (with_reducible refine (spec_validNames.calls k _ _ l0_2 3 true _ ?side1 ?side2 A6.out).mono ?_); (case side1 => exact (zz136 HR0_2.out GE346.out)); (case side2 => exact HC0_2.out); rintro e w' ⟨rfl, ⟨nd, rfl⟩⟩) | (go_at_call 133; (with_reducible refine (spec_ascending.calls k _ _ l0_2 true _ ?side1 ?side2 A8.out).mono ?_); (case side1 => exact (zz136 HR0_2.out GE346.out)); (case side2 => exact HC0_2.out); rintro e w' ⟨rfl, ⟨nd, rfl⟩⟩) | (go_at_call 122; (with_reducible refine (spec_validNames.calls k _ _ l0_3 4 t351 _ ?side1 ?side2 A10.out).mono ?_); (case side1 => exact (zz136 HR0_3.out GE346.out)); (case side2 => exact HC0_3.out); rintro e w' ⟨rfl, ⟨nd, rfl⟩⟩))
     go_ret
     exact ⟨zz14, (zz7 GE346.out)⟩
    ·replace c9 := Bool.eq_false_iff.mpr c9
     subst c9
     have H1 : (some false) = some r := by rw [if_neg (show ¬ (false = true) by decide)] at H; exact H
     clear H; have H := H1; clear H1
     obtain rfl := Option.some.inj H
     go_enter Try.func130, Try.ntmps130
     go_wp2_with (first | ((with_reducible refine gate_dst (N := 1) rfl ?_); refine bx_ 1 #[.string a0_0, .string a0_1, .slice A0_2 l0_2.length c0_2, .slice A0_3 l0_3.length c0_3] 137 ?_; intro gb346 hg w13 hbox hb; have BK346 := zA (hbox); have GW346 := zA ((zz38 : w.heap.size ≤ gb346)); have GE346 := zA ((zz38 : w.heap.size ≤ gb346)); replace HB := zA zz4; clear hb hbox hg; obtain ⟨hcz14_0, hcz14_1, hcz14_2, hcz14_3, hfz14_0, hfz14_1, hfz14_2, hfz14_3⟩ := bk4_ BK346.out) | ((with_reducible refine gate_callee (f := 89) rfl ?_); refine goesL_ (some 5) rfl rfl Try.func89 (by kernel_rfl) rfl #[.string a0_0] rfl zz17 ?_; (with_reducible refine (spec_validName.calls k a0_0 true _ A2.out).mono ?_); rintro e w' ⟨rfl, ⟨nd, rfl⟩⟩; refine ⟨_, rfl, ?_⟩) | (go_at_call 89; (with_reducible refine (spec_validName.calls k a0_1 true _ A4.out).mono ?_); rintro e w' ⟨rfl, ⟨nd, rfl⟩⟩) | (go_at_call 122; (with_reducible refine (spec_validNames.calls k _ _ l0_2 3 true _ ?side1 ?side2 A6.out).mono ?_); (case side1 => exact (zz136 HR0_2.out GE346.out)); (case side2 => exact HC0_2.out); rintro e w' ⟨rfl, ⟨nd, rfl⟩⟩) | (go_at_call 133; (with_reducible refine (spec_ascending.calls k _ _ l0_2 false _ ?side1 ?side2 A8.out).mono ?_); (case side1 => exact (zz136 HR0_2.out GE346.out)); (case side2 => exact HC0_2.out); rintro e w' ⟨rfl, ⟨nd, rfl⟩⟩))
     go_ret
     exact ⟨zz14, (zz7 GE346.out)⟩
   ·replace c7 := Bool.eq_false_iff.mpr c7
    subst c7
    have H1 : (some false) = some r := by rw [if_neg (show ¬ (false = true) by decide)] at H; exact H
    clear H; have H := H1; clear H1
    obtain rfl := Option.some.inj H
    go_enter Try.func130, Try.ntmps130
    go_wp2_with (first | ((with_reducible refine gate_dst (N := 1) rfl ?_); refine bx_ 1 #[.string a0_0, .string a0_1, .slice A0_2 l0_2.length c0_2, .slice A0_3 l0_3.length c0_3] 137 ?_; intro gb346 hg w15 hbox hb; have BK346 := zA (hbox); have GW346 := zA ((zz38 : w.heap.size ≤ gb346)); have GE346 := zA ((zz38 : w.heap.size ≤ gb346)); replace HB := zA zz4; clear hb hbox hg; obtain ⟨hcz16_0, hcz16_1, hcz16_2, hcz16_3, hfz16_0, hfz16_1, hfz16_2, hfz16_3⟩ := bk4_ BK346.out) | ((with_reducible refine gate_callee (f := 89) rfl ?_); refine goesL_ (some 5) rfl rfl Try.func89 (by kernel_rfl) rfl #[.string a0_0] rfl zz17 ?_; (with_reducible refine (spec_validName.calls k a0_0 true _ A2.out).mono ?_); rintro e w' ⟨rfl, ⟨nd, rfl⟩⟩; refine ⟨_, rfl, ?_⟩) | (go_at_call 89; (with_reducible refine (spec_validName.calls k a0_1 true _ A4.out).mono ?_); rintro e w' ⟨rfl, ⟨nd, rfl⟩⟩) | (go_at_call 122; (with_reducible refine (spec_validNames.calls k _ _ l0_2 3 false _ ?side1 ?side2 A6.out).mono ?_); (case side1 => exact (zz136 HR0_2.out GE346.out)); (case side2 => exact HC0_2.out); rintro e w' ⟨rfl, ⟨nd, rfl⟩⟩))
    go_ret
    exact ⟨zz14, (zz7 GE346.out)⟩
  ·replace c5 := Bool.eq_false_iff.mpr c5
   subst c5
   have H1 : (some false) = some r := by rw [if_neg (show ¬ (false = true) by decide)] at H; exact H
   clear H; have H := H1; clear H1
   obtain rfl := Option.some.inj H
   go_enter Try.func130, Try.ntmps130
   go_wp2_with (first | ((with_reducible refine gate_dst (N := 1) rfl ?_); refine bx_ 1 #[.string a0_0, .string a0_1, .slice A0_2 l0_2.length c0_2, .slice A0_3 l0_3.length c0_3] 137 ?_; intro gb346 hg w17 hbox hb; have BK346 := zA (hbox); have GW346 := zA ((zz38 : w.heap.size ≤ gb346)); have GE346 := zA ((zz38 : w.heap.size ≤ gb346)); replace HB := zA zz4; clear hb hbox hg; obtain ⟨hcz18_0, hcz18_1, hcz18_2, hcz18_3, hfz18_0, hfz18_1, hfz18_2, hfz18_3⟩ := bk4_ BK346.out) | ((with_reducible refine gate_callee (f := 89) rfl ?_); refine goesL_ (some 5) rfl rfl Try.func89 (by kernel_rfl) rfl #[.string a0_0] rfl zz17 ?_; (with_reducible refine (spec_validName.calls k a0_0 true _ A2.out).mono ?_); rintro e w' ⟨rfl, ⟨nd, rfl⟩⟩; refine ⟨_, rfl, ?_⟩) | (go_at_call 89; (with_reducible refine (spec_validName.calls k a0_1 false _ A4.out).mono ?_); rintro e w' ⟨rfl, ⟨nd, rfl⟩⟩))
   go_ret
   exact ⟨zz14, (zz7 GE346.out)⟩
 ·replace c3 := Bool.eq_false_iff.mpr c3
  subst c3
  have H1 : (some false) = some r := by rw [if_neg (show ¬ (false = true) by decide)] at H; exact H
  clear H; have H := H1; clear H1
  obtain rfl := Option.some.inj H
  go_enter Try.func130, Try.ntmps130
  go_wp2_with (first | ((with_reducible refine gate_dst (N := 1) rfl ?_); refine bx_ 1 #[.string a0_0, .string a0_1, .slice A0_2 l0_2.length c0_2, .slice A0_3 l0_3.length c0_3] 137 ?_; intro gb346 hg w19 hbox hb; have BK346 := zA (hbox); have GW346 := zA ((zz38 : w.heap.size ≤ gb346)); have GE346 := zA ((zz38 : w.heap.size ≤ gb346)); replace HB := zA zz4; clear hb hbox hg; obtain ⟨hcz20_0, hcz20_1, hcz20_2, hcz20_3, hfz20_0, hfz20_1, hfz20_2, hfz20_3⟩ := bk4_ BK346.out) | ((with_reducible refine gate_callee (f := 89) rfl ?_); refine goesL_ (some 5) rfl rfl Try.func89 (by kernel_rfl) rfl #[.string a0_0] rfl zz17 ?_; (with_reducible refine (spec_validName.calls k a0_0 false _ A2.out).mono ?_); rintro e w' ⟨rfl, ⟨nd, rfl⟩⟩; refine ⟨_, rfl, ?_⟩))
  go_ret
  exact ⟨zz14, (zz7 GE346.out)⟩

end Go.Proofs.Ytieghkchhjailaa.S
