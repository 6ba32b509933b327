-- WRITTEN by wip/ext.py
import Derived.Test.YtieghkchhjailaaSx0
import Derived.Test.YtieghkchhjailaaSx1
import Derived.Test.YtieghkchhjailaaSx2
import Derived.Test.YtieghkchhjailaaSx9
import Derived.Test.YtieghkchhjailaaSx12
namespace Go.Proofs.Ytieghkchhjailaa.S
open Go.RowKit Go.Proofs.YtieghkchhjailaaW.PrintWords Go.Proofs.YtieghkchhjailaaW.PrintLast Go.Proofs.YtieghkchhjailaaW.PrintMore
attribute [local go_sem] max2_int min2_int max_two min_two max_three min_three max_four min_four   -- for this text's walks alone
set_option linter.unusedVariables false
set_option linter.unusedSimpArgs false

/-! ### spec_validSuite: function 102 -/
def spec_validSuite.f (k : Nat) (l0_0 : List (S133)) (l0_1 : List (S137)) : Option (Bool) := (spec_wellFormed.f k l0_0 l0_1).bind fun t455 => (if t455 = true then ((spec_problems.f k l0_0 l0_1).bind fun t456 => (some ((t456.length : Int) == 0))) else (some false))
theorem spec_validSuite.mono : ∀ a0 a1 k, LeO (spec_validSuite.f k a0 a1) (spec_validSuite.f (k + 1) a0 a1) := by
 intro a0 a1 k
 unfold spec_validSuite.f
 repeat' first | (with_reducible first | exact spec_problems.mono _ _ _ | exact spec_wellFormed.mono _ _ _ | exact le1_ | exact le2_ | apply LeO.ite | refine LeO.bind ?_ fun _ => ?_) | apply LeO.ite | refine LeO.bind ?_ fun _ => ?_
set_option maxHeartbeats 8000000 in
set_option maxRecDepth 100000 in
theorem spec_validSuite.calls (k : Nat) (A0_0 : Option Addr) (c0_0 : Nat) (l0_0 : List (S133)) (A0_1 : Option Addr) (c0_1 : Nat) (l0_1 : List (S137)) (r : Bool) (w : World) (hr0_0 : Kd.C k133 w A0_0 l0_0.length l0_0) (hc0_0 : l0_0.length ≤ c0_0) (hr0_1 : Kd.C k137 w A0_1 l0_1.length l0_1) (hc0_1 : l0_1.length ≤ c0_1) (h : spec_validSuite.f k l0_0 l0_1 = some r) :
  Calls Try.prog 102 #[.agg #[.slice A0_0 l0_0.length c0_0, .slice A0_1 l0_1.length c0_1]] w fun e w' => e = .returned (.bool r) ∧ Below w.heap.size w w' := by
 have hu108 := Try.underlying108; have HR0_0 := zA hr0_0; have HC0_0 := zA hc0_0; clear hr0_0 hc0_0; have HR0_1 := zA hr0_1; have HC0_1 := zA hc0_1; clear hr0_1 hc0_1; have HB := zA zz2
 have H : ((spec_wellFormed.f k l0_0 l0_1).bind fun t455 => (if t455 = true then ((spec_problems.f k l0_0 l0_1).bind fun t456 => (some ((t456.length : Int) == 0))) else (some false))) = some r := h
 clear h
 obtain ⟨t455, A2, H⟩ := bs_ H
 (try dsimp only at H)
 by_cases c3 : t455 = true
 ·subst c3
  have H1 : ((spec_problems.f k l0_0 l0_1).bind fun t456 => (some ((t456.length : Int) == 0))) = some r := by rw [if_pos rfl] at H; exact H
  clear H; have H := H1; clear H1
  obtain ⟨t456, A4, H⟩ := bs_ H
  (try dsimp only at H)
  obtain rfl := Option.some.inj H
  go_enter Try.func102, Try.ntmps102
  go_wp2_with (first | ((with_reducible refine gate_dst (N := 1) rfl ?_); (try (refine gate_guard (by rfl) ?_; dsimp only)); refine bx_ 1 #[.slice A0_0 l0_0.length c0_0, .slice A0_1 l0_1.length c0_1] 108 ?_; intro gb454 hg w5 hbox hb; have BK454 := zA (hbox); have GW454 := zA ((zz38 : w.heap.size ≤ gb454)); have GE454 := zA ((zz38 : w.heap.size ≤ gb454)); replace HB := zA zz4; clear hb hbox hg; obtain ⟨hcz6_0, hcz6_1, hfz6_0, hfz6_1⟩ := bk2_ BK454.out) | ((with_reducible refine gate_callee (f := 108) rfl ?_); refine goesL_ (some 4) rfl rfl Try.func108 (by kernel_rfl) rfl #[.agg #[.slice A0_0 l0_0.length c0_0, .slice A0_1 l0_1.length c0_1]] rfl zz17 ?_; (with_reducible refine (spec_wellFormed.calls k _ _ l0_0 _ _ l0_1 true _ ?side1 ?side2 ?side3 ?side4 A2.out).mono ?_); (case side1 => exact (zz62 HR0_0.out)); (case side2 => exact HC0_0.out); (case side3 => exact (zz62 HR0_1.out)); (case side4 => exact HC0_1.out); rintro e w7 ⟨rfl, hb⟩; refine ⟨_, rfl, ?_⟩; replace BK454 := zA (blk_below (g := gb454) (o := .cells #[.slice A0_0 l0_0.length c0_0, .slice A0_1 l0_1.length c0_1] 108 (0, 0)) (zz6 BK454.out) hb); replace HB := zA (zz138 GE454.out); (try clear hb); obtain ⟨hcz8_0, hcz8_1, hfz8_0, hfz8_1⟩ := bk2_ BK454.out) | (go_at_call 109; (with_reducible refine (spec_problems.calls k _ _ l0_0 _ _ l0_1 t456 _ ?side1 ?side2 ?side3 ?side4 A4.out).mono ?_); (case side1 => exact (zz62 HR0_0.out)); (case side2 => exact HC0_0.out); (case side3 => exact (zz62 HR0_1.out)); (case side4 => exact HC0_1.out); rintro e w9 ⟨v457, rfl, ho0, hb⟩; have HO458 := zA (zz160 ho0 GE454.out); replace BK454 := zA (blk_below (g := gb454) (o := .cells #[.slice A0_0 l0_0.length c0_0, .slice A0_1 l0_1.length c0_1] 108 (0, 0)) (zz6 BK454.out) hb); replace HB := zA (zz138 GE454.out); (try clear hb); (try clear ho0); obtain ⟨Ao10, co10, eo10⟩ := Kd.R_slice HO458.out; subst eo10))
  go_ret
  exact ⟨zz14, (zz7 GE454.out)⟩
 ·replace c3 := Bool.eq_false_iff.mpr c3
  subst c3
  have H1 : (some false) = some r := by rw [if_neg (show ¬ (false = true) by decide)] at H; exact H
  clear H; have H := H1; clear H1
  obtain rfl := Option.some.inj H
  go_enter Try.func102, Try.ntmps102
  go_wp2_with (first | ((with_reducible refine gate_dst (N := 1) rfl ?_); (try (refine gate_guard (by rfl) ?_; dsimp only)); refine bx_ 1 #[.slice A0_0 l0_0.length c0_0, .slice A0_1 l0_1.length c0_1] 108 ?_; intro gb454 hg w11 hbox hb; have BK454 := zA (hbox); have GW454 := zA ((zz38 : w.heap.size ≤ gb454)); have GE454 := zA ((zz38 : w.heap.size ≤ gb454)); replace HB := zA zz4; clear hb hbox hg; obtain ⟨hcz12_0, hcz12_1, hfz12_0, hfz12_1⟩ := bk2_ BK454.out) | ((with_reducible refine gate_callee (f := 108) rfl ?_); refine goesL_ (some 4) rfl rfl Try.func108 (by kernel_rfl) rfl #[.agg #[.slice A0_0 l0_0.length c0_0, .slice A0_1 l0_1.length c0_1]] rfl zz17 ?_; (with_reducible refine (spec_wellFormed.calls k _ _ l0_0 _ _ l0_1 false _ ?side1 ?side2 ?side3 ?side4 A2.out).mono ?_); (case side1 => exact (zz62 HR0_0.out)); (case side2 => exact HC0_0.out); (case side3 => exact (zz62 HR0_1.out)); (case side4 => exact HC0_1.out); rintro e w13 ⟨rfl, hb⟩; refine ⟨_, rfl, ?_⟩; replace BK454 := zA (blk_below (g := gb454) (o := .cells #[.slice A0_0 l0_0.length c0_0, .slice A0_1 l0_1.length c0_1] 108 (0, 0)) (zz6 BK454.out) hb); replace HB := zA (zz138 GE454.out); (try clear hb)))
  go_ret
  exact ⟨zz14, (zz7 GE454.out)⟩

/-! ### spec_liveScope: function 110 -/
def spec_liveScope.l0 : Nat → List ByteArray → Int → List ByteArray → Int → List (S133) → List (S137) → Option (List ByteArray)
 | 0, _, _, _, _, _, _ => none
 | k + 1, x1, x2, x7, x8, x460000, x460001 => if x8 < (x1.length : Int) then (if 0 ≤ x8 then ((spec_fixtureAt.f k x460000 (rdOf ByteArray.empty x1 x8)).bind fun t464 => (if 0 ≤ t464 then (if t464 < (x460000.length : Int) then (if ((rd_T133 x460000 t464).f1) = x2 then (if x7.length < 8796093022208 then (spec_liveScope.l0 k x1 x2 (x7 ++ [rdOf ByteArray.empty x1 x8]) (wrap64 (x8 + 1)) x460000 x460001) else (none)) else (spec_liveScope.l0 k x1 x2 x7 (wrap64 (x8 + 1)) x460000 x460001)) else (none)) else (none))) else (none)) else (some x7)
def spec_liveScope.f (k : Nat) (l0_0 : List (S133)) (l0_1 : List (S137)) (l1 : List ByteArray) (a2 : Int) : Option (List ByteArray) := spec_liveScope.l0 k l1 a2 (([] : List ByteArray)) 0 l0_0 l0_1
theorem spec_liveScope.mono_l : ∀ k, (∀ y0 y1 y2 y3 y4 y5, LeO (spec_liveScope.l0 k y0 y1 y2 y3 y4 y5) (spec_liveScope.l0 (k + 1) y0 y1 y2 y3 y4 y5))
 | 0 => fun _ _ _ _ _ _ r h => by simp [spec_liveScope.l0] at h
 | k + 1 => by
  have ih0 := spec_liveScope.mono_l k
  ·intro y0 y1 y2 y3 y4 y5
   unfold spec_liveScope.l0
   repeat' first | (with_reducible first | exact ih0 _ _ _ _ _ _ | exact spec_fixtureAt.mono _ _ _ | exact le1_ | exact le2_ | apply LeO.ite | refine LeO.bind ?_ fun _ => ?_) | apply LeO.ite | refine LeO.bind ?_ fun _ => ?_
theorem spec_liveScope.mono : ∀ a0 a1 a2 a3 k, LeO (spec_liveScope.f k a0 a1 a2 a3) (spec_liveScope.f (k + 1) a0 a1 a2 a3) := by
 intro a0 a1 a2 a3 k
 have ih0 := spec_liveScope.mono_l k
 unfold spec_liveScope.f
 repeat' first | (with_reducible first | exact ih0 _ _ _ _ _ _ | exact spec_fixtureAt.mono _ _ _ | exact le1_ | exact le2_ | apply LeO.ite | refine LeO.bind ?_ fun _ => ?_) | apply LeO.ite | refine LeO.bind ?_ fun _ => ?_
set_option maxHeartbeats 8000000 in
set_option maxRecDepth 100000 in
theorem spec_liveScope.calls (k : Nat) (A0_0 : Option Addr) (c0_0 : Nat) (l0_0 : List (S133)) (A0_1 : Option Addr) (c0_1 : Nat) (l0_1 : List (S137)) (A1 : Option Addr) (c1 : Nat) (l1 : List ByteArray) (a2 : Int) (r : List ByteArray) (w : World) (hr0_0 : Kd.C k133 w A0_0 l0_0.length l0_0) (hc0_0 : l0_0.length ≤ c0_0) (hr0_1 : Kd.C k137 w A0_1 l0_1.length l0_1) (hc0_1 : l0_1.length ≤ c0_1) (hr1 : Kd.C Kd.string w A1 l1.length l1) (hc1 : l1.length ≤ c1) (h : spec_liveScope.f k l0_0 l0_1 l1 a2 = some r) :
  Calls Try.prog 110 #[.agg #[.slice A0_0 l0_0.length c0_0, .slice A0_1 l0_1.length c0_1], .slice A1 l1.length c1, .int .i64 a2] w fun e w' => ∃ v0_ : Value, e = .returned (v0_) ∧ Kd.R Kd.string 9 w' w.heap.size (fun _ => True) v0_ r ∧ Below w.heap.size w w' := by
 have hu108 := Try.underlying108; have HR0_0 := zA hr0_0; have HC0_0 := zA hc0_0; clear hr0_0 hc0_0; have HR0_1 := zA hr0_1; have HC0_1 := zA hc0_1; clear hr0_1 hc0_1; have HR1 := zA hr1; have HC1 := zA hc1; clear hr1 hc1; have HB := zA zz2
 have H : (spec_liveScope.l0 k l1 a2 (([] : List ByteArray)) 0 l0_0 l0_1) = some r := h
 clear h
 obtain ⟨y460, hy460⟩ : ∃ y_ : List ByteArray, y_ = (([] : List ByteArray)) := ⟨_, rfl⟩
 replace H : (spec_liveScope.l0 k l1 a2 y460 0 l0_0 l0_1) = some r := (zz24 hy460)
 have Ny460 := zA hy460; clear hy460; have H' := zA H; clear H
 go_enter Try.func110, Try.ntmps110
 go_wp2_with (first | ((with_reducible refine gate_dst (N := 3) rfl ?_); refine bx_ 3 #[.slice A0_0 l0_0.length c0_0, .slice A0_1 l0_1.length c0_1] 108 ?_; intro gb459 hg w4 hbox hb; have BK459 := zA (hbox); have GW459 := zA ((zz38 : w.heap.size ≤ gb459)); have GE459 := zA ((zz38 : w.heap.size ≤ gb459)); replace HB := zA zz4; clear hb hbox hg) | ((with_reducible refine gate_dst (N := 9) rfl ?_); refine rl_ Kd.string 9 9 ?_; intro v461 w5 ho6 hb; replace ho6 := ny_ Ny460.out ho6; have HO462 := zA (zz160 ho6 GE459.out); replace BK459 := zA (blk_below (g := gb459) (o := .cells #[.slice A0_0 l0_0.length c0_0, .slice A0_1 l0_1.length c0_1] 108 (0, 0)) (zz6 BK459.out) hb); replace HB := zA (zz138 GE459.out); clear hb ho6))
 repeat (go_quiet (fail); try go_wp2_with (fail))
 go_loopg [7, 8] k (fun kq v7 v8 w' => ∃ (x7_1 : List ByteArray) (x8_1 : Int), v8 = .int .i64 x8_1 ∧ Aside0 (spec_liveScope.l0 kq l1 a2 x7_1 x8_1 l0_0 l0_1 = some r) ∧ Aside0 (kq ≤ k) ∧ Aside0 (Kd.R Kd.string 9 w' w.heap.size (fun _ => True) v7 x7_1) ∧ Aside0 (w'.heap[gb459]? = some (.cells #[(.slice A0_0 l0_0.length c0_0), (.slice A0_1 l0_1.length c0_1)] 108 (0, 0))) ∧ Aside0 (Below w.heap.size w w'))
 case atStart => exact ⟨(y460), (0), zz9, H', ⟨Nat.le_refl _⟩, ⟨(zz22 HO462.out)⟩, ⟨(zz6 BK459.out)⟩, ⟨(zz7 GE459.out)⟩⟩
 case round =>
  clear H'; try clear c1; try clear p2
  obtain ⟨x7_1, x8_1, rfl, HA, HK1, HO_7, BK459, HB⟩ := hrel
  cases gk with
  | zero => exact absurd HA.out (by simp [spec_liveScope.l0])
  | succ k1 =>
   have H := HA.out; clear HA
   simp only [spec_liveScope.l0] at H
   rcases iu_ H with ⟨c7b0, H⟩ | ⟨c7b0, H⟩
   ·obtain ⟨c8b0, H⟩ := it_ H
    obtain ⟨t464, A9, H⟩ := bs_ H
    (try dsimp only at H)
    obtain ⟨c10b0, H⟩ := it_ H
    obtain ⟨c11b0, H⟩ := it_ H
    rcases ie_ H with ⟨c12, H⟩ | ⟨c12, H⟩
    ·have c12b0 : (((rd_T133 l0_0 t464).f1) == a2) = true := beq_iff_eq.mpr c12
     have c12b1 : (((rd_T133 l0_0 t464).f1) != a2) = false := bne_eq_false_iff_eq.mpr c12
     clear c12
     obtain ⟨c13, H⟩ := in_ H
     have LMc13 := zA c13; clear c13
     obtain ⟨y467, hy467⟩ : ∃ y_ : List ByteArray, y_ = (x7_1 ++ [rdOf ByteArray.empty l1 x8_1]) := ⟨_, rfl⟩
     replace H : (spec_liveScope.l0 k1 l1 a2 y467 (wrap64 (x8_1 + 1)) l0_0 l0_1) = some r := (zz24 hy467)
     have Ny467 := zA hy467; clear hy467; have H' := zA H; clear H
     obtain ⟨hcz14_0, hcz14_1, hfz14_0, hfz14_1⟩ := bk2_ BK459.out
     have p463 : 0 ≤ (x8_1 : Int) := dz_
     have q463 : x8_1 < (l1.length : Int) := dz_
     obtain ⟨ad463, e463, hx463_0⟩ := Kd.at_string HR1.out x8_1 p463 q463
     cases e463
     replace hx463_0 := cup_ HB.out hx463_0
     replace p463 := eq_true p463
     replace q463 := eq_true q463
     go_wp2_with (fail)
     try (have p465 : 0 ≤ (t464 : Int) := dz_; have q465 : t464 < (l0_0.length : Int) := dz_; obtain ⟨ad465, A465_2, c465_2, e465, hx465_0, hx465_1, hx465_2, hx465_3, hl465_2, hi465_2⟩ := at_T133 HR0_0.out t464 p465 q465; cases e465; replace hx465_0 := cup_ HB.out hx465_0; replace hx465_1 := cup_ HB.out hx465_1; replace hx465_2 := cup_ HB.out hx465_2; replace hx465_3 := cup_ HB.out hx465_3; have HR465_2 := zA hi465_2; have HC465_2 := zA hl465_2; clear hi465_2 hl465_2; replace p465 := eq_true p465; replace q465 := eq_true q465; have p466 : 0 ≤ (x8_1 : Int) := dz_; have q466 : x8_1 < (l1.length : Int) := dz_; obtain ⟨ad466, e466, hx466_0⟩ := Kd.at_string HR1.out x8_1 p466 q466; obtain rfl : ad463 = ad466 := (by injection e466); replace hx466_0 := cup_ HB.out hx466_0; replace p466 := eq_true p466; replace q466 := eq_true q466)
     repeat (go_quiet ((go_at_call 120; (with_reducible refine (spec_fixtureAt.calls k1 _ _ l0_0 (rdOf ByteArray.empty l1 x8_1) t464 _ ?side1 ?side2 A9.out).mono ?_); (case side1 => exact (zz62 HR0_0.out)); (case side2 => exact HC0_0.out); rintro e w' ⟨rfl, ⟨nd, rfl⟩⟩; (try exact dr_))); try go_wp2_with (((with_reducible refine gate_builtin (b := .append) (xs := #[.tmp 30, .tmp 35]) rfl ?_); at_builtin; refine Kd.R_append Kd.string (w0 := w) w.heap.size rfl (.tmp 30) (.tmp 35) 31 9 (.string ⟨#[]⟩) 16 rfl Try.underlying31 info9 rfl (by decide) (by omega) u7 x7_1 (rdOf ByteArray.empty l1 x8_1) [.string (rdOf ByteArray.empty l1 x8_1)] (fun _ => True) (fun _ => False) rfl rfl ?aP (fun _ hk => hk.elim) ?aF ?aO ?aB ?aS ?aL ?_; (case aP => exact rfl); (case aB => exact (zz153 GE459.out)); (case aF => exact zz163); (case aO => exact (zz26 HO_7.out)); (case aS => exact (zz154 GE459.out)); (case aL => have := LMc13.out; omega); intro v468 w15 ho hb hg hat; rw [← Ny467.out] at ho; replace BK459 := zA (blk_grown (g := gb459) (o := .cells #[.slice (some ad465) l0_0.length c0_0, .slice A0_1 l0_1.length c0_1] 108 (0, 0)) (zz6 BK459.out) hg (Kd.R_ne HO_7.out BK459.out (by decide))); replace HB := zA (hb); have HO469 := zA (ho); clear HO_7; clear ho hb hg hat)))
     go_roundg k1
     case measure => have := HK1.out; omega
     case rel => exact ⟨(y467), (wrap64 (x8_1 + 1)), zz9, H', ⟨by have := HK1.out; omega⟩, ⟨(zz22 HO469.out)⟩, ⟨(zz6 BK459.out)⟩, ⟨(zz7 GE459.out)⟩⟩
    ·have c12b0 : (((rd_T133 l0_0 t464).f1) == a2) = false := beq_eq_false_iff_ne.mpr c12
     have c12b1 : (((rd_T133 l0_0 t464).f1) != a2) = true := bne_iff_ne.mpr c12
     have H' := zA H; clear H
     obtain ⟨hcz16_0, hcz16_1, hfz16_0, hfz16_1⟩ := bk2_ BK459.out
     have p463 : 0 ≤ (x8_1 : Int) := dz_
     have q463 : x8_1 < (l1.length : Int) := dz_
     obtain ⟨ad463, e463, hx463_0⟩ := Kd.at_string HR1.out x8_1 p463 q463
     cases e463
     replace hx463_0 := cup_ HB.out hx463_0
     replace p463 := eq_true p463
     replace q463 := eq_true q463
     go_wp2_with (fail)
     try (have p465 : 0 ≤ (t464 : Int) := dz_; have q465 : t464 < (l0_0.length : Int) := dz_; obtain ⟨ad465, A465_2, c465_2, e465, hx465_0, hx465_1, hx465_2, hx465_3, hl465_2, hi465_2⟩ := at_T133 HR0_0.out t464 p465 q465; cases e465; replace hx465_0 := cup_ HB.out hx465_0; replace hx465_1 := cup_ HB.out hx465_1; replace hx465_2 := cup_ HB.out hx465_2; replace hx465_3 := cup_ HB.out hx465_3; have HR465_2 := zA hi465_2; have HC465_2 := zA hl465_2; clear hi465_2 hl465_2; replace p465 := eq_true p465; replace q465 := eq_true q465)
     repeat (go_quiet ((go_at_call 120; (with_reducible refine (spec_fixtureAt.calls k1 _ _ l0_0 (rdOf ByteArray.empty l1 x8_1) t464 _ ?side1 ?side2 A9.out).mono ?_); (case side1 => exact (zz62 HR0_0.out)); (case side2 => exact HC0_0.out); rintro e w' ⟨rfl, ⟨nd, rfl⟩⟩; (try exact dr_))); try go_wp2_with (fail))
     go_roundg k1
     case measure => have := HK1.out; omega
     case rel => exact ⟨(x7_1), (wrap64 (x8_1 + 1)), zz9, H', ⟨by have := HK1.out; omega⟩, ⟨(zz22 HO_7.out)⟩, ⟨(zz6 BK459.out)⟩, ⟨(zz7 GE459.out)⟩⟩
   ·obtain rfl := Option.some.inj H
    go_wp2
    repeat (go_quiet (fail); try go_wp2)
    go_ret
    exact ⟨_, zz14, (zz22 HO_7.out), (zz7 GE459.out)⟩

/-! ### spec_downs: function 111 -/
def spec_downs.l0 : Nat → List ByteArray → List (S70) → Int → Option ((List (S70)))
 | 0, _, _, _ => none
 | k + 1, x0, x3, x4 => if x4 ≥ 0 then (if 0 ≤ x4 then (if x4 < (x0.length : Int) then (if x3.length < 5864062014805 then (spec_downs.l0 k x0 (x3 ++ [(⟨1, rdOf ByteArray.empty x0 x4⟩ : S70)]) (wrap64 (x4 - 1))) else (none)) else (none)) else (none)) else (some x3)
def spec_downs.f (k : Nat) (l0 : List ByteArray) : Option ((List (S70))) := spec_downs.l0 k l0 (([] : List (S70))) (wrap64 ((l0.length : Int) - 1))
theorem spec_downs.mono_l : ∀ k, (∀ y0 y1 y2, LeO (spec_downs.l0 k y0 y1 y2) (spec_downs.l0 (k + 1) y0 y1 y2))
 | 0 => fun _ _ _ r h => by simp [spec_downs.l0] at h
 | k + 1 => by
  have ih0 := spec_downs.mono_l k
  ·intro y0 y1 y2
   unfold spec_downs.l0
   repeat' first | (with_reducible first | exact ih0 _ _ _ | exact le1_ | exact le2_ | apply LeO.ite | refine LeO.bind ?_ fun _ => ?_) | apply LeO.ite | refine LeO.bind ?_ fun _ => ?_
theorem spec_downs.mono : ∀ a0 k, LeO (spec_downs.f k a0) (spec_downs.f (k + 1) a0) := by
 intro a0 k
 have ih0 := spec_downs.mono_l k
 unfold spec_downs.f
 repeat' first | (with_reducible first | exact ih0 _ _ _ | exact le1_ | exact le2_ | apply LeO.ite | refine LeO.bind ?_ fun _ => ?_) | apply LeO.ite | refine LeO.bind ?_ fun _ => ?_
set_option maxHeartbeats 8000000 in
set_option maxRecDepth 100000 in
theorem spec_downs.calls (k : Nat) (A0 : Option Addr) (c0 : Nat) (l0 : List ByteArray) (r : List (S70)) (w : World) (hr0 : Kd.C Kd.string w A0 l0.length l0) (hc0 : l0.length ≤ c0) (h : spec_downs.f k l0 = some r) :
  Calls Try.prog 111 #[.slice A0 l0.length c0] w fun e w' => ∃ v0_ : Value, e = .returned (v0_) ∧ Kd.R k70 70 w' w.heap.size (fun _ => True) v0_ r ∧ Below w.heap.size w w' := by
 have hu70 := Try.underlying70; have HR0 := zA hr0; have HC0 := zA hc0; clear hr0 hc0; have HB := zA zz2
 have H : (spec_downs.l0 k l0 (([] : List (S70))) (wrap64 ((l0.length : Int) - 1))) = some r := h
 clear h
 obtain ⟨y470, hy470⟩ : ∃ y_ : List (S70), y_ = (([] : List (S70))) := ⟨_, rfl⟩
 replace H : (spec_downs.l0 k l0 y470 (wrap64 ((l0.length : Int) - 1))) = some r := (zz24 hy470)
 have Ny470 := zA hy470; clear hy470; have H' := zA H; clear H
 go_enter Try.func111, Try.ntmps111
 go_wp2_with (((with_reducible refine gate_dst (N := 5) rfl ?_); refine rl_ k70 70 5 ?_; intro v471 w2 ho3 hb; replace ho3 := ny_ Ny470.out ho3; have HO472 := zA (zz39 ho3); replace HB := zA zz4; clear hb ho3))
 go_loopg [3, 4] k (fun kq v3 v4 w' => ∃ (x3_1 : List (S70)) (x4_1 : Int), v4 = .int .i64 x4_1 ∧ Aside0 (spec_downs.l0 kq l0 x3_1 x4_1 = some r) ∧ Aside0 (kq ≤ k) ∧ Aside0 (Kd.R k70 70 w' w.heap.size (fun _ => True) v3 x3_1) ∧ Aside0 (Below w.heap.size w w'))
 case atStart => exact ⟨(y470), (wrap64 ((l0.length : Int) - 1)), zz9, H', ⟨Nat.le_refl _⟩, ⟨(zz22 HO472.out)⟩, ⟨zz23⟩⟩
 case round =>
  clear H'; try clear c1; try clear p2
  obtain ⟨x3_1, x4_1, rfl, HA, HK1, HO_3, HB⟩ := hrel
  cases gk with
  | zero => exact absurd HA.out (by simp [spec_downs.l0])
  | succ k1 =>
   have H := HA.out; clear HA
   simp only [spec_downs.l0] at H
   rcases ie_ H with ⟨c4, H⟩ | ⟨c4, H⟩
   ·have c4b0 : decide (0 ≤ x4_1) = true := decide_eq_true c4
    clear c4
    obtain ⟨c5b0, H⟩ := it_ H
    obtain ⟨c6b0, H⟩ := it_ H
    obtain ⟨c7, H⟩ := in_ H
    have LMc7 := zA c7; clear c7
    obtain ⟨y474, hy474⟩ : ∃ y_ : List (S70), y_ = (x3_1 ++ [(⟨1, rdOf ByteArray.empty l0 x4_1⟩ : S70)]) := ⟨_, rfl⟩
    replace H : (spec_downs.l0 k1 l0 y474 (wrap64 (x4_1 - 1))) = some r := (zz24 hy474)
    have Ny474 := zA hy474; clear hy474; have H' := zA H; clear H
    have p473 : 0 ≤ (x4_1 : Int) := dz_
    have q473 : x4_1 < (l0.length : Int) := dz_
    obtain ⟨ad473, e473, hx473_0⟩ := Kd.at_string HR0.out x4_1 p473 q473
    cases e473
    replace hx473_0 := cup_ HB.out hx473_0
    replace p473 := eq_true p473
    replace q473 := eq_true q473
    go_wp2_with (((with_reducible refine gate_builtin (b := .append) (xs := #[.tmp 13, .tmp 19]) rfl ?_); at_builtin; refine Kd.R_append k70 (w0 := w) w.heap.size rfl (.tmp 13) (.tmp 19) 25 70 (.agg #[(.int .i64 0), (.string ⟨#[]⟩)]) 24 rfl Try.underlying25 info70 rfl (by decide) (by omega) u3 x3_1 (⟨1, rdOf ByteArray.empty l0 x4_1⟩ : S70) [.int .i64 1, .string (rdOf ByteArray.empty l0 x4_1)] (fun _ => True) (fun _ => False) rfl rfl ?aP (fun _ hk => hk.elim) ?aF ?aO ?aB ?aS ?aL ?_; (case aP => exact k70_mkM _ _ _ (⟨1, rdOf ByteArray.empty l0 x4_1⟩ : S70)); (case aB => exact zz25); (case aF => exact zz163); (case aO => exact (zz26 HO_3.out)); (case aS => exact zz27); (case aL => have := LMc7.out; omega); intro v475 w8 ho hb hg hat; rw [← Ny474.out] at ho; replace HB := zA (hb); have HO476 := zA (ho); clear HO_3; clear ho hb hg hat))
    go_roundg k1
    case measure => have := HK1.out; omega
    case rel => exact ⟨(y474), (wrap64 (x4_1 - 1)), zz9, H', ⟨by have := HK1.out; omega⟩, ⟨(zz22 HO476.out)⟩, ⟨zz23⟩⟩
   ·have c4b0 : decide (0 ≤ x4_1) = false := decide_eq_false c4
    clear c4
    obtain rfl := Option.some.inj H
    go_wp2
    go_ret
    exact ⟨_, zz14, (zz22 HO_3.out), zz23⟩

/-! ### spec_without: function 112 -/
def spec_without.l0 : Nat → List ByteArray → List ByteArray → List ByteArray → Int → Option (List ByteArray)
 | 0, _, _, _, _ => none
 | k + 1, x0, x1, x5, x6 => if x6 < (x0.length : Int) then (if 0 ≤ x6 then ((spec_hasText.f k x1 (rdOf ByteArray.empty x0 x6)).bind fun t481 => (if t481 = true then (spec_without.l0 k x0 x1 x5 (wrap64 (x6 + 1))) else (if x5.length < 8796093022208 then (spec_without.l0 k x0 x1 (x5 ++ [rdOf ByteArray.empty x0 x6]) (wrap64 (x6 + 1))) else (none)))) else (none)) else (some x5)
def spec_without.f (k : Nat) (l0 : List ByteArray) (l1 : List ByteArray) : Option (List ByteArray) := spec_without.l0 k l0 l1 (([] : List ByteArray)) 0
theorem spec_without.mono_l : ∀ k, (∀ y0 y1 y2 y3, LeO (spec_without.l0 k y0 y1 y2 y3) (spec_without.l0 (k + 1) y0 y1 y2 y3))
 | 0 => fun _ _ _ _ r h => by simp [spec_without.l0] at h
 | k + 1 => by
  have ih0 := spec_without.mono_l k
  ·intro y0 y1 y2 y3
   unfold spec_without.l0
   repeat' first | (with_reducible first | exact ih0 _ _ _ _ | exact spec_hasText.mono _ _ _ | exact le1_ | exact le2_ | apply LeO.ite | refine LeO.bind ?_ fun _ => ?_) | apply LeO.ite | refine LeO.bind ?_ fun _ => ?_
theorem spec_without.mono : ∀ a0 a1 k, LeO (spec_without.f k a0 a1) (spec_without.f (k + 1) a0 a1) := by
 intro a0 a1 k
 have ih0 := spec_without.mono_l k
 unfold spec_without.f
 repeat' first | (with_reducible first | exact ih0 _ _ _ _ | exact spec_hasText.mono _ _ _ | exact le1_ | exact le2_ | apply LeO.ite | refine LeO.bind ?_ fun _ => ?_) | apply LeO.ite | refine LeO.bind ?_ fun _ => ?_
set_option maxHeartbeats 8000000 in
set_option maxRecDepth 100000 in
theorem spec_without.calls (k : Nat) (A0 : Option Addr) (c0 : Nat) (l0 : List ByteArray) (A1 : Option Addr) (c1 : Nat) (l1 : List ByteArray) (r : List ByteArray) (w : World) (hr0 : Kd.C Kd.string w A0 l0.length l0) (hc0 : l0.length ≤ c0) (hr1 : Kd.C Kd.string w A1 l1.length l1) (hc1 : l1.length ≤ c1) (h : spec_without.f k l0 l1 = some r) :
  Calls Try.prog 112 #[.slice A0 l0.length c0, .slice A1 l1.length c1] w fun e w' => ∃ v0_ : Value, e = .returned (v0_) ∧ Kd.R Kd.string 9 w' w.heap.size (fun _ => True) v0_ r ∧ Below w.heap.size w w' := by
 have HR0 := zA hr0; have HC0 := zA hc0; clear hr0 hc0; have HR1 := zA hr1; have HC1 := zA hc1; clear hr1 hc1; have HB := zA zz2
 have H : (spec_without.l0 k l0 l1 (([] : List ByteArray)) 0) = some r := h
 clear h
 obtain ⟨y477, hy477⟩ : ∃ y_ : List ByteArray, y_ = (([] : List ByteArray)) := ⟨_, rfl⟩
 replace H : (spec_without.l0 k l0 l1 y477 0) = some r := (zz24 hy477)
 have Ny477 := zA hy477; clear hy477; have H' := zA H; clear H
 go_enter Try.func112, Try.ntmps112
 go_wp2_with (((with_reducible refine gate_dst (N := 7) rfl ?_); refine rl_ Kd.string 9 7 ?_; intro v478 w3 ho4 hb; replace ho4 := ny_ Ny477.out ho4; have HO479 := zA (zz39 ho4); replace HB := zA zz4; clear hb ho4))
 go_loopg [5, 6] k (fun kq v5 v6 w' => ∃ (x5_1 : List ByteArray) (x6_1 : Int), v6 = .int .i64 x6_1 ∧ Aside0 (spec_without.l0 kq l0 l1 x5_1 x6_1 = some r) ∧ Aside0 (kq ≤ k) ∧ Aside0 (Kd.R Kd.string 9 w' w.heap.size (fun _ => True) v5 x5_1) ∧ Aside0 (Below w.heap.size w w'))
 case atStart => exact ⟨(y477), (0), zz9, H', ⟨Nat.le_refl _⟩, ⟨(zz22 HO479.out)⟩, ⟨zz23⟩⟩
 case round =>
  clear H'; try clear c1; try clear p2
  obtain ⟨x5_1, x6_1, rfl, HA, HK1, HO_5, HB⟩ := hrel
  cases gk with
  | zero => exact absurd HA.out (by simp [spec_without.l0])
  | succ k1 =>
   have H := HA.out; clear HA
   simp only [spec_without.l0] at H
   rcases iu_ H with ⟨c5b0, H⟩ | ⟨c5b0, H⟩
   ·obtain ⟨c6b0, H⟩ := it_ H
    obtain ⟨t481, A7, H⟩ := bs_ H
    (try dsimp only at H)
    by_cases c8 : t481 = true
    ·subst c8
     have H1 : (spec_without.l0 k1 l0 l1 x5_1 (wrap64 (x6_1 + 1))) = some r := by rw [if_pos rfl] at H; exact H
     clear H; have H := H1; clear H1; have H' := zA H; clear H
     have p480 : 0 ≤ (x6_1 : Int) := dz_
     have q480 : x6_1 < (l0.length : Int) := dz_
     obtain ⟨ad480, e480, hx480_0⟩ := Kd.at_string HR0.out x6_1 p480 q480
     cases e480
     replace hx480_0 := cup_ HB.out hx480_0
     replace p480 := eq_true p480
     replace q480 := eq_true q480
     go_wp2_with (((with_reducible refine gate_callee (f := 92) rfl ?_); refine goesL_ (some 19) rfl rfl Try.func92 (by kernel_rfl) rfl #[.slice A1 l1.length c1, .string (rdOf ByteArray.empty l0 x6_1)] rfl zz17 ?_; (with_reducible refine (spec_hasText.calls k1 _ _ l1 (rdOf ByteArray.empty l0 x6_1) true _ ?side1 ?side2 A7.out).mono ?_); (case side1 => exact (zz62 HR1.out)); (case side2 => exact HC1.out); rintro e w' ⟨rfl, ⟨nd, rfl⟩⟩; refine ⟨_, rfl, ?_⟩))
     go_roundg k1
     case measure => have := HK1.out; omega
     case rel => exact ⟨(x5_1), (wrap64 (x6_1 + 1)), zz9, H', ⟨by have := HK1.out; omega⟩, ⟨(zz22 HO_5.out)⟩, ⟨zz23⟩⟩
    ·replace c8 := Bool.eq_false_iff.mpr c8
     subst c8
     have H1 : (if x5_1.length < 8796093022208 then (spec_without.l0 k1 l0 l1 (x5_1 ++ [rdOf ByteArray.empty l0 x6_1]) (wrap64 (x6_1 + 1))) else (none)) = some r := by rw [if_neg (show ¬ (false = true) by decide)] at H; exact H
     clear H; have H := H1; clear H1
     obtain ⟨c9, H⟩ := in_ H
     have LMc9 := zA c9; clear c9
     obtain ⟨y483, hy483⟩ : ∃ y_ : List ByteArray, y_ = (x5_1 ++ [rdOf ByteArray.empty l0 x6_1]) := ⟨_, rfl⟩
     replace H : (spec_without.l0 k1 l0 l1 y483 (wrap64 (x6_1 + 1))) = some r := (zz24 hy483)
     have Ny483 := zA hy483; clear hy483; have H' := zA H; clear H
     have p480 : 0 ≤ (x6_1 : Int) := dz_
     have q480 : x6_1 < (l0.length : Int) := dz_
     obtain ⟨ad480, e480, hx480_0⟩ := Kd.at_string HR0.out x6_1 p480 q480
     cases e480
     replace hx480_0 := cup_ HB.out hx480_0
     replace p480 := eq_true p480
     replace q480 := eq_true q480
     go_wp2_with (first | ((with_reducible refine gate_callee (f := 92) rfl ?_); refine goesL_ (some 19) rfl rfl Try.func92 (by kernel_rfl) rfl #[.slice A1 l1.length c1, .string (rdOf ByteArray.empty l0 x6_1)] rfl zz17 ?_; (with_reducible refine (spec_hasText.calls k1 _ _ l1 (rdOf ByteArray.empty l0 x6_1) false _ ?side1 ?side2 A7.out).mono ?_); (case side1 => exact (zz62 HR1.out)); (case side2 => exact HC1.out); rintro e w' ⟨rfl, ⟨nd, rfl⟩⟩; refine ⟨_, rfl, ?_⟩; have p482 : 0 ≤ (x6_1 : Int) := dz_; have q482 : x6_1 < (l0.length : Int) := dz_; obtain ⟨ad482, e482, hx482_0⟩ := Kd.at_string HR0.out x6_1 p482 q482; obtain rfl : ad480 = ad482 := (by injection e482); replace hx482_0 := cup_ HB.out hx482_0; replace p482 := eq_true p482; replace q482 := eq_true q482) | ((with_reducible refine gate_builtin (b := .append) (xs := #[.tmp 21, .tmp 26]) rfl ?_); at_builtin; refine Kd.R_append Kd.string (w0 := w) w.heap.size rfl (.tmp 21) (.tmp 26) 31 9 (.string ⟨#[]⟩) 16 rfl Try.underlying31 info9 rfl (by decide) (by omega) u5 x5_1 (rdOf ByteArray.empty l0 x6_1) [.string (rdOf ByteArray.empty l0 x6_1)] (fun _ => True) (fun _ => False) rfl rfl ?aP (fun _ hk => hk.elim) ?aF ?aO ?aB ?aS ?aL ?_; (case aP => exact rfl); (case aB => exact zz25); (case aF => exact zz163); (case aO => exact (zz26 HO_5.out)); (case aS => exact zz27); (case aL => have := LMc9.out; omega); intro v484 w10 ho hb hg hat; rw [← Ny483.out] at ho; replace HB := zA (hb); have HO485 := zA (ho); clear HO_5; clear ho hb hg hat))
     go_roundg k1
     case measure => have := HK1.out; omega
     case rel => exact ⟨(y483), (wrap64 (x6_1 + 1)), zz9, H', ⟨by have := HK1.out; omega⟩, ⟨(zz22 HO485.out)⟩, ⟨zz23⟩⟩
   ·obtain rfl := Option.some.inj H
    go_wp2
    go_ret
    exact ⟨_, zz14, (zz22 HO_5.out), zz23⟩

end Go.Proofs.Ytieghkchhjailaa.S
