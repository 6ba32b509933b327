-- WRITTEN by wip/ext.py
import Derived.Test.YtieghkchhjailaaSx0
import Derived.Test.YtieghkchhjailaaSx1
import Derived.Test.YtieghkchhjailaaSx2
import Derived.Test.YtieghkchhjailaaSx13
import Derived.Test.YtieghkchhjailaaSx14
namespace Go.Proofs.Ytieghkchhjailaa.S
open Go.RowKit Go.Proofs.YtieghkchhjailaaW.PrintWords Go.Proofs.YtieghkchhjailaaW.PrintLast Go.Proofs.YtieghkchhjailaaW.PrintMore
attribute [local go_sem] max2_int min2_int max_two min_two max_three min_three max_four min_four   -- for this text's walks alone
set_option linter.unusedVariables false
set_option linter.unusedSimpArgs false

/-! ### spec_planOf: function 103 -/
mutual
def spec_planOf.l0 : Nat → List (S70) → List ByteArray → Int → List (S133) → List (S137) → Option ((List (S70)))
 | 0, _, _, _, _, _ => none
 | k + 1, x3, x4, x5, x517000, x517001 => if x5 < (x517001.length : Int) then (if 0 ≤ x5 then (if x5 > 0 then (if 0 ≤ (wrap64 (x5 - 1)) then (if (wrap64 (x5 - 1)) < (x517001.length : Int) then (spec_planOf.j1 k x3 x4 x5 (((rd_T137 x517001 (wrap64 (x5 - 1))).f0).toList != ((rd_T137 x517001 x5).f0).toList) x517000 x517001 ((rd_T137 x517001 x5).f0) ((rd_T137 x517001 x5).f1) ((rd_T137 x517001 x5).f2) ((rd_T137 x517001 x5).f3)) else (none)) else (none)) else (spec_planOf.j1 k x3 x4 x5 false x517000 x517001 ((rd_T137 x517001 x5).f0) ((rd_T137 x517001 x5).f1) ((rd_T137 x517001 x5).f2) ((rd_T137 x517001 x5).f3))) else (none)) else ((spec_downs.f k x4).bind fun t523 => (if x3.length + t523.length < 5864062014805 then (some (x3 ++ t523)) else (none)))
def spec_planOf.j1 : Nat → List (S70) → List ByteArray → Int → Bool → List (S133) → List (S137) → ByteArray → ByteArray → List ByteArray → List ByteArray → Option ((List (S70)))
 | 0, _, _, _, _, _, _, _, _, _, _ => none
 | k + 1, x3, x4, x5, x38, x517000, x517001, x531000, x531001, x531002, x531003 => if x38 = true then ((spec_liveScope.f k x517000 x517001 x4 1).bind fun t532 => ((spec_downs.f k t532).bind fun t535 => (if x3.length + t535.length < 5864062014805 then ((spec_without.f k x4 t532).bind fun t541 => (spec_planOf.j2 k (x3 ++ t535) t541 x5 x517000 x517001 x531000 x531001 x531002 x531003)) else (none)))) else (spec_planOf.j2 k x3 x4 x5 x517000 x517001 x531000 x531001 x531002 x531003)
def spec_planOf.j2 : Nat → List (S70) → List ByteArray → Int → List (S133) → List (S137) → ByteArray → ByteArray → List ByteArray → List ByteArray → Option ((List (S70)))
 | 0, _, _, _, _, _, _, _, _, _ => none
 | k + 1, x3, x4, x5, x517000, x517001, x531000, x531001, x531002, x531003 => (spec_closure.f k x517000 x517001 x531000 x531001 x531002 x531003).bind fun t544 => (spec_planOf.l1 k x3 x4 x5 t544 0 x517000 x517001 x531000 x531001 x531002 x531003)
def spec_planOf.l1 : Nat → List (S70) → List ByteArray → Int → List ByteArray → Int → List (S133) → List (S137) → ByteArray → ByteArray → List ByteArray → List ByteArray → Option ((List (S70)))
 | 0, _, _, _, _, _, _, _, _, _, _, _ => none
 | k + 1, x3, x4, x5, x8, x9, x517000, x517001, x531000, x531001, x531002, x531003 => if x9 < (x8.length : Int) then (if 0 ≤ x9 then ((spec_hasText.f k x4 (rdOf ByteArray.empty x8 x9)).bind fun t548 => (if t548 = true then (spec_planOf.l1 k x3 x4 x5 x8 (wrap64 (x9 + 1)) x517000 x517001 x531000 x531001 x531002 x531003) else (if x4.length < 8796093022208 then (if x3.length < 5864062014805 then (spec_planOf.l1 k (x3 ++ [(⟨0, rdOf ByteArray.empty x8 x9⟩ : S70)]) (x4 ++ [rdOf ByteArray.empty x8 x9]) x5 x8 (wrap64 (x9 + 1)) x517000 x517001 x531000 x531001 x531002 x531003) else (none)) else (none)))) else (none)) else ((spec_idOf.f x531000 x531001 x531002 x531003).bind fun t557 => (if x3.length < 5864062014805 then ((some (x3 ++ [(⟨2, t557⟩ : S70)] : List (S70))).bind fun y558 => ((spec_liveScope.f k x517000 x517001 x4 0).bind fun t561 => ((spec_downs.f k t561).bind fun t564 => (if y558.length + t564.length < 5864062014805 then ((spec_without.f k x4 t561).bind fun t570 => (spec_planOf.l0 k (y558 ++ t564) t570 (wrap64 (x5 + 1)) x517000 x517001)) else (none))))) else (none)))
end
def spec_planOf.f (k : Nat) (l0_0 : List (S133)) (l0_1 : List (S137)) : Option ((List (S70))) := spec_planOf.l0 k (([] : List (S70))) (([] : List ByteArray)) 0 l0_0 l0_1
theorem spec_planOf.mono_l : ∀ k, (∀ y0 y1 y2 y3 y4, LeO (spec_planOf.l0 k y0 y1 y2 y3 y4) (spec_planOf.l0 (k + 1) y0 y1 y2 y3 y4)) ∧ (∀ y0 y1 y2 y3 y4 y5 y6 y7 y8 y9, LeO (spec_planOf.j1 k y0 y1 y2 y3 y4 y5 y6 y7 y8 y9) (spec_planOf.j1 (k + 1) y0 y1 y2 y3 y4 y5 y6 y7 y8 y9)) ∧ (∀ y0 y1 y2 y3 y4 y5 y6 y7 y8, LeO (spec_planOf.j2 k y0 y1 y2 y3 y4 y5 y6 y7 y8) (spec_planOf.j2 (k + 1) y0 y1 y2 y3 y4 y5 y6 y7 y8)) ∧ (∀ y0 y1 y2 y3 y4 y5 y6 y7 y8 y9 y10, LeO (spec_planOf.l1 k y0 y1 y2 y3 y4 y5 y6 y7 y8 y9 y10) (spec_planOf.l1 (k + 1) y0 y1 y2 y3 y4 y5 y6 y7 y8 y9 y10))
 | 0 => ⟨fun _ _ _ _ _ r h => by simp [spec_planOf.l0] at h, fun _ _ _ _ _ _ _ _ _ _ r h => by simp [spec_planOf.j1] at h, fun _ _ _ _ _ _ _ _ _ r h => by simp [spec_planOf.j2] at h, fun _ _ _ _ _ _ _ _ _ _ _ r h => by simp [spec_planOf.l1] at h⟩
 | k + 1 => by
  obtain ⟨ih0, ih1, ih2, ih3⟩ := spec_planOf.mono_l k
  refine ⟨?_, ?_, ?_, ?_⟩
  ·intro y0 y1 y2 y3 y4
   unfold spec_planOf.l0
   repeat' first | (with_reducible first | exact ih0 _ _ _ _ _ | exact ih1 _ _ _ _ _ _ _ _ _ _ | exact ih2 _ _ _ _ _ _ _ _ _ | exact ih3 _ _ _ _ _ _ _ _ _ _ _ | exact spec_closure.mono _ _ _ _ _ _ _ | exact spec_downs.mono _ _ | exact spec_hasText.mono _ _ _ | exact spec_liveScope.mono _ _ _ _ _ | exact spec_without.mono _ _ _ | exact le1_ | exact le2_ | apply LeO.ite | refine LeO.bind ?_ fun _ => ?_) | apply LeO.ite | refine LeO.bind ?_ fun _ => ?_
  ·intro y0 y1 y2 y3 y4 y5 y6 y7 y8 y9
   unfold spec_planOf.j1
   repeat' first | (with_reducible first | exact ih0 _ _ _ _ _ | exact ih1 _ _ _ _ _ _ _ _ _ _ | exact ih2 _ _ _ _ _ _ _ _ _ | exact ih3 _ _ _ _ _ _ _ _ _ _ _ | exact spec_closure.mono _ _ _ _ _ _ _ | exact spec_downs.mono _ _ | exact spec_hasText.mono _ _ _ | exact spec_liveScope.mono _ _ _ _ _ | exact spec_without.mono _ _ _ | exact le1_ | exact le2_ | apply LeO.ite | refine LeO.bind ?_ fun _ => ?_) | apply LeO.ite | refine LeO.bind ?_ fun _ => ?_
  ·intro y0 y1 y2 y3 y4 y5 y6 y7 y8
   unfold spec_planOf.j2
   repeat' first | (with_reducible first | exact ih0 _ _ _ _ _ | exact ih1 _ _ _ _ _ _ _ _ _ _ | exact ih2 _ _ _ _ _ _ _ _ _ | exact ih3 _ _ _ _ _ _ _ _ _ _ _ | exact spec_closure.mono _ _ _ _ _ _ _ | exact spec_downs.mono _ _ | exact spec_hasText.mono _ _ _ | exact spec_liveScope.mono _ _ _ _ _ | exact spec_without.mono _ _ _ | exact le1_ | exact le2_ | apply LeO.ite | refine LeO.bind ?_ fun _ => ?_) | apply LeO.ite | refine LeO.bind ?_ fun _ => ?_
  ·intro y0 y1 y2 y3 y4 y5 y6 y7 y8 y9 y10
   unfold spec_planOf.l1
   repeat' first | (with_reducible first | exact ih0 _ _ _ _ _ | exact ih1 _ _ _ _ _ _ _ _ _ _ | exact ih2 _ _ _ _ _ _ _ _ _ | exact ih3 _ _ _ _ _ _ _ _ _ _ _ | exact spec_closure.mono _ _ _ _ _ _ _ | exact spec_downs.mono _ _ | exact spec_hasText.mono _ _ _ | exact spec_liveScope.mono _ _ _ _ _ | exact spec_without.mono _ _ _ | exact le1_ | exact le2_ | apply LeO.ite | refine LeO.bind ?_ fun _ => ?_) | apply LeO.ite | refine LeO.bind ?_ fun _ => ?_
theorem spec_planOf.mono : ∀ a0 a1 k, LeO (spec_planOf.f k a0 a1) (spec_planOf.f (k + 1) a0 a1) := by
 intro a0 a1 k
 obtain ⟨ih0, ih1, ih2, ih3⟩ := spec_planOf.mono_l k
 unfold spec_planOf.f
 repeat' first | (with_reducible first | exact ih0 _ _ _ _ _ | exact ih1 _ _ _ _ _ _ _ _ _ _ | exact ih2 _ _ _ _ _ _ _ _ _ | exact ih3 _ _ _ _ _ _ _ _ _ _ _ | exact spec_closure.mono _ _ _ _ _ _ _ | exact spec_downs.mono _ _ | exact spec_hasText.mono _ _ _ | exact spec_liveScope.mono _ _ _ _ _ | exact spec_without.mono _ _ _ | exact le1_ | exact le2_ | apply LeO.ite | refine LeO.bind ?_ fun _ => ?_) | apply LeO.ite | refine LeO.bind ?_ fun _ => ?_
set_option maxHeartbeats 8000000 in
set_option maxRecDepth 100000 in
theorem spec_planOf.calls (k : Nat) (A0_0 : Option Addr) (c0_0 : Nat) (l0_0 : List (S133)) (A0_1 : Option Addr) (c0_1 : Nat) (l0_1 : List (S137)) (r : List (S70)) (w : World) (hr0_0 : Kd.C k133 w A0_0 l0_0.length l0_0) (hc0_0 : l0_0.length ≤ c0_0) (hr0_1 : Kd.C k137 w A0_1 l0_1.length l0_1) (hc0_1 : l0_1.length ≤ c0_1) (h : spec_planOf.f k l0_0 l0_1 = some r) :
  Calls Try.prog 103 #[.agg #[.slice A0_0 l0_0.length c0_0, .slice A0_1 l0_1.length c0_1]] w fun e w' => ∃ v0_ : Value, e = .returned (v0_) ∧ Kd.R k70 70 w' w.heap.size (fun _ => True) v0_ r ∧ Below w.heap.size w w' := by
 have hu108 := Try.underlying108; have hu137 := Try.underlying137; have hu70 := Try.underlying70; have HR0_0 := zA hr0_0; have HC0_0 := zA hc0_0; clear hr0_0 hc0_0; have HR0_1 := zA hr0_1; have HC0_1 := zA hc0_1; clear hr0_1 hc0_1; have HB := zA zz2
 have H : (spec_planOf.l0 k (([] : List (S70))) (([] : List ByteArray)) 0 l0_0 l0_1) = some r := h
 clear h
 obtain ⟨y517, hy517⟩ : ∃ y_ : List (S70), y_ = (([] : List (S70))) := ⟨_, rfl⟩
 replace H : (spec_planOf.l0 k y517 (([] : List ByteArray)) 0 l0_0 l0_1) = some r := (zz24 hy517)
 have Ny517 := zA hy517; clear hy517
 obtain ⟨y520, hy520⟩ : ∃ y_ : List ByteArray, y_ = (([] : List ByteArray)) := ⟨_, rfl⟩
 replace H : (spec_planOf.l0 k y517 y520 0 l0_0 l0_1) = some r := (zz24 hy520)
 have Ny520 := zA hy520; clear hy520; have H' := zA H; clear H
 go_enter Try.func103, Try.ntmps103
 go_wp2_with (first | ((with_reducible refine gate_dst (N := 1) rfl ?_); refine bx_ 1 #[.slice A0_0 l0_0.length c0_0, .slice A0_1 l0_1.length c0_1] 108 ?_; intro gb516 hg w2 hbox hb; have BK516 := zA (hbox); have GW516 := zA ((zz38 : w.heap.size ≤ gb516)); have GE516 := zA ((zz38 : w.heap.size ≤ gb516)); replace HB := zA zz4; clear hb hbox hg) | ((with_reducible refine gate_dst (N := 11) rfl ?_); refine rl_ k70 70 11 ?_; intro v518 w3 ho4 hb; replace ho4 := ny_ Ny517.out ho4; have HO519 := zA (zz160 ho4 GE516.out); replace BK516 := zA (blk_below (g := gb516) (o := .cells #[.slice A0_0 l0_0.length c0_0, .slice A0_1 l0_1.length c0_1] 108 (0, 0)) (zz6 BK516.out) hb); replace HB := zA (zz138 GE516.out); clear hb ho4) | ((with_reducible refine gate_dst (N := 12) rfl ?_); refine rl_ Kd.string 9 12 ?_; intro v521 w5 ho6 hb; replace ho6 := ny_ Ny520.out ho6; replace HO519 := zA (zz33 HO519.out); have HO522 := zA (zz160 ho6 GE516.out); replace BK516 := zA (blk_below (g := gb516) (o := .cells #[.slice A0_0 l0_0.length c0_0, .slice A0_1 l0_1.length c0_1] 108 (0, 0)) (zz6 BK516.out) hb); replace HB := zA (zz138 GE516.out); clear hb ho6))
 repeat (go_quiet (fail); try go_wp2_with (fail))
 go_loopg [3, 4, 5] k (fun kq v3 v4 v5 w' => ∃ (x3_1 : List (S70)) (x4_1 : List ByteArray) (x5_1 : Int), v5 = .int .i64 x5_1 ∧ Aside0 (spec_planOf.l0 kq x3_1 x4_1 x5_1 l0_0 l0_1 = some r) ∧ Aside0 (kq ≤ k) ∧ Aside0 (Kd.R k70 70 w' w.heap.size (fun _ => True) v3 x3_1) ∧ Aside0 (Kd.R Kd.string 9 w' w.heap.size (fun _ => True) v4 x4_1) ∧ Aside0 (w'.heap[gb516]? = some (.cells #[(.slice A0_0 l0_0.length c0_0), (.slice A0_1 l0_1.length c0_1)] 108 (0, 0))) ∧ Aside0 (Below w.heap.size w w'))
 case atStart => exact ⟨(y517), (y520), (0), zz9, H', ⟨Nat.le_refl _⟩, ⟨(zz22 HO519.out)⟩, ⟨(zz22 HO522.out)⟩, ⟨(zz6 BK516.out)⟩, ⟨(zz7 GE516.out)⟩⟩
 case round =>
  clear H'; try clear c1; try clear p2
  obtain ⟨x3_1, x4_1, x5_1, rfl, HA, HK1, HO_3, HO_4, BK516, HB⟩ := hrel
  cases gk with
  | zero => exact absurd HA.out (by simp [spec_planOf.l0])
  | succ k1 =>
   have H := HA.out; clear HA
   simp only [spec_planOf.l0] at H
   rcases iu_ H with ⟨c7b0, H⟩ | ⟨c7b0, H⟩
   ·obtain ⟨c8b0, H⟩ := it_ H
    have HC9 := zA H; clear H
    obtain ⟨hcz10_0, hcz10_1, hfz10_0, hfz10_1⟩ := bk2_ BK516.out
    have p529 : 0 ≤ (x5_1 : Int) := dz_
    have q529 : x5_1 < (l0_1.length : Int) := dz_
    obtain ⟨ad529, A529_2, c529_2, A529_3, c529_3, e529, hx529_0, hx529_1, hx529_2, hx529_3, hl529_2, hi529_2, hl529_3, hi529_3⟩ := at_T137 HR0_1.out x5_1 p529 q529
    cases e529
    replace hx529_0 := cup_ HB.out hx529_0; replace hx529_1 := cup_ HB.out hx529_1; replace hx529_2 := cup_ HB.out hx529_2; replace hx529_3 := cup_ HB.out hx529_3
    have HR529_2 := zA hi529_2; have HC529_2 := zA hl529_2; clear hi529_2 hl529_2; have HR529_3 := zA hi529_3; have HC529_3 := zA hl529_3; clear hi529_3 hl529_3
    replace p529 := eq_true p529
    replace q529 := eq_true q529
    go_upto_region 7 with (first | ((with_reducible refine gate_dst (N := 6) rfl ?_); refine bx_ 6 #[.string (⟨#[]⟩ : ByteArray), .string (⟨#[]⟩ : ByteArray), .slice none 0 0, .slice none 0 0] 137 ?_; intro gb530 hg w11 hbox hb; replace HO_3 := zA (zz33 HO_3.out); replace HO_4 := zA (zz33 HO_4.out); have BK530 := zA (hbox); have GW530 := zA (((zz137 GE516.out) : w.heap.size ≤ gb530)); have GE530 := zA (((zz137 GE516.out) : w.heap.size ≤ gb530)); replace HB := zA (zz138 GE516.out); have NB516_530 := zA ((by rw [hg]; exact Nat.ne_of_lt (blk_lt (g := gb516) (o := .cells #[.slice A0_0 l0_0.length c0_0, .slice (some ad529) l0_1.length c0_1] 108 (0, 0)) (zz6 BK516.out)) : gb516 ≠ gb530)); have NB530_516 := zA ((by rw [hg]; exact Nat.ne_of_gt (blk_lt (g := gb516) (o := .cells #[.slice A0_0 l0_0.length c0_0, .slice (some ad529) l0_1.length c0_1] 108 (0, 0)) (zz6 BK516.out)) : gb530 ≠ gb516)); replace BK516 := zA (zz171 BK516.out); clear hb hbox hg; have hnb12 := NB530_516.out; have hnc12 := NB516_530.out; obtain ⟨hcz13_0, hcz13_1, hcz13_2, hcz13_3, hfz13_0, hfz13_1, hfz13_2, hfz13_3⟩ := bk4_ BK530.out))
    repeat (go_quiet (fail); go_upto_region 7 with (first | ((with_reducible refine gate_dst (N := 6) rfl ?_); refine bx_ 6 #[.string (⟨#[]⟩ : ByteArray), .string (⟨#[]⟩ : ByteArray), .slice none 0 0, .slice none 0 0] 137 ?_; intro gb530 hg w11 hbox hb; replace HO_3 := zA (zz33 HO_3.out); replace HO_4 := zA (zz33 HO_4.out); have BK530 := zA (hbox); have GW530 := zA (((zz137 GE516.out) : w.heap.size ≤ gb530)); have GE530 := zA (((zz137 GE516.out) : w.heap.size ≤ gb530)); replace HB := zA (zz138 GE516.out); have NB516_530 := zA ((by rw [hg]; exact Nat.ne_of_lt (blk_lt (g := gb516) (o := .cells #[.slice A0_0 l0_0.length c0_0, .slice (some ad529) l0_1.length c0_1] 108 (0, 0)) (zz6 BK516.out)) : gb516 ≠ gb530)); have NB530_516 := zA ((by rw [hg]; exact Nat.ne_of_gt (blk_lt (g := gb516) (o := .cells #[.slice A0_0 l0_0.length c0_0, .slice (some ad529) l0_1.length c0_1] 108 (0, 0)) (zz6 BK516.out)) : gb530 ≠ gb516)); replace BK516 := zA (zz171 BK516.out); clear hb hbox hg; have hnb12 := NB530_516.out; have hnc12 := NB516_530.out; obtain ⟨hcz13_0, hcz13_1, hcz13_2, hcz13_3, hfz13_0, hfz13_1, hfz13_2, hfz13_3⟩ := bk4_ BK530.out)))
    (try simp only [Act.put, List.setIfInBounds_toArray, List.set_cons_zero, List.set_cons_succ])
    go_cut [38] (fun v38 wc => ∃ (kq : Nat) (x38_8 : Bool), v38 = .bool x38_8 ∧ Aside0 (spec_planOf.j1 kq x3_1 x4_1 x5_1 x38_8 l0_0 l0_1 ((rd_T137 l0_1 x5_1).f0) ((rd_T137 l0_1 x5_1).f1) ((rd_T137 l0_1 x5_1).f2) ((rd_T137 l0_1 x5_1).f3) = some r) ∧ Aside0 (kq ≤ k1) ∧ Aside0 (Kd.R k70 70 wc w.heap.size (fun _ => True) u3 x3_1) ∧ Aside0 (Kd.R Kd.string 9 wc w.heap.size (fun _ => True) u4 x4_1) ∧ Aside0 (wc.heap[gb516]? = some (.cells #[(.slice A0_0 l0_0.length c0_0), (.slice (some ad529) l0_1.length c0_1)] 108 (0, 0))) ∧ Aside0 (wc.heap[gb530]? = some (.cells #[.string ((rd_T137 l0_1 x5_1).f0), .string ((rd_T137 l0_1 x5_1).f1), (.slice A529_2 ((rd_T137 l0_1 x5_1).f2).length c529_2), (.slice A529_3 ((rd_T137 l0_1 x5_1).f3).length c529_3)] 137 (0, 0))) ∧ Aside0 (Below w.heap.size w wc))
    case first =>
     have H := HC9.out; clear HC9
     rcases ie_ H with ⟨c14, H⟩ | ⟨c14, H⟩
     ·have c14b0 : decide (0 < x5_1) = true := decide_eq_true c14
      clear c14
      (first | rw [c14b0] | (simp only [i64_w, i32_w]; rw [c14b0]) | skip)
      obtain ⟨ji15, hji15⟩ : ∃ j_ : Int, (wrap64 (x5_1 - 1)) = j_ := ⟨_, rfl⟩
      replace H : (if 0 ≤ (ji15) then (if (ji15) < (l0_1.length : Int) then (spec_planOf.j1 k1 x3_1 x4_1 x5_1 (((rd_T137 l0_1 (ji15)).f0).toList != ((rd_T137 l0_1 x5_1).f0).toList) l0_0 l0_1 ((rd_T137 l0_1 x5_1).f0) ((rd_T137 l0_1 x5_1).f1) ((rd_T137 l0_1 x5_1).f2) ((rd_T137 l0_1 x5_1).f3)) else (none)) else (none)) = some r := (zz15 hji15)
      have hji15w : (IntKind.i64.wrap (x5_1 - 1)) = ji15 := (i64_w _).trans hji15
      obtain ⟨c16b0, H⟩ := it_ H
      obtain ⟨c17b0, H⟩ := it_ H
      have H' := zA H; clear H; have hnb18 := NB516_530.out; have hnc18 := NB530_516.out
      obtain ⟨hcz19_0, hcz19_1, hfz19_0, hfz19_1⟩ := bk2_ BK516.out
      have p531 : 0 ≤ ((ji15) : Int) := dz_
      have q531 : (ji15) < (l0_1.length : Int) := dz_
      obtain ⟨ad531, A531_2, c531_2, A531_3, c531_3, e531, hx531_0, hx531_1, hx531_2, hx531_3, hl531_2, hi531_2, hl531_3, hi531_3⟩ := at_T137 HR0_1.out (ji15) p531 q531
      obtain rfl : ad529 = ad531 := (by injection e531)
      have hn531_0 : ad529.block ≠ gb530 := Nat.ne_of_lt (Nat.lt_of_lt_of_le (zz172 hx531_0) GW530.out)
      have hn531_1 : ad529.block ≠ gb530 := Nat.ne_of_lt (Nat.lt_of_lt_of_le (zz172 hx531_0) GW530.out)
      have hn531_2 : ad529.block ≠ gb530 := Nat.ne_of_lt (Nat.lt_of_lt_of_le (zz172 hx531_0) GW530.out)
      have hn531_3 : ad529.block ≠ gb530 := Nat.ne_of_lt (Nat.lt_of_lt_of_le (zz172 hx531_0) GW530.out)
      replace hx531_0 := cup_ HB.out hx531_0; replace hx531_1 := cup_ HB.out hx531_1; replace hx531_2 := cup_ HB.out hx531_2; replace hx531_3 := cup_ HB.out hx531_3
      have HR531_2 := zA hi531_2; have HC531_2 := zA hl531_2; clear hi531_2 hl531_2; have HR531_3 := zA hi531_3; have HC531_3 := zA hl531_3; clear hi531_3 hl531_3
      replace hx531_0 := (cell_far (p := ⟨gb530, 0, none⟩) (zz173 hn531_0) (.string ((rd_T137 l0_1 x5_1).f0))).trans hx531_0
      replace hx531_1 := (cell_far (p := ⟨gb530, 0, none⟩) (zz173 hn531_0) (.string ((rd_T137 l0_1 x5_1).f0))).trans hx531_1
      replace hx531_2 := (cell_far (p := ⟨gb530, 0, none⟩) (zz173 hn531_0) (.string ((rd_T137 l0_1 x5_1).f0))).trans hx531_2
      replace hx531_3 := (cell_far (p := ⟨gb530, 0, none⟩) (zz173 hn531_0) (.string ((rd_T137 l0_1 x5_1).f0))).trans hx531_3
      replace hx531_0 := (cell_far (p := ⟨gb530, 1, none⟩) (zz173 hn531_1) (.string ((rd_T137 l0_1 x5_1).f1))).trans hx531_0
      replace hx531_1 := (cell_far (p := ⟨gb530, 1, none⟩) (zz173 hn531_1) (.string ((rd_T137 l0_1 x5_1).f1))).trans hx531_1
      replace hx531_2 := (cell_far (p := ⟨gb530, 1, none⟩) (zz173 hn531_1) (.string ((rd_T137 l0_1 x5_1).f1))).trans hx531_2
      replace hx531_3 := (cell_far (p := ⟨gb530, 1, none⟩) (zz173 hn531_1) (.string ((rd_T137 l0_1 x5_1).f1))).trans hx531_3
      replace hx531_0 := (cell_far (p := ⟨gb530, 2, none⟩) (zz173 hn531_2) (.slice A529_2 ((rd_T137 l0_1 x5_1).f2).length c529_2)).trans hx531_0
      replace hx531_1 := (cell_far (p := ⟨gb530, 2, none⟩) (zz173 hn531_2) (.slice A529_2 ((rd_T137 l0_1 x5_1).f2).length c529_2)).trans hx531_1
      replace hx531_2 := (cell_far (p := ⟨gb530, 2, none⟩) (zz173 hn531_2) (.slice A529_2 ((rd_T137 l0_1 x5_1).f2).length c529_2)).trans hx531_2
      replace hx531_3 := (cell_far (p := ⟨gb530, 2, none⟩) (zz173 hn531_2) (.slice A529_2 ((rd_T137 l0_1 x5_1).f2).length c529_2)).trans hx531_3
      replace hx531_0 := (cell_far (p := ⟨gb530, 3, none⟩) (zz173 hn531_3) (.slice A529_3 ((rd_T137 l0_1 x5_1).f3).length c529_3)).trans hx531_0
      replace hx531_1 := (cell_far (p := ⟨gb530, 3, none⟩) (zz173 hn531_3) (.slice A529_3 ((rd_T137 l0_1 x5_1).f3).length c529_3)).trans hx531_1
      replace hx531_2 := (cell_far (p := ⟨gb530, 3, none⟩) (zz173 hn531_3) (.slice A529_3 ((rd_T137 l0_1 x5_1).f3).length c529_3)).trans hx531_2
      replace hx531_3 := (cell_far (p := ⟨gb530, 3, none⟩) (zz173 hn531_3) (.slice A529_3 ((rd_T137 l0_1 x5_1).f3).length c529_3)).trans hx531_3
      (try have hy531_0 := fun (n_ : Nat) => (show ((((((w11.drewN n_).setCell ⟨gb530, 0, none⟩ (.string ((rd_T137 l0_1 x5_1).f0))).setCell ⟨gb530, 1, none⟩ (.string ((rd_T137 l0_1 x5_1).f1))).setCell ⟨gb530, 2, none⟩ (.slice A529_2 ((rd_T137 l0_1 x5_1).f2).length c529_2)).setCell ⟨gb530, 3, none⟩ (.slice A529_3 ((rd_T137 l0_1 x5_1).f3).length c529_3))).cell? _ = some _ from hx531_0))
      (try have hy531_1 := fun (n_ : Nat) => (show ((((((w11.drewN n_).setCell ⟨gb530, 0, none⟩ (.string ((rd_T137 l0_1 x5_1).f0))).setCell ⟨gb530, 1, none⟩ (.string ((rd_T137 l0_1 x5_1).f1))).setCell ⟨gb530, 2, none⟩ (.slice A529_2 ((rd_T137 l0_1 x5_1).f2).length c529_2)).setCell ⟨gb530, 3, none⟩ (.slice A529_3 ((rd_T137 l0_1 x5_1).f3).length c529_3))).cell? _ = some _ from hx531_1))
      (try have hy531_2 := fun (n_ : Nat) => (show ((((((w11.drewN n_).setCell ⟨gb530, 0, none⟩ (.string ((rd_T137 l0_1 x5_1).f0))).setCell ⟨gb530, 1, none⟩ (.string ((rd_T137 l0_1 x5_1).f1))).setCell ⟨gb530, 2, none⟩ (.slice A529_2 ((rd_T137 l0_1 x5_1).f2).length c529_2)).setCell ⟨gb530, 3, none⟩ (.slice A529_3 ((rd_T137 l0_1 x5_1).f3).length c529_3))).cell? _ = some _ from hx531_2))
      (try have hy531_3 := fun (n_ : Nat) => (show ((((((w11.drewN n_).setCell ⟨gb530, 0, none⟩ (.string ((rd_T137 l0_1 x5_1).f0))).setCell ⟨gb530, 1, none⟩ (.string ((rd_T137 l0_1 x5_1).f1))).setCell ⟨gb530, 2, none⟩ (.slice A529_2 ((rd_T137 l0_1 x5_1).f2).length c529_2)).setCell ⟨gb530, 3, none⟩ (.slice A529_3 ((rd_T137 l0_1 x5_1).f3).length c529_3))).cell? _ = some _ from hx531_3))
      clear hn531_0 hn531_1 hn531_2 hn531_3
      replace p531 := eq_true p531
      replace q531 := eq_true q531
      obtain ⟨hcz20_0, hcz20_1, hcz20_2, hcz20_3, hfz20_0, hfz20_1, hfz20_2, hfz20_3⟩ := bk4_ BK530.out
      go_wp2
      repeat (go_quiet (fail); try go_wp2)
      go_meet
      case rel => exact ⟨_, ((((rd_T137 l0_1 (ji15)).f0).toList != ((rd_T137 l0_1 x5_1).f0).toList)), (by first | rfl | (simp; done) | (simp only [← hji15] <;> (first | rfl | simp)) | (simp [*]; done)), H', ⟨by have := HK1.out; first | omega | exact Nat.le_refl _⟩, ⟨(zz174 HO_3.out BK530.out)⟩, ⟨(zz174 HO_4.out BK530.out)⟩, ⟨(zz117 NB516_530.out BK516.out)⟩, ⟨by (with_reducible repeat first | apply blk_drewN | apply blk_drew | apply blk_alloc); refine blk_put (cs := #[.string ((rd_T137 l0_1 x5_1).f0), .string ((rd_T137 l0_1 x5_1).f1), .slice A529_2 ((rd_T137 l0_1 x5_1).f2).length c529_2, .slice none 0 0]) ?_ 3 _ rfl; (with_reducible repeat first | apply blk_drewN | apply blk_drew | apply blk_alloc); refine blk_put (cs := #[.string ((rd_T137 l0_1 x5_1).f0), .string ((rd_T137 l0_1 x5_1).f1), .slice none 0 0, .slice none 0 0]) ?_ 2 _ rfl; (with_reducible repeat first | apply blk_drewN | apply blk_drew | apply blk_alloc); refine blk_put (cs := #[.string ((rd_T137 l0_1 x5_1).f0), .string (⟨#[]⟩ : ByteArray), .slice none 0 0, .slice none 0 0]) ?_ 1 _ rfl; (with_reducible repeat first | apply blk_drewN | apply blk_drew | apply blk_alloc); refine blk_put (cs := #[.string (⟨#[]⟩ : ByteArray), .string (⟨#[]⟩ : ByteArray), .slice none 0 0, .slice none 0 0]) ?_ 0 _ rfl; (with_reducible repeat first | apply blk_drewN | apply blk_drew | apply blk_alloc); exact BK530.out⟩, ⟨(zz146 GE516.out GE530.out)⟩⟩
     ·have c14b0 : decide (0 < x5_1) = false := decide_eq_false c14
      clear c14
      (first | rw [c14b0] | (simp only [i64_w, i32_w]; rw [c14b0]) | skip)
      have H' := zA H; clear H
      go_wp2
      repeat (go_quiet (fail); try go_wp2)
      go_meet
      case rel => exact ⟨_, (false), zz9, H', ⟨by have := HK1.out; first | omega | exact Nat.le_refl _⟩, ⟨(zz174 HO_3.out BK530.out)⟩, ⟨(zz174 HO_4.out BK530.out)⟩, ⟨(zz117 NB516_530.out BK516.out)⟩, ⟨by (with_reducible repeat first | apply blk_drewN | apply blk_drew | apply blk_alloc); refine blk_put (cs := #[.string ((rd_T137 l0_1 x5_1).f0), .string ((rd_T137 l0_1 x5_1).f1), .slice A529_2 ((rd_T137 l0_1 x5_1).f2).length c529_2, .slice none 0 0]) ?_ 3 _ rfl; (with_reducible repeat first | apply blk_drewN | apply blk_drew | apply blk_alloc); refine blk_put (cs := #[.string ((rd_T137 l0_1 x5_1).f0), .string ((rd_T137 l0_1 x5_1).f1), .slice none 0 0, .slice none 0 0]) ?_ 2 _ rfl; (with_reducible repeat first | apply blk_drewN | apply blk_drew | apply blk_alloc); refine blk_put (cs := #[.string ((rd_T137 l0_1 x5_1).f0), .string (⟨#[]⟩ : ByteArray), .slice none 0 0, .slice none 0 0]) ?_ 1 _ rfl; (with_reducible repeat first | apply blk_drewN | apply blk_drew | apply blk_alloc); refine blk_put (cs := #[.string (⟨#[]⟩ : ByteArray), .string (⟨#[]⟩ : ByteArray), .slice none 0 0, .slice none 0 0]) ?_ 0 _ rfl; (with_reducible repeat first | apply blk_drewN | apply blk_drew | apply blk_alloc); exact BK530.out⟩, ⟨(zz146 GE516.out GE530.out)⟩⟩
    case rest =>
     clear HC9; try clear c1; try clear p2; try clear c5; try clear p5; try clear q5; try clear hx5; try clear p6; try clear c7; try clear c7b0; try clear c8; try clear c8b0; try clear c10; try clear c12; try clear c14; try clear c14b0; try clear c16; try clear c16b0; try clear c17; try clear c17b0; try clear c18; try clear hcz10_0; try clear hcz10_1; try clear hcz13_0; try clear hcz13_1; try clear hcz13_2; try clear hcz13_3; try clear hcz19_0; try clear hcz19_1; try clear hcz20_0; try clear hcz20_1; try clear hcz20_2; try clear hcz20_3; try clear hfz10_0; try clear hfz10_1; try clear hfz13_0; try clear hfz13_1; try clear hfz13_2; try clear hfz13_3; try clear hfz19_0; try clear hfz19_1; try clear hfz20_0; try clear hfz20_1; try clear hfz20_2; try clear hfz20_3; try clear hx529_0; try clear hx529_1; try clear hx529_2; try clear hx529_3; try clear hx531_0; try clear hx531_1; try clear hx531_2; try clear hx531_3; try clear p2; try clear p529; try clear p531; try clear q529; try clear q531
     obtain ⟨kq, x38_8, rfl, HA, HJ8, HO_3, HO_4, BK516, BK530, HB⟩ := hcut
     cases kq with
     | zero => exact absurd HA.out (by simp [spec_planOf.j1])
     | succ kj8 =>
      have H := HA.out; clear HA
      simp only [spec_planOf.j1] at H
      have HC21 := zA H; clear H
      go_upto_if 38 with (fail)
      repeat (go_quiet (fail); go_upto_if 38 with (fail))
      go_cut [3, 4] (fun v3 v4 wc => ∃ (kq : Nat) (x3_20 : List (S70)) (x4_20 : List ByteArray), Aside0 (spec_planOf.j2 kq x3_20 x4_20 x5_1 l0_0 l0_1 ((rd_T137 l0_1 x5_1).f0) ((rd_T137 l0_1 x5_1).f1) ((rd_T137 l0_1 x5_1).f2) ((rd_T137 l0_1 x5_1).f3) = some r) ∧ Aside0 (kq ≤ kj8) ∧ Aside0 (Kd.R k70 70 wc w.heap.size (fun _ => True) v3 x3_20) ∧ Aside0 (Kd.R Kd.string 9 wc w.heap.size (fun _ => True) v4 x4_20) ∧ Aside0 (wc.heap[gb516]? = some (.cells #[(.slice A0_0 l0_0.length c0_0), (.slice (some ad529) l0_1.length c0_1)] 108 (0, 0))) ∧ Aside0 (wc.heap[gb530]? = some (.cells #[.string ((rd_T137 l0_1 x5_1).f0), .string ((rd_T137 l0_1 x5_1).f1), (.slice A529_2 ((rd_T137 l0_1 x5_1).f2).length c529_2), (.slice A529_3 ((rd_T137 l0_1 x5_1).f3).length c529_3)] 137 (0, 0))) ∧ Aside0 (Below w.heap.size w wc))
      case first =>
       have H := HC21.out; clear HC21
       by_cases c22 : x38_8 = true
       ·subst c22
        have H1 : ((spec_liveScope.f kj8 l0_0 l0_1 x4_1 1).bind fun t532 => ((spec_downs.f kj8 t532).bind fun t535 => (if x3_1.length + t535.length < 5864062014805 then ((spec_without.f kj8 x4_1 t532).bind fun t541 => (spec_planOf.j2 kj8 (x3_1 ++ t535) t541 x5_1 l0_0 l0_1 ((rd_T137 l0_1 x5_1).f0) ((rd_T137 l0_1 x5_1).f1) ((rd_T137 l0_1 x5_1).f2) ((rd_T137 l0_1 x5_1).f3))) else (none)))) = some r := by rw [if_pos rfl] at H; exact H
        clear H; have H := H1; clear H1
        obtain ⟨t532, A23, H⟩ := bs_ H
        (try dsimp only at H)
        obtain ⟨t535, A24, H⟩ := bs_ H
        (try dsimp only at H)
        obtain ⟨c25, H⟩ := in_ H
        have LMc25 := zA c25; clear c25
        obtain ⟨y538, hy538⟩ : ∃ y_ : List (S70), y_ = (x3_1 ++ t535) := ⟨_, rfl⟩
        replace H : ((spec_without.f kj8 x4_1 t532).bind fun t541 => (spec_planOf.j2 kj8 y538 t541 x5_1 l0_0 l0_1 ((rd_T137 l0_1 x5_1).f0) ((rd_T137 l0_1 x5_1).f1) ((rd_T137 l0_1 x5_1).f2) ((rd_T137 l0_1 x5_1).f3))) = some r := (zz24 hy538)
        have Ny538 := zA hy538; clear hy538
        replace H := Option.bind_eq_some_iff.mp H
        obtain ⟨t541, A260, H⟩ := H
        (try dsimp only at H)
        have A26 := zA A260; clear A260; have H' := zA H; clear H; have hnb27 := NB516_530.out; have hnc27 := NB530_516.out
        obtain ⟨hcz28_0, hcz28_1, hfz28_0, hfz28_1⟩ := bk2_ BK516.out
        obtain ⟨Ao29, co29, eo29⟩ := Kd.R_slice HO_4.out
        subst eo29
        go_wp2_with (first | (go_at_call 110; (with_reducible refine (spec_liveScope.calls kj8 _ _ l0_0 _ _ l0_1 _ _ x4_1 1 t532 _ ?side1 ?side2 ?side3 ?side4 ?side5 ?side6 A23.out).mono ?_); (case side1 => exact (zz62 HR0_0.out)); (case side2 => exact HC0_0.out); (case side3 => exact (zz62 HR0_1.out)); (case side4 => exact HC0_1.out); (case side5 => exact (zz20 HO_4.out)); (case side6 => exact (zz21 HO_4.out)); rintro e w30 ⟨v533, rfl, ho0, hb⟩; replace HO_3 := zA (zz33 HO_3.out); have HO534 := zA (zz169 ho0 HO_4.out GE516.out GE530.out); replace HO_4 := zA (zz44 HO_4.out ho0); replace BK516 := zA (zz171 BK516.out); replace BK530 := zA (zz175 BK530.out); replace HB := zA (zz167 GE516.out GE530.out); (try clear hb); (try clear ho0); obtain ⟨Ao31, co31, eo31⟩ := Kd.R_slice HO534.out; subst eo31) | (go_at_call 111; (with_reducible refine (spec_downs.calls kj8 _ _ t532 t535 _ ?side1 ?side2 A24.out).mono ?_); (case side1 => exact (zz20 HO534.out)); (case side2 => exact (zz21 HO534.out)); rintro e w32 ⟨v536, rfl, ho0, hb⟩; replace HO_4 := zA (zz33 HO_4.out); replace HO534 := zA (zz33 HO534.out); have HO537 := zA (zz169 ho0 HO_3.out GE516.out GE530.out); replace HO_3 := zA (zz44 HO_3.out ho0); replace BK516 := zA (zz171 BK516.out); replace BK530 := zA (zz175 BK530.out); replace HB := zA (zz167 GE516.out GE530.out); (try clear hb); (try clear ho0); obtain ⟨Ao34, co34, eo34⟩ := Kd.R_slice HO537.out; subst eo34) | ((with_reducible refine gate_builtin (b := .append) (xs := #[.tmp 42, .tmp 44]) rfl ?_); at_builtin; refine Kd.R_append_rows k70 (w0 := w) w.heap.size rfl (.tmp 42) (.tmp 44) 25 70 (.agg #[(.int .i64 0), (.string ⟨#[]⟩)]) 24 rfl Try.underlying25 info70 rfl (by decide) (by omega) u3 x3_1 t535 _ _ _ (fun k_ => some k_ ≠ (.slice Ao34 t535.length co34 : Value).ownBlock) (fun _ => False) rfl rfl ?aO ?aR (fun _ _ h => h) (fun _ h => h.elim) ?aF ?aB ?aS ?aL ?_; (case aR => exact (zz20 HO537.out)); (case aB => exact (zz165 GE516.out GE530.out)); (case aF => exact (zz47 HO537.out)); (case aO => exact (zz48 HO_3.out)); (case aS => exact (zz166 GE516.out GE530.out)); (case aL => have := LMc25.out; omega); intro v539 w33 ho hb hg hat; rw [← Ny538.out] at ho; replace HO_4 := zA (zz176 HO_4.out HO_3.out); replace BK516 := zA (zz177 BK516.out HO_3.out); replace BK530 := zA (zz178 BK530.out HO_3.out); replace HO534 := zA (zz176 HO534.out HO_3.out); replace HO537 := zA (zz49 HO537.out); replace HB := zA (hb); have HO540 := zA (ho); clear HO_3; clear ho hb hg hat) | (go_at_call 112; (with_reducible refine (spec_without.calls kj8 _ _ x4_1 _ _ t532 t541 _ ?side1 ?side2 ?side3 ?side4 A26.out).mono ?_); (case side1 => exact (zz20 HO_4.out)); (case side2 => exact (zz21 HO_4.out)); (case side3 => exact (zz20 HO534.out)); (case side4 => exact (zz21 HO534.out)); rintro e w35 ⟨v542, rfl, ho0, hb⟩; replace HO537 := zA (zz33 HO537.out); replace HO540 := zA (zz33 HO540.out); have HO543 := zA (Kd.R_lower (Kd.R_new' (Kd.R_new' ho0 (Kd.R_lt (zz22 HO_4.out))) (Kd.R_lt (zz22 HO534.out))) (below_size (zz164 GE516.out GE530.out))); replace HO_4 := zA (zz44 HO_4.out ho0); replace HO534 := zA (zz44 HO534.out ho0); replace BK516 := zA (zz171 BK516.out); replace BK530 := zA (zz175 BK530.out); replace HB := zA (zz167 GE516.out GE530.out); (try clear hb); (try clear ho0)))
        repeat (go_quiet (fail); try go_wp2_with (fail))
        go_meet
        case rel => exact ⟨_, (y538), (t541), H', ⟨by have := HK1.out; have := HJ8.out; first | omega | exact Nat.le_refl _⟩, ⟨(zz59 HO540.out)⟩, ⟨(zz59 HO543.out)⟩, ⟨(zz6 BK516.out)⟩, ⟨(zz6 BK530.out)⟩, ⟨(zz146 GE516.out GE530.out)⟩⟩
       ·replace c22 := Bool.eq_false_iff.mpr c22
        subst c22
        have H1 : (spec_planOf.j2 kj8 x3_1 x4_1 x5_1 l0_0 l0_1 ((rd_T137 l0_1 x5_1).f0) ((rd_T137 l0_1 x5_1).f1) ((rd_T137 l0_1 x5_1).f2) ((rd_T137 l0_1 x5_1).f3)) = some r := by rw [if_neg (show ¬ (false = true) by decide)] at H; exact H
        clear H; have H := H1; clear H1; have H' := zA H; clear H
        go_wp2
        repeat (go_quiet (fail); try go_wp2)
        go_meet
        case rel => exact ⟨_, (x3_1), (x4_1), H', ⟨by have := HK1.out; have := HJ8.out; first | omega | exact Nat.le_refl _⟩, ⟨(zz22 HO_3.out)⟩, ⟨(zz22 HO_4.out)⟩, ⟨(zz6 BK516.out)⟩, ⟨(zz6 BK530.out)⟩, ⟨(zz146 GE516.out GE530.out)⟩⟩
      case rest =>
       clear HC21; try clear c1; try clear c2; try clear p2; try clear c5; try clear p5; try clear q5; try clear hx5; try clear p6; try clear c7; try clear c7b0; try clear c8; try clear c8b0; try clear c10; try clear c12; try clear c14; try clear c14b0; try clear c16; try clear c16b0; try clear c17; try clear c17b0; try clear c18; try clear c22; try clear c25; try clear c27; try clear hcz10_0; try clear hcz10_1; try clear hcz13_0; try clear hcz13_1; try clear hcz13_2; try clear hcz13_3; try clear hcz19_0; try clear hcz19_1; try clear hcz20_0; try clear hcz20_1; try clear hcz20_2; try clear hcz20_3; try clear hcz28_0; try clear hcz28_1; try clear hfz10_0; try clear hfz10_1; try clear hfz13_0; try clear hfz13_1; try clear hfz13_2; try clear hfz13_3; try clear hfz19_0; try clear hfz19_1; try clear hfz20_0; try clear hfz20_1; try clear hfz20_2; try clear hfz20_3; try clear hfz28_0; try clear hfz28_1; try clear hx529_0; try clear hx529_1; try clear hx529_2; try clear hx529_3; try clear hx531_0; try clear hx531_1; try clear hx531_2; try clear hx531_3; try clear p2; try clear p5; try clear p529; try clear p531; try clear p6; try clear q5; try clear q529; try clear q531
       obtain ⟨kq, x3_20, x4_20, HA, HJ20, HO_3, HO_4, BK516, BK530, HB⟩ := hcut
       cases kq with
       | zero => exact absurd HA.out (by simp [spec_planOf.j2])
       | succ kj20 =>
        have H := HA.out; clear HA
        simp only [spec_planOf.j2] at H
        replace H := Option.bind_eq_some_iff.mp H
        obtain ⟨t544, A360, H⟩ := H
        (try dsimp only at H)
        have A36 := zA A360; clear A360; have H' := zA H; clear H; have hnb37 := NB516_530.out; have hnc37 := NB530_516.out
        obtain ⟨hcz38_0, hcz38_1, hfz38_0, hfz38_1⟩ := bk2_ BK516.out
        obtain ⟨hcz39_0, hcz39_1, hcz39_2, hcz39_3, hfz39_0, hfz39_1, hfz39_2, hfz39_3⟩ := bk4_ BK530.out
        go_wp2_with ((go_at_call 113; (with_reducible refine (spec_closure.calls kj20 _ _ l0_0 _ _ l0_1 ((rd_T137 l0_1 x5_1).f0) ((rd_T137 l0_1 x5_1).f1) _ _ ((rd_T137 l0_1 x5_1).f2) _ _ ((rd_T137 l0_1 x5_1).f3) t544 _ ?side1 ?side2 ?side3 ?side4 ?side5 ?side6 ?side7 ?side8 A36.out).mono ?_); (case side1 => exact (zz62 HR0_0.out)); (case side2 => exact HC0_0.out); (case side3 => exact (zz62 HR0_1.out)); (case side4 => exact HC0_1.out); (case side5 => exact (zz62 HR529_2.out)); (case side6 => exact HC529_2.out); (case side7 => exact (zz62 HR529_3.out)); (case side8 => exact HC529_3.out); rintro e w40 ⟨v545, rfl, ho0, hb⟩; replace HO_3 := zA (zz33 HO_3.out); have HO546 := zA (zz169 ho0 HO_4.out GE516.out GE530.out); replace HO_4 := zA (zz44 HO_4.out ho0); replace BK516 := zA (zz171 BK516.out); replace BK530 := zA (zz175 BK530.out); replace HB := zA (zz167 GE516.out GE530.out); (try clear hb); (try clear ho0)))
        repeat (go_quiet (fail); try go_wp2_with (fail))
        go_loopg [3, 4, 9] kj20 (fun kq v3 v4 v9 w' => ∃ (x3_4 : List (S70)) (x4_4 : List ByteArray) (x9_4 : Int), v9 = .int .i64 x9_4 ∧ Aside0 (spec_planOf.l1 kq x3_4 x4_4 x5_1 t544 x9_4 l0_0 l0_1 ((rd_T137 l0_1 x5_1).f0) ((rd_T137 l0_1 x5_1).f1) ((rd_T137 l0_1 x5_1).f2) ((rd_T137 l0_1 x5_1).f3) = some r) ∧ Aside0 (kq ≤ kj20) ∧ Aside0 (Kd.R k70 70 w' w.heap.size (fun _ => True) v3 x3_4) ∧ Aside0 (Kd.R Kd.string 9 w' w.heap.size (fun k_ => some k_ ≠ (v545 : Value).ownBlock) v4 x4_4) ∧ Aside0 (Kd.R Kd.string 9 w' w.heap.size (fun k_ => some k_ ≠ (v4 : Value).ownBlock) v545 t544) ∧ Aside0 (w'.heap[gb516]? = some (.cells #[(.slice A0_0 l0_0.length c0_0), (.slice (some ad529) l0_1.length c0_1)] 108 (0, 0))) ∧ Aside0 (w'.heap[gb530]? = some (.cells #[.string ((rd_T137 l0_1 x5_1).f0), .string ((rd_T137 l0_1 x5_1).f1), (.slice A529_2 ((rd_T137 l0_1 x5_1).f2).length c529_2), (.slice A529_3 ((rd_T137 l0_1 x5_1).f3).length c529_3)] 137 (0, 0))) ∧ Aside0 (Below w.heap.size w w'))
        case atStart => exact ⟨(x3_20), (x4_20), (0), zz9, H', ⟨Nat.le_refl _⟩, ⟨(zz22 HO_3.out)⟩, ⟨(zz94 HO_4.out)⟩, ⟨(zz94 HO546.out)⟩, ⟨(zz6 BK516.out)⟩, ⟨(zz6 BK530.out)⟩, ⟨(zz146 GE516.out GE530.out)⟩⟩
        case round =>
         clear H'; try clear c1; try clear c2; try clear p2; try clear c3; try clear c5; try clear p5; try clear q5; try clear hx5; try clear p6; try clear c7; try clear c7b0; try clear c8; try clear c8b0; try clear c10; try clear c12; try clear c14; try clear c14b0; try clear c16; try clear c16b0; try clear c17; try clear c17b0; try clear c18; try clear c22; try clear c25; try clear c27; try clear c37; try clear hcz10_0; try clear hcz10_1; try clear hcz13_0; try clear hcz13_1; try clear hcz13_2; try clear hcz13_3; try clear hcz19_0; try clear hcz19_1; try clear hcz20_0; try clear hcz20_1; try clear hcz20_2; try clear hcz20_3; try clear hcz28_0; try clear hcz28_1; try clear hcz38_0; try clear hcz38_1; try clear hcz39_0; try clear hcz39_1; try clear hcz39_2; try clear hcz39_3; try clear hfz10_0; try clear hfz10_1; try clear hfz13_0; try clear hfz13_1; try clear hfz13_2; try clear hfz13_3; try clear hfz19_0; try clear hfz19_1; try clear hfz20_0; try clear hfz20_1; try clear hfz20_2; try clear hfz20_3; try clear hfz28_0; try clear hfz28_1; try clear hfz38_0; try clear hfz38_1; try clear hfz39_0; try clear hfz39_1; try clear hfz39_2; try clear hfz39_3; try clear hx529_0; try clear hx529_1; try clear hx529_2; try clear hx529_3; try clear hx531_0; try clear hx531_1; try clear hx531_2; try clear hx531_3; try clear p2; try clear p5; try clear p529; try clear p531; try clear p6; try clear q5; try clear q529; try clear q531
         obtain ⟨x3_4, x4_4, x9_4, rfl, HA, HK4, HO_3, HO_4, HO_8, BK516, BK530, HB⟩ := hrel
         cases gk with
         | zero => exact absurd HA.out (by simp [spec_planOf.l1])
         | succ k4 =>
          have H := HA.out; clear HA
          simp only [spec_planOf.l1] at H
          rcases iu_ H with ⟨c41b0, H⟩ | ⟨c41b0, H⟩
          ·obtain ⟨c42b0, H⟩ := it_ H
           obtain ⟨t548, A43, H⟩ := bs_ H
           (try dsimp only at H)
           by_cases c44 : t548 = true
           ·subst c44
            have H1 : (spec_planOf.l1 k4 x3_4 x4_4 x5_1 t544 (wrap64 (x9_4 + 1)) l0_0 l0_1 ((rd_T137 l0_1 x5_1).f0) ((rd_T137 l0_1 x5_1).f1) ((rd_T137 l0_1 x5_1).f2) ((rd_T137 l0_1 x5_1).f3)) = some r := by rw [if_pos rfl] at H; exact H
            clear H; have H := H1; clear H1; have H' := zA H; clear H
            obtain ⟨Ao45, co45, eo45⟩ := Kd.R_slice HO_8.out
            subst eo45
            have p547 : 0 ≤ (x9_4 : Int) := dz_
            have q547 : x9_4 < (t544.length : Int) := dz_
            obtain ⟨ad547, e547, hx547_0⟩ := Kd.at_string (Kd.R_reads' HO_8.out).2.2 x9_4 p547 q547
            cases e547
            replace p547 := eq_true p547
            replace q547 := eq_true q547
            obtain ⟨Ao46, co46, eo46⟩ := Kd.R_slice HO_4.out
            subst eo46
            go_wp2_with ((go_at_call 92; (with_reducible refine (spec_hasText.calls k4 _ _ x4_4 (rdOf ByteArray.empty t544 x9_4) true _ ?side1 ?side2 A43.out).mono ?_); (case side1 => exact (zz20 HO_4.out)); (case side2 => exact (zz21 HO_4.out)); rintro e w' ⟨rfl, ⟨nd, rfl⟩⟩; (try exact dr_)))
            repeat (go_quiet (fail); try go_wp2_with (fail))
            go_roundg k4
            case measure => have := HK1.out; have := HJ8.out; have := HJ20.out; have := HK4.out; omega
            case rel => exact ⟨(x3_4), (x4_4), (wrap64 (x9_4 + 1)), zz9, H', ⟨(zz170 HK1.out HJ8.out HJ20.out HK4.out)⟩, ⟨(zz22 HO_3.out)⟩, ⟨(zz22 HO_4.out)⟩, ⟨(zz22 HO_8.out)⟩, ⟨(zz6 BK516.out)⟩, ⟨(zz6 BK530.out)⟩, ⟨(zz146 GE516.out GE530.out)⟩⟩
           ·replace c44 := Bool.eq_false_iff.mpr c44
            subst c44
            have H1 : (if x4_4.length < 8796093022208 then (if x3_4.length < 5864062014805 then (spec_planOf.l1 k4 (x3_4 ++ [(⟨0, rdOf ByteArray.empty t544 x9_4⟩ : S70)]) (x4_4 ++ [rdOf ByteArray.empty t544 x9_4]) x5_1 t544 (wrap64 (x9_4 + 1)) l0_0 l0_1 ((rd_T137 l0_1 x5_1).f0) ((rd_T137 l0_1 x5_1).f1) ((rd_T137 l0_1 x5_1).f2) ((rd_T137 l0_1 x5_1).f3)) else (none)) else (none)) = some r := by rw [if_neg (show ¬ (false = true) by decide)] at H; exact H
            clear H; have H := H1; clear H1
            obtain ⟨c47, H⟩ := in_ H
            have LMc47 := zA c47; clear c47
            obtain ⟨y550, hy550⟩ : ∃ y_ : List ByteArray, y_ = (x4_4 ++ [rdOf ByteArray.empty t544 x9_4]) := ⟨_, rfl⟩
            replace H : (if x3_4.length < 5864062014805 then (spec_planOf.l1 k4 (x3_4 ++ [(⟨0, rdOf ByteArray.empty t544 x9_4⟩ : S70)]) y550 x5_1 t544 (wrap64 (x9_4 + 1)) l0_0 l0_1 ((rd_T137 l0_1 x5_1).f0) ((rd_T137 l0_1 x5_1).f1) ((rd_T137 l0_1 x5_1).f2) ((rd_T137 l0_1 x5_1).f3)) else (none)) = some r := (zz24 hy550)
            have Ny550 := zA hy550; clear hy550
            obtain ⟨c48, H⟩ := in_ H
            have LMc48 := zA c48; clear c48
            obtain ⟨y554, hy554⟩ : ∃ y_ : List (S70), y_ = (x3_4 ++ [(⟨0, rdOf ByteArray.empty t544 x9_4⟩ : S70)]) := ⟨_, rfl⟩
            replace H : (spec_planOf.l1 k4 y554 y550 x5_1 t544 (wrap64 (x9_4 + 1)) l0_0 l0_1 ((rd_T137 l0_1 x5_1).f0) ((rd_T137 l0_1 x5_1).f1) ((rd_T137 l0_1 x5_1).f2) ((rd_T137 l0_1 x5_1).f3)) = some r := (zz24 hy554)
            have Ny554 := zA hy554; clear hy554; have H' := zA H; clear H
            obtain ⟨Ao49, co49, eo49⟩ := Kd.R_slice HO_8.out
            subst eo49
            have p547 : 0 ≤ (x9_4 : Int) := dz_
            have q547 : x9_4 < (t544.length : Int) := dz_
            obtain ⟨ad547, e547, hx547_0⟩ := Kd.at_string (Kd.R_reads' HO_8.out).2.2 x9_4 p547 q547
            cases e547
            replace p547 := eq_true p547
            replace q547 := eq_true q547
            obtain ⟨Ao50, co50, eo50⟩ := Kd.R_slice HO_4.out
            subst eo50
            go_wp2_with (first | (go_at_call 92; (with_reducible refine (spec_hasText.calls k4 _ _ x4_4 (rdOf ByteArray.empty t544 x9_4) false _ ?side1 ?side2 A43.out).mono ?_); (case side1 => exact (zz20 HO_4.out)); (case side2 => exact (zz21 HO_4.out)); rintro e w' ⟨rfl, ⟨nd, rfl⟩⟩; (try exact dr_); have p549 : 0 ≤ (x9_4 : Int) := dz_; have q549 : x9_4 < (t544.length : Int) := dz_; obtain ⟨ad549, e549, hx549_0⟩ := Kd.at_string (Kd.R_reads' HO_8.out).2.2 x9_4 p549 q549; obtain rfl : ad547 = ad549 := (by injection e549); replace p549 := eq_true p549; replace q549 := eq_true q549) | ((with_reducible refine gate_builtin (b := .append) (xs := #[.tmp 65, .tmp 70]) rfl ?_); at_builtin; refine Kd.R_append Kd.string (w0 := w) w.heap.size rfl (.tmp 65) (.tmp 70) 31 9 (.string ⟨#[]⟩) 16 rfl Try.underlying31 info9 rfl (by decide) (by omega) (.slice Ao50 x4_4.length co50) x4_4 (rdOf ByteArray.empty t544 x9_4) [.string (rdOf ByteArray.empty t544 x9_4)] (fun k_ => some k_ ≠ (.slice (some ad547) t544.length co49 : Value).ownBlock) (fun _ => False) rfl rfl ?aP (fun _ hk => hk.elim) ?aF ?aO ?aB ?aS ?aL ?_; (case aP => exact rfl); (case aB => exact (zz165 GE516.out GE530.out)); (case aF => exact (zz47 HO_8.out)); (case aO => exact (zz26 HO_4.out)); (case aS => exact (zz166 GE516.out GE530.out)); (case aL => have := LMc47.out; omega); intro v551 w51 ho hb hg hat; rw [← Ny550.out] at ho; replace HO_3 := zA (zz176 HO_3.out HO_4.out); replace HO_8 := zA (Kd.R_after (ok := (fun _ => True)) (by (with_reducible repeat first | apply Kd.R_alloc | apply Kd.R_drewN | apply Kd.R_drew); exact Kd.R_mono HO_8.out (fun _ hk => ⟨trivial, hk⟩)) hg hat); replace BK516 := zA (zz177 BK516.out HO_4.out); replace BK530 := zA (zz178 BK530.out HO_4.out); replace HB := zA (hb); have HO552 := zA (ho); clear HO_4; clear ho hb hg hat; have p553 : 0 ≤ (x9_4 : Int) := dz_; have q553 : x9_4 < (t544.length : Int) := dz_; obtain ⟨ad553, e553, hx553_0⟩ := Kd.at_string (Kd.R_reads' HO_8.out).2.2 x9_4 p553 q553; obtain rfl : ad547 = ad553 := (by injection e553); replace p553 := eq_true p553; replace q553 := eq_true q553) | ((with_reducible refine gate_builtin (b := .append) (xs := #[.tmp 72, .tmp 78]) rfl ?_); at_builtin; refine Kd.R_append k70 (w0 := w) w.heap.size rfl (.tmp 72) (.tmp 78) 25 70 (.agg #[(.int .i64 0), (.string ⟨#[]⟩)]) 24 rfl Try.underlying25 info70 rfl (by decide) (by omega) u3 x3_4 (⟨0, rdOf ByteArray.empty t544 x9_4⟩ : S70) [.int .i64 0, .string (rdOf ByteArray.empty t544 x9_4)] (fun _ => True) (fun _ => False) rfl rfl ?aP (fun _ hk => hk.elim) ?aF ?aO ?aB ?aS ?aL ?_; (case aP => exact k70_mkM _ _ _ (⟨0, rdOf ByteArray.empty t544 x9_4⟩ : S70)); (case aB => exact (zz165 GE516.out GE530.out)); (case aF => exact zz163); (case aO => exact (zz26 HO_3.out)); (case aS => exact (zz166 GE516.out GE530.out)); (case aL => have := LMc48.out; omega); intro v555 w52 ho hb hg hat; rw [← Ny554.out] at ho; replace HO_8 := zA (zz176 HO_8.out HO_3.out); replace BK516 := zA (zz177 BK516.out HO_3.out); replace BK530 := zA (zz178 BK530.out HO_3.out); replace HO552 := zA (zz176 HO552.out HO_3.out); replace HB := zA (hb); have HO556 := zA (ho); clear HO_3; clear ho hb hg hat))
            try (have p549 : 0 ≤ (x9_4 : Int) := dz_; have q549 : x9_4 < (t544.length : Int) := dz_; obtain ⟨ad549, e549, hx549_0⟩ := Kd.at_string (Kd.R_reads' HO_8.out).2.2 x9_4 p549 q549; obtain rfl : ad547 = ad549 := (by injection e549); replace p549 := eq_true p549; replace q549 := eq_true q549)
            repeat (go_quiet (fail); try go_wp2_with (fail))
            go_roundg k4
            case measure => have := HK1.out; have := HJ8.out; have := HJ20.out; have := HK4.out; omega
            case rel => exact ⟨(y554), (y550), (wrap64 (x9_4 + 1)), zz9, H', ⟨(zz170 HK1.out HJ8.out HJ20.out HK4.out)⟩, ⟨(zz22 HO556.out)⟩, ⟨(zz22 HO552.out)⟩, ⟨(zz94 HO_8.out)⟩, ⟨(zz6 BK516.out)⟩, ⟨(zz6 BK530.out)⟩, ⟨(zz146 GE516.out GE530.out)⟩⟩
          ·obtain ⟨t557, A53, H⟩ := bs_ H
           (try dsimp only at H)
           obtain ⟨c54, H⟩ := in_ H
           have LMc54 := zA c54; clear c54
           obtain ⟨y558, hy558⟩ : ∃ y_ : List (S70), y_ = (x3_4 ++ [(⟨2, t557⟩ : S70)]) := ⟨_, rfl⟩
           replace H := zB hy558 H
           have Ny558 := zA hy558; clear hy558
           obtain ⟨t561, A55, H⟩ := bs_ H
           (try dsimp only at H)
           obtain ⟨t564, A56, H⟩ := bs_ H
           (try dsimp only at H)
           obtain ⟨c57, H⟩ := in_ H
           have LMc57 := zA c57; clear c57
           obtain ⟨y567, hy567⟩ : ∃ y_ : List (S70), y_ = (y558 ++ t564) := ⟨_, rfl⟩
           replace H : ((spec_without.f k4 x4_4 t561).bind fun t570 => (spec_planOf.l0 k4 y567 t570 (wrap64 (x5_1 + 1)) l0_0 l0_1)) = some r := (zz24 hy567)
           have Ny567 := zA hy567; clear hy567
           replace H := Option.bind_eq_some_iff.mp H
           obtain ⟨t570, A580, H⟩ := H
           (try dsimp only at H)
           have A58 := zA A580; clear A580; have H' := zA H; clear H
           obtain ⟨Ao59, co59, eo59⟩ := Kd.R_slice HO_8.out
           subst eo59; have hnb60 := NB530_516.out; have hnc60 := NB516_530.out
           obtain ⟨hcz61_0, hcz61_1, hcz61_2, hcz61_3, hfz61_0, hfz61_1, hfz61_2, hfz61_3⟩ := bk4_ BK530.out
           go_wp2_with (first | (go_at_call 114; (with_reducible refine (spec_idOf.calls ((rd_T137 l0_1 x5_1).f0) ((rd_T137 l0_1 x5_1).f1) _ _ ((rd_T137 l0_1 x5_1).f2) _ _ ((rd_T137 l0_1 x5_1).f3) t557 _ ?side1 ?side2 ?side3 ?side4 A53.out).mono ?_); (case side1 => exact (zz62 HR529_2.out)); (case side2 => exact HC529_2.out); (case side3 => exact (zz62 HR529_3.out)); (case side4 => exact HC529_3.out); rintro e w62 ⟨rfl, hb⟩; replace HO_3 := zA (zz33 HO_3.out); replace HO_4 := zA (zz33 HO_4.out); replace HO_8 := zA (zz33 HO_8.out); replace BK516 := zA (zz171 BK516.out); replace BK530 := zA (zz175 BK530.out); replace HB := zA (zz167 GE516.out GE530.out); (try clear hb)) | ((with_reducible refine gate_builtin (b := .append) (xs := #[.tmp 80, .tmp 84]) rfl ?_); at_builtin; refine Kd.R_append k70 (w0 := w) w.heap.size rfl (.tmp 80) (.tmp 84) 25 70 (.agg #[(.int .i64 0), (.string ⟨#[]⟩)]) 24 rfl Try.underlying25 info70 rfl (by decide) (by omega) u3 x3_4 (⟨2, t557⟩ : S70) [.int .i64 2, .string t557] (fun _ => True) (fun _ => False) rfl rfl ?aP (fun _ hk => hk.elim) ?aF ?aO ?aB ?aS ?aL ?_; (case aP => exact k70_mkM _ _ _ (⟨2, t557⟩ : S70)); (case aB => exact (zz165 GE516.out GE530.out)); (case aF => exact zz163); (case aO => exact (zz26 HO_3.out)); (case aS => exact (zz166 GE516.out GE530.out)); (case aL => have := LMc54.out; omega); intro v559 w63 ho hb hg hat; rw [← Ny558.out] at ho; replace HO_4 := zA (zz176 HO_4.out HO_3.out); replace HO_8 := zA (zz176 HO_8.out HO_3.out); replace BK516 := zA (zz177 BK516.out HO_3.out); replace BK530 := zA (zz178 BK530.out HO_3.out); replace HB := zA (hb); have HO560 := zA (ho); clear HO_3; clear ho hb hg hat; obtain ⟨hcz64_0, hcz64_1, hfz64_0, hfz64_1⟩ := bk2_ BK516.out; obtain ⟨Ao65, co65, eo65⟩ := Kd.R_slice HO_4.out; subst eo65) | (go_at_call 110; (with_reducible refine (spec_liveScope.calls k4 _ _ l0_0 _ _ l0_1 _ _ x4_4 0 t561 _ ?side1 ?side2 ?side3 ?side4 ?side5 ?side6 A55.out).mono ?_); (case side1 => exact (zz62 HR0_0.out)); (case side2 => exact HC0_0.out); (case side3 => exact (zz62 HR0_1.out)); (case side4 => exact HC0_1.out); (case side5 => exact (zz20 HO_4.out)); (case side6 => exact (zz21 HO_4.out)); rintro e w66 ⟨v562, rfl, ho0, hb⟩; replace HO560 := zA (zz33 HO560.out); have HO563 := zA (Kd.R_lower (Kd.R_new' (Kd.R_new' ho0 (Kd.R_lt (zz22 HO_4.out))) (Kd.R_lt (zz22 HO_8.out))) (below_size (zz164 GE516.out GE530.out))); replace HO_4 := zA (zz44 HO_4.out ho0); replace HO_8 := zA (zz44 HO_8.out ho0); replace BK516 := zA (zz171 BK516.out); replace BK530 := zA (zz175 BK530.out); replace HB := zA (zz167 GE516.out GE530.out); (try clear hb); (try clear ho0); obtain ⟨Ao67, co67, eo67⟩ := Kd.R_slice HO563.out; subst eo67) | (go_at_call 111; (with_reducible refine (spec_downs.calls k4 _ _ t561 t564 _ ?side1 ?side2 A56.out).mono ?_); (case side1 => exact (zz20 HO563.out)); (case side2 => exact (zz21 HO563.out)); rintro e w68 ⟨v565, rfl, ho0, hb⟩; replace HO_4 := zA (zz33 HO_4.out); replace HO_8 := zA (zz33 HO_8.out); replace HO563 := zA (zz33 HO563.out); have HO566 := zA (zz169 ho0 HO560.out GE516.out GE530.out); replace HO560 := zA (zz44 HO560.out ho0); replace BK516 := zA (zz171 BK516.out); replace BK530 := zA (zz175 BK530.out); replace HB := zA (zz167 GE516.out GE530.out); (try clear hb); (try clear ho0); obtain ⟨Ao70, co70, eo70⟩ := Kd.R_slice HO566.out; subst eo70) | ((with_reducible refine gate_builtin (b := .append) (xs := #[.tmp 89, .tmp 91]) rfl ?_); at_builtin; refine Kd.R_append_rows k70 (w0 := w) w.heap.size rfl (.tmp 89) (.tmp 91) 25 70 (.agg #[(.int .i64 0), (.string ⟨#[]⟩)]) 24 rfl Try.underlying25 info70 rfl (by decide) (by omega) v559 y558 t564 _ _ _ (fun k_ => some k_ ≠ (.slice Ao70 t564.length co70 : Value).ownBlock) (fun _ => False) rfl rfl ?aO ?aR (fun _ _ h => h) (fun _ h => h.elim) ?aF ?aB ?aS ?aL ?_; (case aR => exact (zz20 HO566.out)); (case aB => exact (zz165 GE516.out GE530.out)); (case aF => exact (zz47 HO566.out)); (case aO => exact (zz48 HO560.out)); (case aS => exact (zz166 GE516.out GE530.out)); (case aL => have := LMc57.out; omega); intro v568 w69 ho hb hg hat; rw [← Ny567.out] at ho; replace HO_4 := zA (zz176 HO_4.out HO560.out); replace HO_8 := zA (zz176 HO_8.out HO560.out); replace BK516 := zA (zz177 BK516.out HO560.out); replace BK530 := zA (zz178 BK530.out HO560.out); replace HO563 := zA (zz176 HO563.out HO560.out); replace HO566 := zA (zz49 HO566.out); replace HB := zA (hb); have HO569 := zA (ho); clear HO560; clear ho hb hg hat) | (go_at_call 112; (with_reducible refine (spec_without.calls k4 _ _ x4_4 _ _ t561 t570 _ ?side1 ?side2 ?side3 ?side4 A58.out).mono ?_); (case side1 => exact (zz20 HO_4.out)); (case side2 => exact (zz21 HO_4.out)); (case side3 => exact (zz20 HO563.out)); (case side4 => exact (zz21 HO563.out)); rintro e w71 ⟨v571, rfl, ho0, hb⟩; replace HO566 := zA (zz33 HO566.out); replace HO569 := zA (zz33 HO569.out); have HO572 := zA (Kd.R_lower (Kd.R_new' (Kd.R_new' (Kd.R_new' ho0 (Kd.R_lt (zz22 HO_4.out))) (Kd.R_lt (zz22 HO_8.out))) (Kd.R_lt (zz22 HO563.out))) (below_size (zz164 GE516.out GE530.out))); replace HO_4 := zA (zz44 HO_4.out ho0); replace HO_8 := zA (zz44 HO_8.out ho0); replace HO563 := zA (zz44 HO563.out ho0); replace BK516 := zA (zz171 BK516.out); replace BK530 := zA (zz175 BK530.out); replace HB := zA (zz167 GE516.out GE530.out); (try clear hb); (try clear ho0)))
           repeat (go_quiet (fail); try go_wp2_with (fail))
           go_roundg k4
           case measure => have := HK1.out; have := HJ8.out; have := HJ20.out; have := HK4.out; omega
           case rel => exact ⟨(y567), (t570), (wrap64 (x5_1 + 1)), zz9, H', ⟨(zz170 HK1.out HJ8.out HJ20.out HK4.out)⟩, ⟨(zz59 HO569.out)⟩, ⟨(zz59 HO572.out)⟩, ⟨(zz6 BK516.out)⟩, ⟨(zz146 GE516.out GE530.out)⟩⟩
   ·obtain ⟨t523, A72, H⟩ := bs_ H
    (try dsimp only at H)
    rcases ie_ H with ⟨c73, H⟩ | ⟨c73, H⟩
    ·have LMc73 := zA c73; clear c73
     obtain ⟨y526, hy526⟩ : ∃ y_ : List (S70), y_ = (x3_1 ++ t523) := ⟨_, rfl⟩
     replace H : (some y526) = some r := (zz24 hy526)
     have Ny526 := zA hy526; clear hy526
     obtain rfl := Option.some.inj H
     obtain ⟨hcz74_0, hcz74_1, hfz74_0, hfz74_1⟩ := bk2_ BK516.out
     obtain ⟨Ao75, co75, eo75⟩ := Kd.R_slice HO_4.out
     subst eo75
     go_wp2_with (first | (go_at_call 111; (with_reducible refine (spec_downs.calls k1 _ _ x4_1 t523 _ ?side1 ?side2 A72.out).mono ?_); (case side1 => exact (zz20 HO_4.out)); (case side2 => exact (zz21 HO_4.out)); rintro e w76 ⟨v524, rfl, ho0, hb⟩; replace HO_4 := zA (zz33 HO_4.out); have HO525 := zA (Kd.R_lower (Kd.R_new' ho0 (Kd.R_lt (zz22 HO_3.out))) (below_size (zz150 GE516.out))); replace HO_3 := zA (zz44 HO_3.out ho0); replace BK516 := zA (blk_below (g := gb516) (o := .cells #[.slice A0_0 l0_0.length c0_0, .slice A0_1 l0_1.length c0_1] 108 (0, 0)) (zz6 BK516.out) hb); replace HB := zA (zz138 GE516.out); (try clear hb); (try clear ho0); obtain ⟨Ao78, co78, eo78⟩ := Kd.R_slice HO525.out; subst eo78) | ((with_reducible refine gate_builtin (b := .append) (xs := #[.tmp 96, .tmp 98]) rfl ?_); at_builtin; refine Kd.R_append_rows k70 (w0 := w) w.heap.size rfl (.tmp 96) (.tmp 98) 25 70 (.agg #[(.int .i64 0), (.string ⟨#[]⟩)]) 24 rfl Try.underlying25 info70 rfl (by decide) (by omega) u3 x3_1 t523 _ _ _ (fun k_ => some k_ ≠ (.slice Ao78 t523.length co78 : Value).ownBlock) (fun _ => False) rfl rfl ?aO ?aR (fun _ _ h => h) (fun _ h => h.elim) ?aF ?aB ?aS ?aL ?_; (case aR => exact (zz20 HO525.out)); (case aB => exact (zz153 GE516.out)); (case aF => exact (zz47 HO525.out)); (case aO => exact (zz48 HO_3.out)); (case aS => exact (zz154 GE516.out)); (case aL => have := LMc73.out; omega); intro v527 w77 ho hb hg hat; rw [← Ny526.out] at ho; replace HO_4 := zA (zz176 HO_4.out HO_3.out); replace BK516 := zA (blk_grown (g := gb516) (o := .cells #[.slice A0_0 l0_0.length c0_0, .slice A0_1 l0_1.length c0_1] 108 (0, 0)) (zz6 BK516.out) hg (Kd.R_ne HO_3.out BK516.out (by decide))); replace HO525 := zA (zz49 HO525.out); replace HB := zA (hb); have HO528 := zA (ho); clear HO_3; clear ho hb hg hat))
     repeat (go_quiet (fail); try go_wp2_with (fail))
     go_ret
     exact ⟨_, zz14, (zz59 HO528.out), (zz7 GE516.out)⟩
    ·exact absurd H (by simp)

end Go.Proofs.Ytieghkchhjailaa.S
