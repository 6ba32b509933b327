-- WRITTEN by wip/ext.py
import Derived.Test.YtieghkchhjailaaSx0
import Derived.Test.YtieghkchhjailaaSx1
import Derived.Test.YtieghkchhjailaaSx2
namespace Go.Proofs.Ytieghkchhjailaa.S
open Go.RowKit Go.Proofs.YtieghkchhjailaaW.PrintWords Go.Proofs.YtieghkchhjailaaW.PrintLast Go.Proofs.YtieghkchhjailaaW.PrintMore
attribute [local go_sem] max2_int min2_int max_two min_two max_three min_three max_four min_four   -- for this text's walks alone
set_option linter.unusedVariables false
set_option linter.unusedSimpArgs false

/-! ### spec_reach: function 125 -/
theorem Kept_hit {w : World} {S : Nat → Prop} {a : Addr} {v : Value} (h0 : w.cell? a = some v) (h : ∀ W_, Kept w W_ S → ∃ u, W_.cell? a = some u) : ¬ S a.block := by
 intro hs
 have hlt := World.block_lt_of_cell? w a h0
 obtain ⟨u, hu⟩ := h { w with heap := w.heap.setIfInBounds a.block (.cells #[] 0 (0, 0)) } ⟨by simp, fun i hi hn => by
  show (w.heap.setIfInBounds a.block _)[i]? = _
  have hne : a.block ≠ i := fun e => hn (by rw [← e]; exact hs)
  rw [Array.getElem?_setIfInBounds_ne hne]⟩
 have e : (w.heap.setIfInBounds a.block (.cells #[] 0 (0, 0)))[a.block]? = some (.cells #[] 0 (0, 0)) := by
  rw [Array.getElem?_setIfInBounds_self]
  simp [hlt]
 simp [World.cell?, e] at hu
theorem at_stringK {w : World} {S : Nat → Prop} {A : Option Addr} {n : Nat} {xs : List ByteArray} (h : ∀ W_, Kept w W_ S → Kd.C Kd.string W_ A n xs) (i : Int) (h0 : 0 ≤ i) (h1 : i < n) : ∃ ad, A = some ad ∧ ∀ W_, Kept w W_ S → W_.cell? (ad.add i.toNat) = some (.string (rdOf ByteArray.empty xs i)) := by
 obtain ⟨ad, e, _⟩ := Kd.at_string (h w (Kept.refl w S)) i h0 h1
 refine ⟨ad, e, fun W_ hk => ?_⟩
 obtain ⟨ad2, e2, h2⟩ := Kd.at_string (h W_ hk) i h0 h1
 rw [e] at e2
 obtain rfl := Option.some.inj e2
 exact h2
theorem at_T133K {w : World} {S : Nat → Prop} {A : Option Addr} {n : Nat} {xs : List S133} (h : ∀ W_, Kept w W_ S → Kd.C k133 W_ A n xs) (W : World) (hW : Kept w W S) (i : Int) (h0 : 0 ≤ i) (h1 : i < n) : ∃ ad A2 c2, A = some ad ∧ W.cell? (ad.add (i.toNat * 4)) = some (.string (rd_T133 xs i).f0) ∧ W.cell? ⟨(ad.add (i.toNat * 4)).block, (ad.add (i.toNat * 4)).off + 1, none⟩ = some (.int .i64 (rd_T133 xs i).f1) ∧ W.cell? ⟨(ad.add (i.toNat * 4)).block, (ad.add (i.toNat * 4)).off + 2, none⟩ = some (.slice A2 (rd_T133 xs i).f2.length c2) ∧ W.cell? ⟨(ad.add (i.toNat * 4)).block, (ad.add (i.toNat * 4)).off + 3, none⟩ = some (.bool (rd_T133 xs i).f3) ∧ (rd_T133 xs i).f2.length ≤ c2 ∧ ∀ W_, Kept w W_ S → Kd.string.C W_ A2 (rd_T133 xs i).f2.length (rd_T133 xs i).f2 := by
 obtain ⟨ad, A2, c2, e, a0, a1, a2, a3, a4, a5⟩ := at_T133 (h w (Kept.refl w S)) i h0 h1
 have hit : ¬ S (ad.add (i.toNat * 4)).block := Kept_hit a0 (fun W_ hk => by
  obtain ⟨ad2, B2, d2, e2, b0, _⟩ := at_T133 (h W_ hk) i h0 h1
  rw [e] at e2
  obtain rfl := Option.some.inj e2
  exact ⟨_, b0⟩)
 refine ⟨ad, A2, c2, e, cell_kept a0 hW hit, cell_kept a1 hW hit, cell_kept a2 hW hit, cell_kept a3 hW hit, a4, fun W_ hk => ?_⟩
 obtain ⟨ad2, B2, d2, e2, b0, b1, b2, b3, b4, b5⟩ := at_T133 (h W_ hk) i h0 h1
 rw [e] at e2
 obtain rfl := Option.some.inj e2
 have a2' := cell_kept a2 hk hit
 rw [a2'] at b2
 injection b2 with q
 injection q with q1 q2 q3
 subst q1
 exact b5
mutual
def spec_reach.j0 : Nat → ByteArray → List ByteArray → List ByteArray → Int → Bool → List (S133) → List (S137) → Option (List ByteArray)
 | 0, _, _, _, _, _, _, _ => none
 | k + 1, x1, x2, x3, x9, x27, x374000, x374001 => if x27 = true then (some x3) else (if 0 ≤ x9 then (if x9 < (x374000.length : Int) then (spec_reach.l0 k x1 x2 x3 ((rd_T133 x374000 x9).f2) 0 x374000 x374001) else (none)) else (none))
def spec_reach.l0 : Nat → ByteArray → List ByteArray → List ByteArray → List ByteArray → Int → List (S133) → List (S137) → Option (List ByteArray)
 | 0, _, _, _, _, _, _, _ => none
 | k + 1, x1, x2, x3, x10, x11, x374000, x374001 => if x11 < (x10.length : Int) then (if 0 ≤ x11 then ((some (([] : List ByteArray) : List ByteArray)).bind fun y379 => (if y379.length + x2.length < 8796093022208 then ((some (y379 ++ x2 : List ByteArray)).bind fun y382 => ((some (([x1] : List ByteArray) : List ByteArray)).bind fun y385 => (if y382.length + y385.length < 8796093022208 then ((spec_reach.f k x374000 x374001 (rdOf ByteArray.empty x10 x11) (y382 ++ y385) x3).bind fun t391 => (spec_reach.l0 k x1 x2 t391 x10 (wrap64 (x11 + 1)) x374000 x374001)) else (none)))) else (none))) else (none)) else ((some (([x1] : List ByteArray) : List ByteArray)).bind fun y394 => (if x3.length + y394.length < 8796093022208 then (some (x3 ++ y394)) else (none)))
def spec_reach.f : Nat → List (S133) → List (S137) → ByteArray → List ByteArray → List ByteArray → Option (List ByteArray)
 | 0, _, _, _, _, _ => none
 | k + 1, l0_0, l0_1, a1, l2, l3 => (spec_fixtureAt.f k l0_0 a1).bind fun t374 => (if t374 < 0 then (spec_reach.j0 k a1 l2 l3 t374 true l0_0 l0_1) else ((spec_hasText.f k l3 a1).bind fun t375 => (if t375 = true then (spec_reach.j0 k a1 l2 l3 t374 true l0_0 l0_1) else ((spec_hasText.f k l2 a1).bind fun t376 => (spec_reach.j0 k a1 l2 l3 t374 t376 l0_0 l0_1)))))
end
theorem spec_reach.mono_l : ∀ k, (∀ y0 y1 y2 y3 y4, LeO (spec_reach.f k y0 y1 y2 y3 y4) (spec_reach.f (k + 1) y0 y1 y2 y3 y4)) ∧ (∀ y0 y1 y2 y3 y4 y5 y6, LeO (spec_reach.j0 k y0 y1 y2 y3 y4 y5 y6) (spec_reach.j0 (k + 1) y0 y1 y2 y3 y4 y5 y6)) ∧ (∀ y0 y1 y2 y3 y4 y5 y6, LeO (spec_reach.l0 k y0 y1 y2 y3 y4 y5 y6) (spec_reach.l0 (k + 1) y0 y1 y2 y3 y4 y5 y6))
 | 0 => ⟨fun _ _ _ _ _ r h => by simp [spec_reach.f] at h, fun _ _ _ _ _ _ _ r h => by simp [spec_reach.j0] at h, fun _ _ _ _ _ _ _ r h => by simp [spec_reach.l0] at h⟩
 | k + 1 => by
  obtain ⟨ih0, ih1, ih2⟩ := spec_reach.mono_l k
  refine ⟨?_, ?_, ?_⟩
  ·intro y0 y1 y2 y3 y4
   unfold spec_reach.f
   repeat' first | (with_reducible first | exact ih0 _ _ _ _ _ | exact ih1 _ _ _ _ _ _ _ | exact ih2 _ _ _ _ _ _ _ | exact spec_fixtureAt.mono _ _ _ | exact spec_hasText.mono _ _ _ | exact le1_ | exact le2_ | apply LeO.ite | refine LeO.bind ?_ fun _ => ?_) | apply LeO.ite | refine LeO.bind ?_ fun _ => ?_
  ·intro y0 y1 y2 y3 y4 y5 y6
   unfold spec_reach.j0
   repeat' first | (with_reducible first | exact ih0 _ _ _ _ _ | exact ih1 _ _ _ _ _ _ _ | exact ih2 _ _ _ _ _ _ _ | exact spec_fixtureAt.mono _ _ _ | exact spec_hasText.mono _ _ _ | exact le1_ | exact le2_ | apply LeO.ite | refine LeO.bind ?_ fun _ => ?_) | apply LeO.ite | refine LeO.bind ?_ fun _ => ?_
  ·intro y0 y1 y2 y3 y4 y5 y6
   unfold spec_reach.l0
   repeat' first | (with_reducible first | exact ih0 _ _ _ _ _ | exact ih1 _ _ _ _ _ _ _ | exact ih2 _ _ _ _ _ _ _ | exact spec_fixtureAt.mono _ _ _ | exact spec_hasText.mono _ _ _ | exact le1_ | exact le2_ | apply LeO.ite | refine LeO.bind ?_ fun _ => ?_) | apply LeO.ite | refine LeO.bind ?_ fun _ => ?_
theorem spec_reach.mono : ∀ a0 a1 a2 a3 a4 k, LeO (spec_reach.f k a0 a1 a2 a3 a4) (spec_reach.f (k + 1) a0 a1 a2 a3 a4) := by
 intro a0 a1 a2 a3 a4 k
 obtain ⟨ih0, ih1, ih2⟩ := spec_reach.mono_l k
 exact ih0 a0 a1 a2 a3 a4
def spec_reach.T8 : Bool × List (List Nat × List Nat) := (true, [([], []), ([], []), ([], []), ([1, 2], [1, 2]), ([3], [3]), ([], []), ([], []), ([5, 6], [5, 6]), ([], []), ([8], [8]), ([7, 9, 7], [7, 9]), ([], []), ([0, 4, 10, 11, 10], [0, 4, 10, 11]), ([12, 12, 0, 1, 2, 3, 4, 5, 6, 7, 8, 9, 10, 11, 12], [11, 12])])
def spec_reach.B8 : List Nat := [0, 0, 0, 6, 14, 0, 0, 96, 0, 256, 992, 0, 4095, 8191]
theorem spec_reach.tab8 : rtab .any (opsOf Try.f125 8) = spec_reach.T8 := by kernel_rfl
theorem spec_reach.bits8 : waitsOk spec_reach.T8.2 spec_reach.B8 = true := by kernel_rfl
set_option maxHeartbeats 8000000 in
set_option maxRecDepth 10000000 in
theorem spec_reach.calls (k : Nat) : ∀ (A0_0 : Option Addr) (c0_0 : Nat) (l0_0 : List (S133)) (A0_1 : Option Addr) (c0_1 : Nat) (l0_1 : List (S137)) (a1 : ByteArray) (A2 : Option Addr) (c2 : Nat) (l2 : List ByteArray) (P3_ : Nat → Prop) (u9000_ : Value) (l3 : List ByteArray) (r : List ByteArray) (w0 w : World) (hB : Below w0.heap.size w0 w) (hr0_0 : ∀ W_, Kept w W_ (fun k_ => P3_ k_) → Kd.C k133 W_ A0_0 l0_0.length l0_0) (hc0_0 : l0_0.length ≤ c0_0) (hr0_1 : ∀ W_, Kept w W_ (fun k_ => P3_ k_) → Kd.C k137 W_ A0_1 l0_1.length l0_1) (hc0_1 : l0_1.length ≤ c0_1) (hr2 : ∀ W_, Kept w W_ (fun k_ => P3_ k_) → Kd.C Kd.string W_ A2 l2.length l2) (hc2 : l2.length ≤ c2) (ho3 : Kd.R Kd.string 9 w w0.heap.size P3_ u9000_ l3) (h : spec_reach.f k l0_0 l0_1 a1 l2 l3 = some r),
  Calls Try.prog 125 #[.agg #[.slice A0_0 l0_0.length c0_0, .slice A0_1 l0_1.length c0_1], .string a1, .slice A2 l2.length c2, u9000_] w fun e w' => ∃ v0_ : Value, e = .returned (v0_) ∧ Kd.R Kd.string 9 w' w0.heap.size (fun k_ => (P3_ k_ ∨ w.heap.size ≤ k_)) v0_ r ∧ Below w0.heap.size w0 w' ∧ Kept w w' (fun k_ => P3_ k_) := by
 induction k using Nat.strongRecOn with
 | _ k ih =>
 intro A0_0 c0_0 l0_0 A0_1 c0_1 l0_1 a1 A2 c2 l2 P3_ u9000_ l3 r w0 w hB hr0_0 hc0_0 hr0_1 hc0_1 hr2 hc2 ho3 h
 cases k with
 | zero => exact absurd h (by simp [spec_reach.f])
 | succ k =>
 simp only [spec_reach.f] at h
 have hu108 := Try.underlying108; have HR0_0 := zA hr0_0; have HC0_0 := zA hc0_0; clear hr0_0 hc0_0; have HR0_1 := zA hr0_1; have HC0_1 := zA hc0_1; clear hr0_1 hc0_1; have HR2 := zA hr2; have HC2 := zA hc2; clear hr2 hc2; have HO3 := zA (show Kd.R Kd.string 9 w w0.heap.size (fun k_ => (P3_ k_ ∨ w.heap.size ≤ k_)) u9000_ l3 from Kd.R_mono ho3 (fun k_ hk => (.inl hk))); have HK := zA (Kept.refl w (fun k_ => P3_ k_)); have HW0 := zA hB.size; have HB := zA hB; clear hB
 have H : ((spec_fixtureAt.f k l0_0 a1).bind fun t374 => (if t374 < 0 then (spec_reach.j0 k a1 l2 l3 t374 true l0_0 l0_1) else ((spec_hasText.f k l3 a1).bind fun t375 => (if t375 = true then (spec_reach.j0 k a1 l2 l3 t374 true l0_0 l0_1) else ((spec_hasText.f k l2 a1).bind fun t376 => (spec_reach.j0 k a1 l2 l3 t374 t376 l0_0 l0_1)))))) = some r := h
 clear h
 replace H := Option.bind_eq_some_iff.mp H
 obtain ⟨t374, A50, H⟩ := H
 (try dsimp only at H)
 have A5 := zA A50; clear A50; have HC6 := zA H; clear H
 go_enter Try.func125, Try.ntmps125
 go_upto_region 2 with (first | ((with_reducible refine gate_dst (N := 4) rfl ?_); refine bx_ 4 #[.slice A0_0 l0_0.length c0_0, .slice A0_1 l0_1.length c0_1] 108 ?_; intro gb373 hg w7 hbox hb; replace HO3 := zA (zz33 HO3.out); have BK373 := zA (hbox); have GW373 := zA ((by rw [hg]; exact (by first | exact HK.out.1 | exact (show Kept w _ (fun k_ => P3_ k_) from by repeat (first | (with_reducible first | exact HK.out | apply Kept.alloc | apply Kept.drewN | apply Kept.drew) | exact HK.out)).1) : w.heap.size ≤ gb373)); replace HK := zA (Kept.below (S := (fun k_ => P3_ k_)) (by repeat first | (with_reducible first | exact HK.out | apply Kept.alloc | apply Kept.drewN | apply Kept.drew) | exact HK.out) hb); have GE373 := zA ((zz38 : w0.heap.size ≤ gb373)); replace HB := zA zz4; clear hb hbox hg; obtain ⟨hcz8_0, hcz8_1, hfz8_0, hfz8_1⟩ := bk2_ BK373.out) | ((with_reducible refine gate_callee (f := 120) rfl ?_); refine goesL_ (some 15) rfl rfl Try.func120 (by kernel_rfl) rfl #[.slice A0_0 l0_0.length c0_0, .string a1] rfl zz17 ?_; (with_reducible refine (spec_fixtureAt.calls k _ _ l0_0 a1 t374 _ ?side1 ?side2 A5.out).mono ?_); (case side1 => exact (zz147 HR0_0.out GW373.out)); (case side2 => exact HC0_0.out); rintro e w' ⟨rfl, ⟨nd, rfl⟩⟩; refine ⟨_, rfl, ?_⟩))
 (try simp only [Act.put, List.setIfInBounds_toArray, List.set_cons_zero, List.set_cons_succ])
 go_cut [27] (fun v27 wc => ∃ (kq : Nat) (x27_5 : Bool), v27 = .bool x27_5 ∧ Aside0 (spec_reach.j0 kq a1 l2 l3 t374 x27_5 l0_0 l0_1 = some r) ∧ Aside0 (kq ≤ k) ∧ Aside0 (Kd.R Kd.string 9 wc w0.heap.size (fun k_ => (P3_ k_ ∨ w.heap.size ≤ k_)) u9000_ l3) ∧ Aside0 (wc.heap[gb373]? = some (.cells #[(.slice A0_0 l0_0.length c0_0), (.slice A0_1 l0_1.length c0_1)] 108 (0, 0))) ∧ Aside0 (Kept w wc (fun k_ => P3_ k_)) ∧ Aside0 (Below w0.heap.size w0 wc))
 case first =>
  have H := HC6.out; clear HC6
  rcases iu_ H with ⟨c9b0, H⟩ | ⟨c9b0, H⟩
  ·(first | rw [c9b0] | (simp only [i64_w, i32_w]; rw [c9b0]) | skip)
   have H' := zA H; clear H
   go_wp2
   go_meet
   case rel => exact ⟨_, (true), zz9, H', ⟨zz10⟩, ⟨(zz22 HO3.out)⟩, ⟨(zz6 BK373.out)⟩, ⟨(zz148 GW373.out)⟩, ⟨(zz7 GE373.out)⟩⟩
  ·(first | rw [c9b0] | (simp only [i64_w, i32_w]; rw [c9b0]) | skip)
   obtain ⟨t375, A10, H⟩ := bs_ H
   (try dsimp only at H)
   by_cases c11 : t375 = true
   ·subst c11
    have H1 : (spec_reach.j0 k a1 l2 l3 t374 true l0_0 l0_1) = some r := by rw [if_pos rfl] at H; exact H
    clear H; have H := H1; clear H1; have H' := zA H; clear H
    obtain ⟨Ao12, co12, eo12⟩ := Kd.R_slice HO3.out
    subst eo12
    go_wp2_with ((go_at_call 92; (with_reducible refine (spec_hasText.calls k _ _ l3 a1 true _ ?side1 ?side2 A10.out).mono ?_); (case side1 => exact (zz20 HO3.out)); (case side2 => exact (zz21 HO3.out)); rintro e w' ⟨rfl, ⟨nd, rfl⟩⟩))
    go_meet
    case rel => exact ⟨_, (true), zz9, H', ⟨zz10⟩, ⟨(zz22 HO3.out)⟩, ⟨(zz6 BK373.out)⟩, ⟨(zz148 GW373.out)⟩, ⟨(zz7 GE373.out)⟩⟩
   ·replace c11 := Bool.eq_false_iff.mpr c11
    subst c11
    have H1 : ((spec_hasText.f k l2 a1).bind fun t376 => (spec_reach.j0 k a1 l2 l3 t374 t376 l0_0 l0_1)) = some r := by rw [if_neg (show ¬ (false = true) by decide)] at H; exact H
    clear H; have H := H1; clear H1
    replace H := Option.bind_eq_some_iff.mp H
    obtain ⟨t376, A130, H⟩ := H
    (try dsimp only at H)
    have A13 := zA A130; clear A130; have H' := zA H; clear H
    obtain ⟨Ao14, co14, eo14⟩ := Kd.R_slice HO3.out
    subst eo14
    go_wp2_with (first | (go_at_call 92; (with_reducible refine (spec_hasText.calls k _ _ l3 a1 false _ ?side1 ?side2 A10.out).mono ?_); (case side1 => exact (zz20 HO3.out)); (case side2 => exact (zz21 HO3.out)); rintro e w' ⟨rfl, ⟨nd, rfl⟩⟩) | (go_at_call 92; (with_reducible refine (spec_hasText.calls k _ _ l2 a1 t376 _ ?side1 ?side2 A13.out).mono ?_); (case side1 => exact (zz147 HR2.out GW373.out)); (case side2 => exact HC2.out); rintro e w' ⟨rfl, ⟨nd, rfl⟩⟩))
    go_meet
    case rel => exact ⟨_, (t376), zz9, H', ⟨zz10⟩, ⟨(zz22 HO3.out)⟩, ⟨(zz6 BK373.out)⟩, ⟨(zz148 GW373.out)⟩, ⟨(zz7 GE373.out)⟩⟩
 case rest =>
  clear HC6; try clear c1; try clear c2; try clear p2; try clear c9; try clear c9b0; try clear c11; try clear c12; try clear hcz8_0; try clear hcz8_1; try clear hfz8_0; try clear hfz8_1
  obtain ⟨kq, x27_5, rfl, HA, HJ5, HO_3, BK373, HK, HB⟩ := hcut
  cases kq with
  | zero => exact absurd HA.out (by simp [spec_reach.j0])
  | succ kj5 =>
   have H := HA.out; clear HA
   simp only [spec_reach.j0] at H
   by_cases c15 : x27_5 = true
   ·subst c15
    have H1 : (some l3) = some r := by rw [if_pos rfl] at H; exact H
    clear H; have H := H1; clear H1
    obtain rfl := Option.some.inj H
    go_wp2
    go_ret
    exact ⟨_, zz14, (zz22 HO_3.out), (zz7 GE373.out), (zz148 GW373.out)⟩
   ·replace c15 := Bool.eq_false_iff.mpr c15
    subst c15
    have H1 : (if 0 ≤ t374 then (if t374 < (l0_0.length : Int) then (spec_reach.l0 kj5 a1 l2 l3 ((rd_T133 l0_0 t374).f2) 0 l0_0 l0_1) else (none)) else (none)) = some r := by rw [if_neg (show ¬ (false = true) by decide)] at H; exact H
    clear H; have H := H1; clear H1
    rcases ie_ H with ⟨c16, H⟩ | ⟨c16, H⟩
    ·have c16b0 := decide_eq_true c16
     clear c16
     obtain ⟨c17b0, H⟩ := it_ H
     have H' := zA H; clear H
     obtain ⟨hcz18_0, hcz18_1, hfz18_0, hfz18_1⟩ := bk2_ BK373.out
     have p377 : 0 ≤ (t374 : Int) := dz_
     have q377 : t374 < (l0_0.length : Int) := dz_
     obtain ⟨ad377, A377_2, c377_2, e377, hx377_0, hx377_1, hx377_2, hx377_3, hl377_2, hi377_2⟩ := at_T133K HR0_0.out _ HK.out t374 p377 q377
     cases e377
     have HR377_2 := zA hi377_2; have HC377_2 := zA hl377_2; clear hi377_2 hl377_2
     replace p377 := eq_true p377
     replace q377 := eq_true q377
     go_wp2
     go_loopg [3, 11] kj5 (fun kq v3 v11 w' => ∃ (x3_2 : List ByteArray) (x11_2 : Int), v11 = .int .i64 x11_2 ∧ Aside0 (spec_reach.l0 kq a1 l2 x3_2 ((rd_T133 l0_0 t374).f2) x11_2 l0_0 l0_1 = some r) ∧ Aside0 (kq ≤ kj5) ∧ Aside0 (Kd.R Kd.string 9 w' w0.heap.size (fun k_ => (P3_ k_ ∨ w.heap.size ≤ k_)) v3 x3_2) ∧ Aside0 (w'.heap[gb373]? = some (.cells #[(.slice (some ad377) l0_0.length c0_0), (.slice A0_1 l0_1.length c0_1)] 108 (0, 0))) ∧ Aside0 (Kept w w' (fun k_ => P3_ k_)) ∧ Aside0 (Below w0.heap.size w0 w'))
     case atStart => exact ⟨(l3), (0), zz9, H', ⟨Nat.le_refl _⟩, ⟨(zz22 HO_3.out)⟩, ⟨(zz6 BK373.out)⟩, ⟨(zz148 GW373.out)⟩, ⟨(zz7 GE373.out)⟩⟩
     case round =>
      clear H'; try clear c1; try clear c2; try clear p2; try clear c3; try clear p3; try clear q3; try clear hx3; try clear c9; try clear c9b0; try clear c11; try clear c12; try clear c15; try clear c16; try clear c16b0; try clear c17; try clear c17b0; try clear hcz18_0; try clear hcz18_1; try clear hcz8_0; try clear hcz8_1; try clear hfz18_0; try clear hfz18_1; try clear hfz8_0; try clear hfz8_1; try clear hx377_0; try clear hx377_1; try clear hx377_2; try clear hx377_3; try clear p2; try clear p377; try clear q377
      obtain ⟨x3_2, x11_2, rfl, HA, HK2, HO_3, BK373, HK, HB⟩ := hrel
      cases gk with
      | zero => exact absurd HA.out (by simp [spec_reach.l0])
      | succ k2 =>
       have H := HA.out; clear HA
       simp only [spec_reach.l0] at H
       rcases iu_ H with ⟨c19b0, H⟩ | ⟨c19b0, H⟩
       ·obtain ⟨c20b0, H⟩ := it_ H
        obtain ⟨y379, hy379⟩ : ∃ y_ : List ByteArray, y_ = (([] : List ByteArray)) := ⟨_, rfl⟩
        replace H := zB hy379 H
        have Ny379 := zA hy379; clear hy379
        obtain ⟨c21, H⟩ := in_ H
        have LMc21 := zA c21; clear c21
        obtain ⟨y382, hy382⟩ : ∃ y_ : List ByteArray, y_ = (y379 ++ l2) := ⟨_, rfl⟩
        replace H := zB hy382 H
        have Ny382 := zA hy382; clear hy382
        obtain ⟨y385, hy385⟩ : ∃ y_ : List ByteArray, y_ = (([a1] : List ByteArray)) := ⟨_, rfl⟩
        replace H := zB hy385 H
        have Ny385 := zA hy385; clear hy385
        obtain ⟨c22, H⟩ := in_ H
        have LMc22 := zA c22; clear c22
        obtain ⟨y388, hy388⟩ : ∃ y_ : List ByteArray, y_ = (y382 ++ y385) := ⟨_, rfl⟩
        replace H : ((spec_reach.f k2 l0_0 l0_1 (rdOf ByteArray.empty ((rd_T133 l0_0 t374).f2) x11_2) y388 x3_2).bind fun t391 => (spec_reach.l0 k2 a1 l2 t391 ((rd_T133 l0_0 t374).f2) (wrap64 (x11_2 + 1)) l0_0 l0_1)) = some r := (zz24 hy388)
        have Ny388 := zA hy388; clear hy388
        replace H := Option.bind_eq_some_iff.mp H
        obtain ⟨t391, A230, H⟩ := H
        (try dsimp only at H)
        have A23 := zA A230; clear A230; have H' := zA H; clear H
        obtain ⟨Ao24, co24, eo24⟩ := Kd.R_slice HO_3.out
        subst eo24; try go_wp2; replace HO_3 := zA (Kd.R_drew HO_3.out); replace BK373 := zA (blk_drew BK373.out); replace HK := zA (Kept.drew HK.out); replace HB := zA zz40
        have p378 : 0 ≤ (x11_2 : Int) := dz_
        have q378 : x11_2 < (((rd_T133 l0_0 t374).f2).length : Int) := dz_
        obtain ⟨ad378, e378, hx378_0⟩ := at_stringK HR377_2.out x11_2 p378 q378
        have hw378_0 := zA hx378_0
        cases e378
        replace hx378_0 := hx378_0 _ HK.out
        replace p378 := eq_true p378
        replace q378 := eq_true q378
        refine start_ (n := 14) (S := fun w' => w'.cell? ⟨gb373, 0, none⟩ = some (.slice (some ad377) l0_0.length c0_0) ∧ w'.cell? ⟨gb373, 1, none⟩ = some (.slice A0_1 l0_1.length c0_1) ∧ w'.cell? (ad378.add (x11_2).toNat) = some (.string (rdOf ByteArray.empty ((rd_T133 l0_0 t374).f2) x11_2))) (ds := []) #[ff,ff,ff,ff,ff,ff,ff,ff,ff,ff,ff,ff,ff,ff] (by kernel_rfl) rfl rfl ⟨bq_ BK373.out 0, bq_ BK373.out 1, (hw378_0.out _ HK.out)⟩ (fun hHeld => ?_); refine with_tabW spec_reach.tab8 spec_reach.bits8 (fun HT_ HW_ => ?_)
        generalize wr.drew = w25 at HO_3 BK373 HK HB hx378_0 hHeld ⊢
        refine qp_ 1 42 ?_
        refine qp_ 2 43 ?_
        refine qp_ 3 44 ?_
        refine qp_ 6 47 ?_
        refine qp_ 8 49 ?_
        refine qp_ 11 52 ?_
        refine qt_ 0 41 ?_
        refine qt_ 4 45 ?_
        refine join_ (σ := Value × Value × Value) 3 #[tt,tt,tt,tt,tt,tt,tt,tt,tt,tt,ff,tt,ff,ff] (fun s_ => [(46, s_.1), (48, s_.2.1), (50, s_.2.2)]) (fun s_ w' => (w'.cell? ⟨gb373, 0, none⟩ = some (.slice (some ad377) l0_0.length c0_0) ∧ w'.cell? ⟨gb373, 1, none⟩ = some (.slice A0_1 l0_1.length c0_1) ∧ w'.cell? (ad378.add (x11_2).toNat) = some (.string (rdOf ByteArray.empty ((rd_T133 l0_0 t374).f2) x11_2))) ∧ (Kd.R Kd.string 9 w' w0.heap.size (fun k_ => (P3_ k_ ∨ w.heap.size ≤ k_) ∧ some k_ ≠ (s_.2.2 : Value).ownBlock ∧ some k_ ≠ (.slice Ao24 x3_2.length co24 : Value).ownBlock) s_.2.1 y382) ∧ (Kd.R Kd.string 9 w' w0.heap.size (fun k_ => (P3_ k_ ∨ w.heap.size ≤ k_) ∧ some k_ ≠ (s_.2.1 : Value).ownBlock ∧ some k_ ≠ (.slice Ao24 x3_2.length co24 : Value).ownBlock) s_.2.2 y385) ∧ (Kd.R Kd.string 9 w' w0.heap.size (fun k_ => (P3_ k_ ∨ w.heap.size ≤ k_) ∧ some k_ ≠ (s_.2.1 : Value).ownBlock ∧ some k_ ≠ (s_.2.2 : Value).ownBlock) (.slice Ao24 x3_2.length co24) x3_2) ∧ (w'.heap[gb373]? = some (.cells #[.slice (some ad377) l0_0.length c0_0, .slice A0_1 l0_1.length c0_1] 108 (0, 0))) ∧ (Kept w w' (fun k_ => P3_ k_)) ∧ (Below w0.heap.size w0 w')) ?_ ?_
        rotate_left
        ·intro hCont
         refine two_ (i := 5) (j := 9) (Ni := some 46) (Nj := some 50) #[tt,tt,tt,tt,tt,tt,tt,ff,tt,ff,ff,tt,ff,ff] #[tt,tt,tt,tt,tt,ff,tt,ff,tt,tt,ff,tt,ff,ff] rfl rfl rfl rfl (two_of HT_.out (by kernel_rfl)) (by decide) (by decide) (fun K hK => ?_) (fun K hK => ?_)
         ·skip
          refine Kd.R_lit_step Kd.string _ 9 ?hg (N := 46) ?hd (xs := ([] : List ByteArray)) (inner := []) (ok := fun _ => True) (okp := fun _ => True) ?hr ?hp (fun _ hk => hk) trivial (Below.refl _ _) (Nat.le_refl _) (by simp) ?_; (case hd => rfl); (case hg => rfl); (case hr => exact zz32); (case hp => exact (Reps.none _ _))
          intro v380 w26 ho27 hb hg_ hnew_
          clear hg_ hnew_
          replace ho27 := ny_ Ny379.out ho27
          have HO381 := zA (Kd.R_lower (Kd.R_new' (Kd.R_newM (M := fun k_ => (P3_ k_ ∨ w.heap.size ≤ k_)) ho27 (zz149 GW373.out) (fun k_ h_ => .inr h_)) (Kd.R_lt (zz22 HO_3.out))) (below_size (zz150 GE373.out)))
          replace HO_3 := zA (zz44 HO_3.out ho27)
          replace BK373 := zA (zz151 BK373.out)
          replace HK := zA (Kept.below (S := (fun k_ => P3_ k_)) (zz152 GW373.out) hb)
          replace HB := zA (zz138 GE373.out)
          clear hb ho27
          refine hK.out _ _ ⟨bq_ BK373.out 0, bq_ BK373.out 1, (hw378_0.out _ HK.out)⟩ (fun hHeld => ?_)
          clear hK K
          refine qn_ 46 ?_
          refine two_ (i := 7) (j := 9) (Ni := some 48) (Nj := some 50) #[tt,tt,tt,tt,tt,tt,tt,tt,tt,ff,ff,tt,ff,ff] #[tt,tt,tt,tt,tt,tt,tt,ff,tt,tt,ff,tt,ff,ff] rfl rfl rfl rfl (two_of HT_.out (by kernel_rfl)) (by decide) (by decide) (fun K hK => ?_) (fun K hK => ?_)
          ·skip
           refine Kd.R_append_rows_step Kd.string (w0 := w0) w0.heap.size (by rfl) (.tmp 46) (.tmp 47) 31 9 (.string ⟨#[]⟩) 16 rfl Try.underlying31 info9 rfl (by decide) (by omega) v380 y379 l2 _ _ _ (fun k_ => (P3_ k_ ∨ w.heap.size ≤ k_) ∧ some k_ ≠ (.slice Ao24 x3_2.length co24 : Value).ownBlock) (fun _ => False) rfl rfl ?aO ?aR (fun _ _ h => h) (fun _ h => h.elim) ?aF ?aB ?aS ?aL ?_
           (case aR => exact (zz147 HR2.out GW373.out))
           (case aB => exact (zz153 GE373.out))
           (case aF => exact (fun k_ hk => ⟨(.inr (Nat.le_trans (zz149 GW373.out) hk)), Kd.fresh' (Kd.R_lt (zz22 HO_3.out)) k_ hk⟩))
           (case aO => exact (by (with_reducible repeat first | apply Kd.R_alloc | apply Kd.R_drewN | apply Kd.R_drew); exact Kd.R_mono HO381.out (fun _ hk => ⟨hk.1.1, hk.2⟩)))
           (case aS => exact (zz154 GE373.out))
           (case aL => have := LMc21.out; omega)
           intro v383 w28 ho hb hg hat
           rw [← Ny382.out] at ho
           replace HO_3 := zA (Kd.R_after (ok := (fun k_ => (P3_ k_ ∨ w.heap.size ≤ k_))) (zz22 HO_3.out) hg hat)
           replace BK373 := zA (zz155 BK373.out HO381.out)
           replace HB := zA (hb)
           replace HK := zA (Kept.of_grown (S := (fun k_ => P3_ k_)) hg (zz152 GW373.out) (fun k_ e_ => (HO381.out.1 k_ e_).1.1))
           have HO384 := zA (ho)
           clear HO381 ho hb hg hat
           refine hK.out _ _ ⟨bq_ BK373.out 0, bq_ BK373.out 1, (hw378_0.out _ HK.out)⟩ (fun hHeld => ?_)
           clear hK K
           refine qn_ 48 ?_
           refine qo_ 9 50 (fun K hK => ?_)
           refine Kd.R_lit_step Kd.string _ 9 ?hg (N := 50) ?hd (xs := ([a1] : List ByteArray)) (inner := [.string a1]) (ok := fun _ => True) (okp := fun _ => True) ?hr ?hp (fun _ hk => hk) trivial (Below.refl _ _) (Nat.le_refl _) (by simp) ?_; (case hd => rfl); (case hg => rfl); (case hr => exact zz32); (case hp => exact zz156)
           intro v386 w29 ho30 hb hg_ hnew_
           clear hg_ hnew_
           replace ho30 := ny_ Ny385.out ho30
           have HO387 := zA (Kd.R_lower (Kd.R_new' (Kd.R_new' (Kd.R_newM (M := fun k_ => (P3_ k_ ∨ w.heap.size ≤ k_)) ho30 (zz149 GW373.out) (fun k_ h_ => .inr h_)) (Kd.R_lt (zz22 HO_3.out))) (Kd.R_lt (zz22 HO384.out))) (below_size (zz150 GE373.out)))
           replace HO_3 := zA (zz44 HO_3.out ho30)
           replace HO384 := zA (zz44 HO384.out ho30)
           replace BK373 := zA (zz151 BK373.out)
           replace HK := zA (Kept.below (S := (fun k_ => P3_ k_)) (zz152 GW373.out) hb)
           replace HB := zA (zz138 GE373.out)
           clear hb ho30
           refine hK.out _ _ ⟨bq_ BK373.out 0, bq_ BK373.out 1, (hw378_0.out _ HK.out)⟩ (fun hHeld => ?_)
           clear hK K
           refine qn_ 50 ?_
           exact norm_ zz52 (hCont (v380, v383, v386) _ ⟨hHeld, (zz157 HO384.out), (by (with_reducible repeat first | apply Kd.R_alloc | apply Kd.R_drewN | apply Kd.R_drew); exact Kd.R_mono HO387.out (fun _ hk => ⟨hk.1.1.1, ⟨hk.2, hk.1.2⟩⟩)), (by (with_reducible repeat first | apply Kd.R_alloc | apply Kd.R_drewN | apply Kd.R_drew); exact Kd.R_mono HO_3.out (fun _ hk => ⟨hk.1.1, ⟨hk.1.2, hk.2⟩⟩)), (zz6 BK373.out), (zz152 GW373.out), (zz150 GE373.out)⟩)
          ·skip
           refine Kd.R_lit_step Kd.string _ 9 ?hg (N := 50) ?hd (xs := ([a1] : List ByteArray)) (inner := [.string a1]) (ok := fun _ => True) (okp := fun _ => True) ?hr ?hp (fun _ hk => hk) trivial (Below.refl _ _) (Nat.le_refl _) (by simp) ?_; (case hd => rfl); (case hg => rfl); (case hr => exact zz32); (case hp => exact zz156)
           intro v386 w28 ho29 hb hg_ hnew_
           clear hg_ hnew_
           replace ho29 := ny_ Ny385.out ho29
           have HO387 := zA (Kd.R_lower (Kd.R_new' (Kd.R_new' (Kd.R_newM (M := fun k_ => (P3_ k_ ∨ w.heap.size ≤ k_)) ho29 (zz149 GW373.out) (fun k_ h_ => .inr h_)) (Kd.R_lt (zz22 HO_3.out))) (Kd.R_lt (zz22 HO381.out))) (below_size (zz150 GE373.out)))
           replace HO_3 := zA (zz44 HO_3.out ho29)
           replace HO381 := zA (zz44 HO381.out ho29)
           replace BK373 := zA (zz151 BK373.out)
           replace HK := zA (Kept.below (S := (fun k_ => P3_ k_)) (zz152 GW373.out) hb)
           replace HB := zA (zz138 GE373.out)
           clear hb ho29
           refine hK.out _ _ ⟨bq_ BK373.out 0, bq_ BK373.out 1, (hw378_0.out _ HK.out)⟩ (fun hHeld => ?_)
           clear hK K
           refine qn_ 50 ?_
           refine qo_ 7 48 (fun K hK => ?_)
           refine Kd.R_append_rows_step Kd.string (w0 := w0) w0.heap.size (by rfl) (.tmp 46) (.tmp 47) 31 9 (.string ⟨#[]⟩) 16 rfl Try.underlying31 info9 rfl (by decide) (by omega) v380 y379 l2 _ _ _ (fun k_ => (P3_ k_ ∨ w.heap.size ≤ k_) ∧ some k_ ≠ (.slice Ao24 x3_2.length co24 : Value).ownBlock ∧ some k_ ≠ (v386 : Value).ownBlock) (fun _ => False) rfl rfl ?aO ?aR (fun _ _ h => h) (fun _ h => h.elim) ?aF ?aB ?aS ?aL ?_
           (case aR => exact (zz147 HR2.out GW373.out))
           (case aB => exact (zz153 GE373.out))
           (case aF => exact (fun k_ hk => ⟨(.inr (Nat.le_trans (zz149 GW373.out) hk)), Kd.fresh' (Kd.R_lt (zz22 HO_3.out)) k_ hk, Kd.fresh' (Kd.R_lt (zz22 HO387.out)) k_ hk⟩))
           (case aO => exact (by (with_reducible repeat first | apply Kd.R_alloc | apply Kd.R_drewN | apply Kd.R_drew); exact Kd.R_mono HO381.out (fun _ hk => ⟨hk.1.1.1, ⟨hk.1.2, hk.2⟩⟩)))
           (case aS => exact (zz154 GE373.out))
           (case aL => have := LMc21.out; omega)
           intro v383 w30 ho hb hg hat
           rw [← Ny382.out] at ho
           replace HO_3 := zA (Kd.R_after (ok := (fun k_ => (P3_ k_ ∨ w.heap.size ≤ k_) ∧ some k_ ≠ (v386 : Value).ownBlock)) (by (with_reducible repeat first | apply Kd.R_alloc | apply Kd.R_drewN | apply Kd.R_drew); exact Kd.R_mono HO_3.out (fun _ hk => ⟨⟨hk.1.1, hk.2⟩, hk.1.2⟩)) hg hat)
           replace BK373 := zA (zz155 BK373.out HO381.out)
           replace HO387 := zA (Kd.R_after (ok := (fun k_ => (P3_ k_ ∨ w.heap.size ≤ k_) ∧ some k_ ≠ (.slice Ao24 x3_2.length co24 : Value).ownBlock)) (by (with_reducible repeat first | apply Kd.R_alloc | apply Kd.R_drewN | apply Kd.R_drew); exact Kd.R_mono HO387.out (fun _ hk => ⟨⟨hk.1.1.1, hk.1.2⟩, hk.2⟩)) hg hat)
           replace HB := zA (hb)
           replace HK := zA (Kept.of_grown (S := (fun k_ => P3_ k_)) hg (zz152 GW373.out) (fun k_ e_ => (HO381.out.1 k_ e_).1.1.1))
           have HO384 := zA (ho)
           clear HO381 ho hb hg hat
           refine hK.out _ _ ⟨bq_ BK373.out 0, bq_ BK373.out 1, (hw378_0.out _ HK.out)⟩ (fun hHeld => ?_)
           clear hK K
           refine qn_ 48 ?_
           exact norm_ zz52 (hCont (v380, v383, v386) _ ⟨hHeld, (by (with_reducible repeat first | apply Kd.R_alloc | apply Kd.R_drewN | apply Kd.R_drew); exact Kd.R_mono HO384.out (fun _ hk => ⟨hk.1, ⟨hk.2.2, hk.2.1⟩⟩)), (zz157 HO387.out), (zz157 HO_3.out), (zz6 BK373.out), (zz152 GW373.out), (zz150 GE373.out)⟩)
         ·skip
          refine Kd.R_lit_step Kd.string _ 9 ?hg (N := 50) ?hd (xs := ([a1] : List ByteArray)) (inner := [.string a1]) (ok := fun _ => True) (okp := fun _ => True) ?hr ?hp (fun _ hk => hk) trivial (Below.refl _ _) (Nat.le_refl _) (by simp) ?_; (case hd => rfl); (case hg => rfl); (case hr => exact zz32); (case hp => exact zz156)
          intro v386 w26 ho27 hb hg_ hnew_
          clear hg_ hnew_
          replace ho27 := ny_ Ny385.out ho27
          have HO387 := zA (Kd.R_lower (Kd.R_new' (Kd.R_newM (M := fun k_ => (P3_ k_ ∨ w.heap.size ≤ k_)) ho27 (zz149 GW373.out) (fun k_ h_ => .inr h_)) (Kd.R_lt (zz22 HO_3.out))) (below_size (zz150 GE373.out)))
          replace HO_3 := zA (zz44 HO_3.out ho27)
          replace BK373 := zA (zz151 BK373.out)
          replace HK := zA (Kept.below (S := (fun k_ => P3_ k_)) (zz152 GW373.out) hb)
          replace HB := zA (zz138 GE373.out)
          clear hb ho27
          refine hK.out _ _ ⟨bq_ BK373.out 0, bq_ BK373.out 1, (hw378_0.out _ HK.out)⟩ (fun hHeld => ?_)
          clear hK K
          refine qn_ 50 ?_
          refine qo_ 5 46 (fun K hK => ?_)
          refine Kd.R_lit_step Kd.string _ 9 ?hg (N := 46) ?hd (xs := ([] : List ByteArray)) (inner := []) (ok := fun _ => True) (okp := fun _ => True) ?hr ?hp (fun _ hk => hk) trivial (Below.refl _ _) (Nat.le_refl _) (by simp) ?_; (case hd => rfl); (case hg => rfl); (case hr => exact zz32); (case hp => exact (Reps.none _ _))
          intro v380 w28 ho29 hb hg_ hnew_
          clear hg_ hnew_
          replace ho29 := ny_ Ny379.out ho29
          have HO381 := zA (Kd.R_lower (Kd.R_new' (Kd.R_new' (Kd.R_newM (M := fun k_ => (P3_ k_ ∨ w.heap.size ≤ k_)) ho29 (zz149 GW373.out) (fun k_ h_ => .inr h_)) (Kd.R_lt (zz22 HO_3.out))) (Kd.R_lt (zz22 HO387.out))) (below_size (zz150 GE373.out)))
          replace HO_3 := zA (zz44 HO_3.out ho29)
          replace HO387 := zA (zz44 HO387.out ho29)
          replace BK373 := zA (zz151 BK373.out)
          replace HK := zA (Kept.below (S := (fun k_ => P3_ k_)) (zz152 GW373.out) hb)
          replace HB := zA (zz138 GE373.out)
          clear hb ho29
          refine hK.out _ _ ⟨bq_ BK373.out 0, bq_ BK373.out 1, (hw378_0.out _ HK.out)⟩ (fun hHeld => ?_)
          clear hK K
          refine qn_ 46 ?_
          refine qo_ 7 48 (fun K hK => ?_)
          refine Kd.R_append_rows_step Kd.string (w0 := w0) w0.heap.size (by rfl) (.tmp 46) (.tmp 47) 31 9 (.string ⟨#[]⟩) 16 rfl Try.underlying31 info9 rfl (by decide) (by omega) v380 y379 l2 _ _ _ (fun k_ => (P3_ k_ ∨ w.heap.size ≤ k_) ∧ some k_ ≠ (.slice Ao24 x3_2.length co24 : Value).ownBlock ∧ some k_ ≠ (v386 : Value).ownBlock) (fun _ => False) rfl rfl ?aO ?aR (fun _ _ h => h) (fun _ h => h.elim) ?aF ?aB ?aS ?aL ?_
          (case aR => exact (zz147 HR2.out GW373.out))
          (case aB => exact (zz153 GE373.out))
          (case aF => exact (fun k_ hk => ⟨(.inr (Nat.le_trans (zz149 GW373.out) hk)), Kd.fresh' (Kd.R_lt (zz22 HO_3.out)) k_ hk, Kd.fresh' (Kd.R_lt (zz22 HO387.out)) k_ hk⟩))
          (case aO => exact (by (with_reducible repeat first | apply Kd.R_alloc | apply Kd.R_drewN | apply Kd.R_drew); exact Kd.R_mono HO381.out (fun _ hk => ⟨hk.1.1.1, ⟨hk.1.2, hk.2⟩⟩)))
          (case aS => exact (zz154 GE373.out))
          (case aL => have := LMc21.out; omega)
          intro v383 w30 ho hb hg hat
          rw [← Ny382.out] at ho
          replace HO_3 := zA (Kd.R_after (ok := (fun k_ => (P3_ k_ ∨ w.heap.size ≤ k_) ∧ some k_ ≠ (v386 : Value).ownBlock)) (zz22 HO_3.out) hg hat)
          replace BK373 := zA (zz155 BK373.out HO381.out)
          replace HO387 := zA (Kd.R_after (ok := (fun k_ => (P3_ k_ ∨ w.heap.size ≤ k_) ∧ some k_ ≠ (.slice Ao24 x3_2.length co24 : Value).ownBlock)) (by (with_reducible repeat first | apply Kd.R_alloc | apply Kd.R_drewN | apply Kd.R_drew); exact Kd.R_mono HO387.out (fun _ hk => ⟨⟨hk.1.1.1, hk.1.2⟩, hk.2⟩)) hg hat)
          replace HB := zA (hb)
          replace HK := zA (Kept.of_grown (S := (fun k_ => P3_ k_)) hg (zz152 GW373.out) (fun k_ e_ => (HO381.out.1 k_ e_).1.1.1))
          have HO384 := zA (ho)
          clear HO381 ho hb hg hat
          refine hK.out _ _ ⟨bq_ BK373.out 0, bq_ BK373.out 1, (hw378_0.out _ HK.out)⟩ (fun hHeld => ?_)
          clear hK K
          refine qn_ 48 ?_
          exact norm_ zz52 (hCont (v380, v383, v386) _ ⟨hHeld, (by (with_reducible repeat first | apply Kd.R_alloc | apply Kd.R_drewN | apply Kd.R_drew); exact Kd.R_mono HO384.out (fun _ hk => ⟨hk.1, ⟨hk.2.2, hk.2.1⟩⟩)), (zz157 HO387.out), (zz157 HO_3.out), (zz6 BK373.out), (zz152 GW373.out), (zz150 GE373.out)⟩)
        rintro ⟨v380, v383, v386⟩ w31 ⟨hS_, h0_, h1_, h2_, h3_, h4_, h5_⟩
        have n0_ : Aside0 (Kd.R Kd.string 9 w31 w0.heap.size (fun k_ => (P3_ k_ ∨ w.heap.size ≤ k_) ∧ some k_ ≠ (v386 : Value).ownBlock ∧ some k_ ≠ (.slice Ao24 x3_2.length co24 : Value).ownBlock) v383 y382) := ⟨h0_⟩
        have n1_ : Aside0 (Kd.R Kd.string 9 w31 w0.heap.size (fun k_ => (P3_ k_ ∨ w.heap.size ≤ k_) ∧ some k_ ≠ (v383 : Value).ownBlock ∧ some k_ ≠ (.slice Ao24 x3_2.length co24 : Value).ownBlock) v386 y385) := ⟨h1_⟩
        have n2_ : Aside0 (Kd.R Kd.string 9 w31 w0.heap.size (fun k_ => (P3_ k_ ∨ w.heap.size ≤ k_) ∧ some k_ ≠ (v383 : Value).ownBlock ∧ some k_ ≠ (v386 : Value).ownBlock) (.slice Ao24 x3_2.length co24) x3_2) := ⟨h2_⟩
        have n3_ : Aside0 (w31.heap[gb373]? = some (.cells #[.slice (some ad377) l0_0.length c0_0, .slice A0_1 l0_1.length c0_1] 108 (0, 0))) := ⟨h3_⟩
        have n4_ : Aside0 (Kept w w31 (fun k_ => P3_ k_)) := ⟨h4_⟩
        have n5_ : Aside0 (Below w0.heap.size w0 w31) := ⟨h5_⟩
        clear HO_3 BK373 HK HB h0_ h1_ h2_ h3_ h4_ h5_; have HO384 := n0_; have HO387 := n1_; have HO_3 := n2_; have BK373 := n3_; have HK := n4_; have HB := n5_; clear n0_ n1_ n2_ n3_ n4_ n5_
        have hHeld : w31.cell? ⟨gb373, 0, none⟩ = some (.slice (some ad377) l0_0.length c0_0) ∧ w31.cell? ⟨gb373, 1, none⟩ = some (.slice A0_1 l0_1.length c0_1) ∧ w31.cell? (ad378.add (x11_2).toNat) = some (.string (rdOf ByteArray.empty ((rd_T133 l0_0 t374).f2) x11_2)) := hS_
        obtain ⟨Ao33, co33, eo33⟩ := Kd.R_slice HO387.out
        (first | subst eo33 | (injection eo33 with f1_ f2_ f3_; have f4_ := f1_.symm; have f5_ := f3_.symm; clear f1_ f2_ f3_; subst f4_; subst f5_))
        refine norm_ (a' := ?_) ?_ ?_
        rotate_left
        ·simp only [putAll, Act.put, List.setIfInBounds_toArray, List.set_cons_zero, List.set_cons_succ]
         rfl
        refine qo_ 10 51 (fun K hK => ?_)
        refine Kd.R_append_rows_step Kd.string (w0 := w0) w0.heap.size (by rfl) (.tmp 48) (.tmp 50) 31 9 (.string ⟨#[]⟩) 16 rfl Try.underlying31 info9 rfl (by decide) (by omega) v383 y382 y385 _ _ _ (fun k_ => (P3_ k_ ∨ w.heap.size ≤ k_) ∧ some k_ ≠ (.slice Ao24 x3_2.length co24 : Value).ownBlock ∧ some k_ ≠ (.slice Ao33 y385.length co33 : Value).ownBlock) (fun _ => False) rfl rfl ?aO ?aR (fun _ _ h => h) (fun _ h => h.elim) ?aF ?aB ?aS ?aL ?_
        (case aR => exact (zz20 HO387.out))
        (case aB => exact (zz153 GE373.out))
        (case aF => exact (fun k_ hk => ⟨(.inr (Nat.le_trans (zz149 GW373.out) hk)), Kd.fresh' (Kd.R_lt (zz22 HO_3.out)) k_ hk, Kd.fresh' (Kd.R_lt (zz22 HO387.out)) k_ hk⟩))
        (case aO => exact (by (with_reducible repeat first | apply Kd.R_alloc | apply Kd.R_drewN | apply Kd.R_drew); exact Kd.R_mono HO384.out (fun _ hk => ⟨hk.1, ⟨hk.2.2, hk.2.1⟩⟩)))
        (case aS => exact (zz154 GE373.out))
        (case aL => have := LMc22.out; omega)
        intro v389 w32 ho hb hg hat
        rw [← Ny388.out] at ho
        replace HO_3 := zA (Kd.R_after (ok := (fun k_ => (P3_ k_ ∨ w.heap.size ≤ k_) ∧ some k_ ≠ (.slice Ao33 y385.length co33 : Value).ownBlock)) (by (with_reducible repeat first | apply Kd.R_alloc | apply Kd.R_drewN | apply Kd.R_drew); exact Kd.R_mono HO_3.out (fun _ hk => ⟨⟨hk.1, hk.2.2⟩, hk.2.1⟩)) hg hat)
        replace BK373 := zA (zz155 BK373.out HO384.out)
        replace HO387 := zA (Kd.R_after (ok := (fun k_ => (P3_ k_ ∨ w.heap.size ≤ k_) ∧ some k_ ≠ (.slice Ao24 x3_2.length co24 : Value).ownBlock)) (by (with_reducible repeat first | apply Kd.R_alloc | apply Kd.R_drewN | apply Kd.R_drew); exact Kd.R_mono HO387.out (fun _ hk => ⟨⟨hk.1, hk.2.2⟩, hk.2.1⟩)) hg hat)
        replace HB := zA (hb)
        replace HK := zA (Kept.of_grown (S := (fun k_ => P3_ k_)) hg (zz152 GW373.out) (fun k_ e_ => (HO384.out.1 k_ e_).1))
        have HO390 := zA (ho)
        clear HO384 ho hb hg hat
        obtain ⟨Ao34, co34, eo34⟩ := Kd.R_slice HO390.out
        (first | subst eo34 | (injection eo34 with f1_ f2_ f3_; have f4_ := f1_.symm; have f5_ := f3_.symm; clear f1_ f2_ f3_; subst f4_; subst f5_))
        refine hK.out _ _ ⟨bq_ BK373.out 0, bq_ BK373.out 1, (hw378_0.out _ HK.out)⟩ (fun hHeld => ?_)
        clear hK K
        refine qn_ 51 ?_
        refine qo_ 12 53 (fun K hK => ?_)
        refine goes_ Try.func125 (by kernel_rfl) rfl #[.agg #[.slice (some ad377) l0_0.length c0_0, .slice A0_1 l0_1.length c0_1], .string (rdOf ByteArray.empty ((rd_T133 l0_0 t374).f2) x11_2), .slice Ao34 y388.length co34, .slice Ao24 x3_2.length co24] (by rfl) rfl rfl zz17 ?_
        with_reducible refine (ih k2 (zz41 HJ5.out HK2.out) _ _ l0_0 _ _ l0_1 (rdOf ByteArray.empty ((rd_T133 l0_0 t374).f2) x11_2) _ _ y388 (fun k_ => some k_ = (.slice Ao24 x3_2.length co24 : Value).ownBlock) (.slice Ao24 x3_2.length co24) x3_2 t391 w0 _ ?side1 ?side2 ?side3 ?side4 ?side5 ?side6 ?side7 ?side8 A23.out).mono ?_
        (case side1 => exact (zz7 GE373.out))
        (case side2 => exact Kd.C_kept_call HR0_0.out (zz152 GW373.out) (fun k_ hs_ => (fun e_ => (HO_3.out.1 k_ e_.symm).1.1) hs_))
        (case side3 => exact HC0_0.out)
        (case side4 => exact Kd.C_kept_call HR0_1.out (zz152 GW373.out) (fun k_ hs_ => (fun e_ => (HO_3.out.1 k_ e_.symm).1.1) hs_))
        (case side5 => exact HC0_1.out)
        (case side6 => exact Kd.C_kept_own (HO390.out) (fun k_ hk_ hs_ => (hk_.2.1) hs_))
        (case side7 => exact (zz21 HO390.out))
        (case side8 => exact Kd.R_tight rfl HO_3.out)
        rintro e w35 ⟨v392, rfl, ho0, hb, hkp⟩
        refine ⟨_, rfl, ?_⟩
        replace BK373 := zA (zz158 BK373.out HO_3.out)
        have HO393 := zA (Kd.R_mono (ok' := fun k_ => (P3_ k_ ∨ w.heap.size ≤ k_) ∧ some k_ ≠ (.slice Ao33 y385.length co33 : Value).ownBlock ∧ some k_ ≠ (.slice Ao34 y388.length co34 : Value).ownBlock) ho0 (fun k_ hk_ => ⟨Or.elim hk_ (fun hs_ => (HO_3.out.1 k_ (hs_).symm).1.1) (fun hn_ => (.inr (Nat.le_trans (zz149 GW373.out) hn_))), Or.elim hk_ (fun hs_ => fun e_ => (((HO387.out).1 k_ e_.symm).1.2) hs_) (fun hn_ => (Kd.fresh' (Kd.R_lt (zz22 HO387.out)) k_ hn_)), Or.elim hk_ (fun hs_ => fun e_ => (((HO390.out).1 k_ e_.symm).2.1) hs_) (fun hn_ => (Kd.fresh' (Kd.R_lt (zz22 HO390.out)) k_ hn_))⟩))
        replace HO387 := zA (Kd.R_mono (ok' := fun k_ => (P3_ k_ ∨ w.heap.size ≤ k_) ∧ some k_ ≠ (.slice Ao34 y388.length co34 : Value).ownBlock ∧ some k_ ≠ (v392 : Value).ownBlock) (Kd.R_keptB (HO387.out) hkp (fun k_ hk_ hs_ => (hk_.1.2) hs_)) (fun k_ hk_ => ⟨hk_.1.1.1, hk_.1.2, fun e_ => Or.elim (ho0.1 k_ e_.symm) (fun hs_ => hk_.2.1 hs_) (fun hn_ => Nat.not_le.2 hk_.2.2 hn_)⟩))
        replace HO390 := zA (Kd.R_mono (ok' := fun k_ => (P3_ k_ ∨ w.heap.size ≤ k_) ∧ some k_ ≠ (.slice Ao33 y385.length co33 : Value).ownBlock ∧ some k_ ≠ (v392 : Value).ownBlock) (Kd.R_keptB (HO390.out) hkp (fun k_ hk_ hs_ => (hk_.2.1) hs_)) (fun k_ hk_ => ⟨hk_.1.1, hk_.1.2.2, fun e_ => Or.elim (ho0.1 k_ e_.symm) (fun hs_ => hk_.2.1 hs_) (fun hn_ => Nat.not_le.2 hk_.2.2 hn_)⟩))
        replace HK := zA (Kept.then_ (S := (fun k_ => P3_ k_)) (zz152 GW373.out) hkp (fun k_ hs_ => (fun e_ => (HO_3.out.1 k_ e_.symm).1.1) hs_))
        replace HB := zA (hb)
        clear HO_3
        (try clear hb)
        (try clear hkp)
        (try clear ho0)
        refine hK.out _ _ ⟨bq_ BK373.out 0, bq_ BK373.out 1, (hw378_0.out _ HK.out)⟩ (fun hHeld => ?_)
        clear hK K
        refine qn_ 53 ?_
        refine qp_ 13 3 ?_
        refine qd_ ?_
        try go_wp2
        go_roundg k2
        case measure => have := HJ5.out; have := HK2.out; omega
        case rel => exact ⟨(t391), (wrap64 (x11_2 + 1)), zz9, H', ⟨(zz41 HJ5.out HK2.out)⟩, ⟨(zz159 HO393.out)⟩, ⟨(zz6 BK373.out)⟩, ⟨(zz148 GW373.out)⟩, ⟨(zz7 GE373.out)⟩⟩
       ·obtain ⟨y394, hy394⟩ : ∃ y_ : List ByteArray, y_ = (([a1] : List ByteArray)) := ⟨_, rfl⟩
        replace H := zB hy394 H
        have Ny394 := zA hy394; clear hy394
        obtain ⟨c36, H⟩ := in_ H
        have LMc36 := zA c36; clear c36
        obtain ⟨y397, hy397⟩ : ∃ y_ : List ByteArray, y_ = (x3_2 ++ y394) := ⟨_, rfl⟩
        replace H : (some y397) = some r := (zz24 hy397)
        have Ny397 := zA hy397; clear hy397
        obtain rfl := Option.some.inj H
        go_wp2_with (first | ((with_reducible refine gate_dst (N := 56) rfl ?_); refine Kd.R_lit Kd.string _ 9 ?hg (N := 56) ?hd (xs := ([a1] : List ByteArray)) (inner := [.string a1]) (ok := fun _ => True) (okp := fun _ => True) ?hr ?hp (fun _ hk => hk) trivial (Below.refl _ _) (Nat.le_refl _) (by simp) ?_; (case hd => rfl); (case hg => rfl); (case hr => exact zz32); (case hp => exact zz156); intro v395 w37 ho38 hb hg_ hnew_; clear hg_ hnew_; replace ho38 := ny_ Ny394.out ho38; have HO396 := zA (Kd.R_lower (Kd.R_new' (Kd.R_newM (M := fun k_ => (P3_ k_ ∨ w.heap.size ≤ k_)) ho38 (zz149 GW373.out) (fun k_ h_ => .inr h_)) (Kd.R_lt (zz22 HO_3.out))) (below_size (zz150 GE373.out))); replace HO_3 := zA (zz44 HO_3.out ho38); replace BK373 := zA (zz151 BK373.out); replace HK := zA (Kept.below (S := (fun k_ => P3_ k_)) (zz152 GW373.out) hb); replace HB := zA (zz138 GE373.out); clear hb ho38; obtain ⟨Ao40, co40, eo40⟩ := Kd.R_slice HO396.out; subst eo40) | ((with_reducible refine gate_builtin (b := .append) (xs := #[.tmp 54, .tmp 56]) rfl ?_); at_builtin; refine Kd.R_append_rows Kd.string (w0 := w0) w0.heap.size rfl (.tmp 54) (.tmp 56) 31 9 (.string ⟨#[]⟩) 16 rfl Try.underlying31 info9 rfl (by decide) (by omega) u3 x3_2 y394 _ _ _ (fun k_ => (P3_ k_ ∨ w.heap.size ≤ k_) ∧ some k_ ≠ (.slice Ao40 y394.length co40 : Value).ownBlock) (fun _ => False) rfl rfl ?aO ?aR (fun _ _ h => h) (fun _ h => h.elim) ?aF ?aB ?aS ?aL ?_; (case aR => exact (zz20 HO396.out)); (case aB => exact (zz153 GE373.out)); (case aF => exact (fun k_ hk => ⟨(.inr (Nat.le_trans (zz149 GW373.out) hk)), Kd.fresh' (Kd.R_lt (zz22 HO396.out)) k_ hk⟩)); (case aO => exact (zz26 HO_3.out)); (case aS => exact (zz154 GE373.out)); (case aL => have := LMc36.out; omega); intro v398 w39 ho hb hg hat; rw [← Ny397.out] at ho; replace BK373 := zA (zz155 BK373.out HO_3.out); replace HO396 := zA (Kd.R_after (ok := (fun k_ => (P3_ k_ ∨ w.heap.size ≤ k_))) (by (with_reducible repeat first | apply Kd.R_alloc | apply Kd.R_drewN | apply Kd.R_drew); exact Kd.R_mono HO396.out (fun _ hk => ⟨hk.1.1, hk.2⟩)) hg hat); replace HB := zA (hb); replace HK := zA (Kept.of_grown (S := (fun k_ => P3_ k_)) hg (zz152 GW373.out) (fun k_ e_ => (HO_3.out.1 k_ e_).1)); have HO399 := zA (ho); clear HO_3; clear ho hb hg hat))
        go_ret
        exact ⟨_, zz14, (zz159 HO399.out), (zz7 GE373.out), (zz148 GW373.out)⟩
    ·exact absurd H (by simp)

/-! ### spec_needs: function 131 -/
def spec_needs.f (k : Nat) (l0_0 : List (S133)) (l0_1 : List (S137)) (a1 : ByteArray) : Option (List ByteArray) := (spec_reach.f k l0_0 l0_1 a1 (([] : List ByteArray)) (([] : List ByteArray))).bind fun t407 => (if (t407.length : Int) > 0 then (if 0 ≤ (wrap64 ((t407.length : Int) - 1)) then (if (wrap64 ((t407.length : Int) - 1)) ≤ (t407.length : Int) then (some (t407.take ((wrap64 ((t407.length : Int) - 1)) : Int).toNat)) else (none)) else (none)) else (some t407))
theorem spec_needs.mono : ∀ a0 a1 a2 k, LeO (spec_needs.f k a0 a1 a2) (spec_needs.f (k + 1) a0 a1 a2) := by
 intro a0 a1 a2 k
 unfold spec_needs.f
 repeat' first | (with_reducible first | exact spec_reach.mono _ _ _ _ _ _ | exact le1_ | exact le2_ | apply LeO.ite | refine LeO.bind ?_ fun _ => ?_) | apply LeO.ite | refine LeO.bind ?_ fun _ => ?_
set_option maxHeartbeats 8000000 in
set_option maxRecDepth 100000 in
theorem spec_needs.calls (k : Nat) (A0_0 : Option Addr) (c0_0 : Nat) (l0_0 : List (S133)) (A0_1 : Option Addr) (c0_1 : Nat) (l0_1 : List (S137)) (a1 : ByteArray) (r : List ByteArray) (w : World) (hr0_0 : Kd.C k133 w A0_0 l0_0.length l0_0) (hc0_0 : l0_0.length ≤ c0_0) (hr0_1 : Kd.C k137 w A0_1 l0_1.length l0_1) (hc0_1 : l0_1.length ≤ c0_1) (h : spec_needs.f k l0_0 l0_1 a1 = some r) :
  Calls Try.prog 131 #[.agg #[.slice A0_0 l0_0.length c0_0, .slice A0_1 l0_1.length c0_1], .string a1] w fun e w' => ∃ v0_ : Value, e = .returned (v0_) ∧ Kd.R Kd.string 9 w' w.heap.size (fun _ => True) v0_ r ∧ Below w.heap.size w w' := by
 have hu108 := Try.underlying108; have HR0_0 := zA hr0_0; have HC0_0 := zA hc0_0; clear hr0_0 hc0_0; have HR0_1 := zA hr0_1; have HC0_1 := zA hc0_1; clear hr0_1 hc0_1; have HB := zA zz2
 have H : ((spec_reach.f k l0_0 l0_1 a1 (([] : List ByteArray)) (([] : List ByteArray))).bind fun t407 => (if (t407.length : Int) > 0 then (if 0 ≤ (wrap64 ((t407.length : Int) - 1)) then (if (wrap64 ((t407.length : Int) - 1)) ≤ (t407.length : Int) then (some (t407.take ((wrap64 ((t407.length : Int) - 1)) : Int).toNat)) else (none)) else (none)) else (some t407))) = some r := h
 clear h
 obtain ⟨y401, hy401⟩ : ∃ y_ : List ByteArray, y_ = (([] : List ByteArray)) := ⟨_, rfl⟩
 replace H : ((spec_reach.f k l0_0 l0_1 a1 y401 (([] : List ByteArray))).bind fun t407 => (if (t407.length : Int) > 0 then (if 0 ≤ (wrap64 ((t407.length : Int) - 1)) then (if (wrap64 ((t407.length : Int) - 1)) ≤ (t407.length : Int) then (some (t407.take ((wrap64 ((t407.length : Int) - 1)) : Int).toNat)) else (none)) else (none)) else (some t407))) = some r := (zz24 hy401)
 have Ny401 := zA hy401; clear hy401
 obtain ⟨y404, hy404⟩ : ∃ y_ : List ByteArray, y_ = (([] : List ByteArray)) := ⟨_, rfl⟩
 replace H : ((spec_reach.f k l0_0 l0_1 a1 y401 y404).bind fun t407 => (if (t407.length : Int) > 0 then (if 0 ≤ (wrap64 ((t407.length : Int) - 1)) then (if (wrap64 ((t407.length : Int) - 1)) ≤ (t407.length : Int) then (some (t407.take ((wrap64 ((t407.length : Int) - 1)) : Int).toNat)) else (none)) else (none)) else (some t407))) = some r := (zz24 hy404)
 have Ny404 := zA hy404; clear hy404
 obtain ⟨t407, A3, H⟩ := bs_ H
 (try dsimp only at H)
 rcases ie_ H with ⟨c4, H⟩ | ⟨c4, H⟩
 ·have c4b0 : decide (0 < (t407.length : Int)) = true := decide_eq_true c4
  have c4b1 : decide (0 < t407.length) = true := decide_eq_true (by omega)
  clear c4
  obtain ⟨ji5, hji5⟩ : ∃ j_ : Int, (wrap64 ((t407.length : Int) - 1)) = j_ := ⟨_, rfl⟩
  replace H : (if 0 ≤ (ji5) then (if (ji5) ≤ (t407.length : Int) then (some (t407.take ((ji5) : Int).toNat)) else (none)) else (none)) = some r := (zz15 hji5)
  (try rw [hji5] at A3)
  have hji5w : (IntKind.i64.wrap ((t407.length : Int) - 1)) = ji5 := (i64_w _).trans hji5
  obtain ⟨c6, H⟩ := in_ H
  have c6b0 := eq_true c6
  have c6b1 : decide (0 ≤ (ji5)) = true := decide_eq_true c6
  clear c6
  obtain ⟨c7, H⟩ := in_ H
  have c7b0 := eq_true c7
  have c7b1 : decide ((ji5) ≤ (t407.length : Int)) = true := decide_eq_true c7
  clear c7
  obtain ⟨y410, hy410⟩ : ∃ y_ : List ByteArray, y_ = (t407.take ((ji5) : Int).toNat) := ⟨_, rfl⟩
  replace H : (some y410) = some r := (zz24 hy410)
  have Ny410 := zA hy410; clear hy410
  obtain rfl := Option.some.inj H
  go_enter Try.func131, Try.ntmps131
  go_wp2_with (first | ((with_reducible refine gate_dst (N := 2) rfl ?_); refine bx_ 2 #[.slice A0_0 l0_0.length c0_0, .slice A0_1 l0_1.length c0_1] 108 ?_; intro gb400 hg w8 hbox hb; have BK400 := zA (hbox); have GW400 := zA ((zz38 : w.heap.size ≤ gb400)); have GE400 := zA ((zz38 : w.heap.size ≤ gb400)); replace HB := zA zz4; clear hb hbox hg; obtain ⟨hcz9_0, hcz9_1, hfz9_0, hfz9_1⟩ := bk2_ BK400.out) | ((with_reducible refine gate_dst (N := 8) rfl ?_); refine rl_ Kd.string 9 8 ?_; intro v402 w10 ho11 hb; replace ho11 := ny_ Ny401.out ho11; have HO403 := zA (zz160 ho11 GE400.out); replace BK400 := zA (zz161 BK400.out); replace HB := zA (zz138 GE400.out); clear hb ho11) | ((with_reducible refine gate_dst (N := 9) rfl ?_); refine rl_ Kd.string 9 9 ?_; intro v405 w12 ho13 hb; replace ho13 := ny_ Ny404.out ho13; have HO406 := zA (Kd.R_lower (Kd.R_new' ho13 (Kd.R_lt (zz22 HO403.out))) (below_size (zz150 GE400.out))); replace HO403 := zA (zz44 HO403.out ho13); replace BK400 := zA (zz161 BK400.out); replace HB := zA (zz138 GE400.out); clear hb ho13; obtain ⟨Ao14, co14, eo14⟩ := Kd.R_slice HO403.out; subst eo14; obtain ⟨Ao15, co15, eo15⟩ := Kd.R_slice HO406.out; subst eo15) | ((with_reducible refine gate_callee (f := 125) rfl ?_); refine goesL_ (some 10) rfl rfl Try.func125 (by kernel_rfl) rfl #[.agg #[.slice A0_0 l0_0.length c0_0, .slice A0_1 l0_1.length c0_1], .string a1, .slice Ao14 y401.length co14, .slice Ao15 y404.length co15] rfl zz17 ?_; (with_reducible refine (spec_reach.calls k _ _ l0_0 _ _ l0_1 a1 _ _ y401 (fun k_ => some k_ = (.slice Ao15 y404.length co15 : Value).ownBlock) (.slice Ao15 y404.length co15) y404 t407 w _ ?side1 ?side2 ?side3 ?side4 ?side5 ?side6 ?side7 ?side8 A3.out).mono ?_); (case side1 => exact (zz7 GE400.out)); (case side2 => exact Kd.C_kept_came k133_heap HR0_0.out (zz150 GE400.out) (fun k_ hs_ => (fun e_ => Kd.R_base HO406.out k_ e_.symm) hs_)); (case side3 => exact HC0_0.out); (case side4 => exact Kd.C_kept_came k137_heap HR0_1.out (zz150 GE400.out) (fun k_ hs_ => (fun e_ => Kd.R_base HO406.out k_ e_.symm) hs_)); (case side5 => exact HC0_1.out); (case side6 => exact (zz162 HO403.out)); (case side7 => exact (zz21 HO403.out)); (case side8 => exact Kd.R_tight rfl HO406.out); rintro e w16 ⟨v408, rfl, ho0, hb, hkp⟩; refine ⟨_, rfl, ?_⟩; replace BK400 := zA (zz158 BK400.out HO406.out); have HO409 := zA (Kd.R_mono (ok' := fun k_ => some k_ ≠ (.slice Ao14 y401.length co14 : Value).ownBlock) ho0 (fun k_ hk_ => Or.elim hk_ (fun hs_ => fun e_ => (((HO403.out).1 k_ e_.symm).2) hs_) (fun hn_ => (Kd.fresh' (Kd.R_lt (zz22 HO403.out)) k_ hn_)))); replace HO403 := zA (Kd.R_mono (ok' := fun k_ => some k_ ≠ (v408 : Value).ownBlock) (Kd.R_keptB (HO403.out) hkp (fun k_ hk_ hs_ => (hk_.2) hs_)) (fun k_ hk_ => fun e_ => Or.elim (ho0.1 k_ e_.symm) (fun hs_ => hk_.2.1 hs_) (fun hn_ => Nat.not_le.2 hk_.2.2 hn_))); replace HB := zA (hb); clear HO406; (try clear hb); (try clear hkp); (try clear ho0); obtain ⟨Ao17, co17, eo17⟩ := Kd.R_slice HO409.out; subst eo17; have q18 : ((ji5) : Int) ≤ ((t407.length : Int) : Int) := dz_; obtain ⟨i018, hi018, _, hsz18, _⟩ := info_parts info9; have hcut18 := cut_to (P := Try.prog) 31 9 .i64 Try.underlying31 hi018 Ao17 t407.length co17 (ji5) (of_decide_eq_true zz3) q18 (Kd.R_reads' HO409.out).2.1; have hr18 := Kd.R_take (m := ((ji5) : Int).toNat) HO409.out (by omega); have hy18 : y410.length = ((ji5) : Int).toNat := (zz42 Ny410.out); rw [← Ny410.out] at hr18; rw [← hy18] at hr18 hcut18; clear hy18 hi018 hsz18 HO409; have HO412 := zA hr18; clear hr18; replace q18 := eq_true q18))
  go_ret
  exact ⟨_, (zz16 hji5), (zz59 HO412.out), (zz7 GE400.out)⟩
 ·have c4b0 : decide (0 < (t407.length : Int)) = false := decide_eq_false c4
  have c4b1 : decide (0 < t407.length) = false := decide_eq_false (by omega)
  clear c4
  obtain rfl := Option.some.inj H
  go_enter Try.func131, Try.ntmps131
  go_wp2_with (first | ((with_reducible refine gate_dst (N := 2) rfl ?_); refine bx_ 2 #[.slice A0_0 l0_0.length c0_0, .slice A0_1 l0_1.length c0_1] 108 ?_; intro gb400 hg w19 hbox hb; have BK400 := zA (hbox); have GW400 := zA ((zz38 : w.heap.size ≤ gb400)); have GE400 := zA ((zz38 : w.heap.size ≤ gb400)); replace HB := zA zz4; clear hb hbox hg; obtain ⟨hcz20_0, hcz20_1, hfz20_0, hfz20_1⟩ := bk2_ BK400.out) | ((with_reducible refine gate_dst (N := 8) rfl ?_); refine rl_ Kd.string 9 8 ?_; intro v402 w21 ho22 hb; replace ho22 := ny_ Ny401.out ho22; have HO403 := zA (zz160 ho22 GE400.out); replace BK400 := zA (zz161 BK400.out); replace HB := zA (zz138 GE400.out); clear hb ho22) | ((with_reducible refine gate_dst (N := 9) rfl ?_); refine rl_ Kd.string 9 9 ?_; intro v405 w23 ho24 hb; replace ho24 := ny_ Ny404.out ho24; have HO406 := zA (Kd.R_lower (Kd.R_new' ho24 (Kd.R_lt (zz22 HO403.out))) (below_size (zz150 GE400.out))); replace HO403 := zA (zz44 HO403.out ho24); replace BK400 := zA (zz161 BK400.out); replace HB := zA (zz138 GE400.out); clear hb ho24; obtain ⟨Ao25, co25, eo25⟩ := Kd.R_slice HO403.out; subst eo25; obtain ⟨Ao26, co26, eo26⟩ := Kd.R_slice HO406.out; subst eo26) | ((with_reducible refine gate_callee (f := 125) rfl ?_); refine goesL_ (some 10) rfl rfl Try.func125 (by kernel_rfl) rfl #[.agg #[.slice A0_0 l0_0.length c0_0, .slice A0_1 l0_1.length c0_1], .string a1, .slice Ao25 y401.length co25, .slice Ao26 y404.length co26] rfl zz17 ?_; (with_reducible refine (spec_reach.calls k _ _ l0_0 _ _ l0_1 a1 _ _ y401 (fun k_ => some k_ = (.slice Ao26 y404.length co26 : Value).ownBlock) (.slice Ao26 y404.length co26) y404 t407 w _ ?side1 ?side2 ?side3 ?side4 ?side5 ?side6 ?side7 ?side8 A3.out).mono ?_); (case side1 => exact (zz7 GE400.out)); (case side2 => exact Kd.C_kept_came k133_heap HR0_0.out (zz150 GE400.out) (fun k_ hs_ => (fun e_ => Kd.R_base HO406.out k_ e_.symm) hs_)); (case side3 => exact HC0_0.out); (case side4 => exact Kd.C_kept_came k137_heap HR0_1.out (zz150 GE400.out) (fun k_ hs_ => (fun e_ => Kd.R_base HO406.out k_ e_.symm) hs_)); (case side5 => exact HC0_1.out); (case side6 => exact (zz162 HO403.out)); (case side7 => exact (zz21 HO403.out)); (case side8 => exact Kd.R_tight rfl HO406.out); rintro e w27 ⟨v408, rfl, ho0, hb, hkp⟩; refine ⟨_, rfl, ?_⟩; replace BK400 := zA (zz158 BK400.out HO406.out); have HO409 := zA (Kd.R_mono (ok' := fun k_ => some k_ ≠ (.slice Ao25 y401.length co25 : Value).ownBlock) ho0 (fun k_ hk_ => Or.elim hk_ (fun hs_ => fun e_ => (((HO403.out).1 k_ e_.symm).2) hs_) (fun hn_ => (Kd.fresh' (Kd.R_lt (zz22 HO403.out)) k_ hn_)))); replace HO403 := zA (Kd.R_mono (ok' := fun k_ => some k_ ≠ (v408 : Value).ownBlock) (Kd.R_keptB (HO403.out) hkp (fun k_ hk_ hs_ => (hk_.2) hs_)) (fun k_ hk_ => fun e_ => Or.elim (ho0.1 k_ e_.symm) (fun hs_ => hk_.2.1 hs_) (fun hn_ => Nat.not_le.2 hk_.2.2 hn_))); replace HB := zA (hb); clear HO406; (try clear hb); (try clear hkp); (try clear ho0); obtain ⟨Ao28, co28, eo28⟩ := Kd.R_slice HO409.out; subst eo28))
  go_ret
  exact ⟨_, zz14, (zz59 HO409.out), (zz7 GE400.out)⟩

end Go.Proofs.Ytieghkchhjailaa.S
