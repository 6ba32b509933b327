-- WRITTEN by wip/ext.py
import Derived.Test.YtieghkchhjailaaSx0
import Derived.Test.YtieghkchhjailaaSx2
import Derived.Test.YtieghkchhjailaaSx10
namespace Go.Proofs.Ytieghkchhjailaa.S
open Go.RowKit Go.Proofs.YtieghkchhjailaaW.PrintWords Go.Proofs.YtieghkchhjailaaW.PrintLast Go.Proofs.YtieghkchhjailaaW.PrintMore
attribute [local go_sem] max2_int min2_int max_two min_two max_three min_three max_four min_four   -- for this text's walks alone
set_option linter.unusedVariables false
set_option linter.unusedSimpArgs false

/-! ### spec_closure: function 113 -/
mutual
def spec_closure.l0 : Nat → List ByteArray → Int → List (S133) → List (S137) → ByteArray → ByteArray → List ByteArray → List ByteArray → Option (List ByteArray)
 | 0, _, _, _, _, _, _, _, _ => none
 | k + 1, x5, x6, x487000, x487001, x488000, x488001, x488002, x488003 => if x6 < (x487000.length : Int) then (if 0 ≤ x6 then (if (rd_T133 x487000 x6).f3 = true then ((spec_reach.f k x487000 x487001 ((rd_T133 x487000 x6).f0) (([] : List ByteArray)) x5).bind fun t496 => (spec_closure.l0 k t496 (wrap64 (x6 + 1)) x487000 x487001 x488000 x488001 x488002 x488003)) else (spec_closure.l0 k x5 (wrap64 (x6 + 1)) x487000 x487001 x488000 x488001 x488002 x488003)) else (none)) else (spec_closure.l1 k x5 0 x487000 x487001 x488000 x488001 x488002 x488003)
def spec_closure.l1 : Nat → List ByteArray → Int → List (S133) → List (S137) → ByteArray → ByteArray → List ByteArray → List ByteArray → Option (List ByteArray)
 | 0, _, _, _, _, _, _, _, _ => none
 | k + 1, x5, x7, x487000, x487001, x488000, x488001, x488002, x488003 => if x7 < (x488003.length : Int) then (if 0 ≤ x7 then ((spec_reach.f k x487000 x487001 (rdOf ByteArray.empty x488003 x7) (([] : List ByteArray)) x5).bind fun t503 => (spec_closure.l1 k t503 (wrap64 (x7 + 1)) x487000 x487001 x488000 x488001 x488002 x488003)) else (none)) else (spec_closure.l2 k x5 (([] : List ByteArray)) 2 x487000 x487001)
def spec_closure.l2 : Nat → List ByteArray → List ByteArray → Int → List (S133) → List (S137) → Option (List ByteArray)
 | 0, _, _, _, _, _ => none
 | k + 1, x5, x8, x9, x487000, x487001 => if x9 ≥ 0 then (spec_closure.l3 k x5 x8 x9 0 x487000 x487001) else (some x8)
def spec_closure.l3 : Nat → List ByteArray → List ByteArray → Int → Int → List (S133) → List (S137) → Option (List ByteArray)
 | 0, _, _, _, _, _, _ => none
 | k + 1, x5, x8, x9, x10, x487000, x487001 => if x10 < (x5.length : Int) then (if 0 ≤ x10 then ((spec_fixtureAt.f k x487000 (rdOf ByteArray.empty x5 x10)).bind fun t510 => (if 0 ≤ t510 then (if t510 < (x487000.length : Int) then (if ((rd_T133 x487000 t510).f1) = x9 then (if x8.length < 8796093022208 then (spec_closure.l3 k x5 (x8 ++ [rdOf ByteArray.empty x5 x10]) x9 (wrap64 (x10 + 1)) x487000 x487001) else (none)) else (spec_closure.l3 k x5 x8 x9 (wrap64 (x10 + 1)) x487000 x487001)) else (none)) else (none))) else (none)) else (spec_closure.l2 k x5 x8 (wrap64 (x9 - 1)) x487000 x487001)
end
def spec_closure.f (k : Nat) (l0_0 : List (S133)) (l0_1 : List (S137)) (a1_0 : ByteArray) (a1_1 : ByteArray) (l1_2 : List ByteArray) (l1_3 : List ByteArray) : Option (List ByteArray) := spec_closure.l0 k (([] : List ByteArray)) 0 l0_0 l0_1 a1_0 a1_1 l1_2 l1_3
theorem spec_closure.mono_l : ∀ k, (∀ y0 y1 y2 y3 y4 y5 y6 y7, LeO (spec_closure.l0 k y0 y1 y2 y3 y4 y5 y6 y7) (spec_closure.l0 (k + 1) y0 y1 y2 y3 y4 y5 y6 y7)) ∧ (∀ y0 y1 y2 y3 y4 y5 y6 y7, LeO (spec_closure.l1 k y0 y1 y2 y3 y4 y5 y6 y7) (spec_closure.l1 (k + 1) y0 y1 y2 y3 y4 y5 y6 y7)) ∧ (∀ y0 y1 y2 y3 y4, LeO (spec_closure.l2 k y0 y1 y2 y3 y4) (spec_closure.l2 (k + 1) y0 y1 y2 y3 y4)) ∧ (∀ y0 y1 y2 y3 y4 y5, LeO (spec_closure.l3 k y0 y1 y2 y3 y4 y5) (spec_closure.l3 (k + 1) y0 y1 y2 y3 y4 y5))
 | 0 => ⟨fun _ _ _ _ _ _ _ _ r h => by simp [spec_closure.l0] at h, fun _ _ _ _ _ _ _ _ r h => by simp [spec_closure.l1] at h, fun _ _ _ _ _ r h => by simp [spec_closure.l2] at h, fun _ _ _ _ _ _ r h => by simp [spec_closure.l3] at h⟩
 | k + 1 => by
  obtain ⟨ih0, ih1, ih2, ih3⟩ := spec_closure.mono_l k
  refine ⟨?_, ?_, ?_, ?_⟩
  ·intro y0 y1 y2 y3 y4 y5 y6 y7
   unfold spec_closure.l0
   repeat' first | (with_reducible first | exact ih0 _ _ _ _ _ _ _ _ | exact ih1 _ _ _ _ _ _ _ _ | exact ih2 _ _ _ _ _ | exact ih3 _ _ _ _ _ _ | exact spec_fixtureAt.mono _ _ _ | exact spec_reach.mono _ _ _ _ _ _ | exact le1_ | exact le2_ | apply LeO.ite | refine LeO.bind ?_ fun _ => ?_) | apply LeO.ite | refine LeO.bind ?_ fun _ => ?_
  ·intro y0 y1 y2 y3 y4 y5 y6 y7
   unfold spec_closure.l1
   repeat' first | (with_reducible first | exact ih0 _ _ _ _ _ _ _ _ | exact ih1 _ _ _ _ _ _ _ _ | exact ih2 _ _ _ _ _ | exact ih3 _ _ _ _ _ _ | exact spec_fixtureAt.mono _ _ _ | exact spec_reach.mono _ _ _ _ _ _ | exact le1_ | exact le2_ | apply LeO.ite | refine LeO.bind ?_ fun _ => ?_) | apply LeO.ite | refine LeO.bind ?_ fun _ => ?_
  ·intro y0 y1 y2 y3 y4
   unfold spec_closure.l2
   repeat' first | (with_reducible first | exact ih0 _ _ _ _ _ _ _ _ | exact ih1 _ _ _ _ _ _ _ _ | exact ih2 _ _ _ _ _ | exact ih3 _ _ _ _ _ _ | exact spec_fixtureAt.mono _ _ _ | exact spec_reach.mono _ _ _ _ _ _ | exact le1_ | exact le2_ | apply LeO.ite | refine LeO.bind ?_ fun _ => ?_) | apply LeO.ite | refine LeO.bind ?_ fun _ => ?_
  ·intro y0 y1 y2 y3 y4 y5
   unfold spec_closure.l3
   repeat' first | (with_reducible first | exact ih0 _ _ _ _ _ _ _ _ | exact ih1 _ _ _ _ _ _ _ _ | exact ih2 _ _ _ _ _ | exact ih3 _ _ _ _ _ _ | exact spec_fixtureAt.mono _ _ _ | exact spec_reach.mono _ _ _ _ _ _ | exact le1_ | exact le2_ | apply LeO.ite | refine LeO.bind ?_ fun _ => ?_) | apply LeO.ite | refine LeO.bind ?_ fun _ => ?_
theorem spec_closure.mono : ∀ a0 a1 a2 a3 a4 a5 k, LeO (spec_closure.f k a0 a1 a2 a3 a4 a5) (spec_closure.f (k + 1) a0 a1 a2 a3 a4 a5) := by
 intro a0 a1 a2 a3 a4 a5 k
 obtain ⟨ih0, ih1, ih2, ih3⟩ := spec_closure.mono_l k
 unfold spec_closure.f
 repeat' first | (with_reducible first | exact ih0 _ _ _ _ _ _ _ _ | exact ih1 _ _ _ _ _ _ _ _ | exact ih2 _ _ _ _ _ | exact ih3 _ _ _ _ _ _ | exact spec_fixtureAt.mono _ _ _ | exact spec_reach.mono _ _ _ _ _ _ | exact le1_ | exact le2_ | apply LeO.ite | refine LeO.bind ?_ fun _ => ?_) | apply LeO.ite | refine LeO.bind ?_ fun _ => ?_
def spec_closure.T6 : Bool × List (List Nat × List Nat) := (true, [([], []), ([], []), ([1], [1]), ([], []), ([2, 3], [2, 3]), ([4], [4]), ([5], [5]), ([], []), ([], []), ([0, 6, 7, 8], [0, 6, 7, 8]), ([9, 9, 0, 1, 2, 3, 4, 5, 6, 7, 8, 9], [8, 9])])
def spec_closure.B6 : List Nat := [0, 0, 2, 0, 14, 30, 62, 0, 0, 511, 1023]
theorem spec_closure.tab6 : rtab .any (opsOf Try.f113 6) = spec_closure.T6 := by kernel_rfl
theorem spec_closure.bits6 : waitsOk spec_closure.T6.2 spec_closure.B6 = true := by kernel_rfl
def spec_closure.T10 : Bool × List (List Nat × List Nat) := (true, [([], []), ([], []), ([1], [1]), ([], []), ([2, 3], [2, 3]), ([4], [4]), ([], []), ([], []), ([0, 5, 6, 7], [0, 5, 6, 7]), ([8, 8, 0, 1, 2, 3, 4, 5, 6, 7, 8], [7, 8])])
def spec_closure.B10 : List Nat := [0, 0, 2, 0, 14, 30, 0, 0, 255, 511]
theorem spec_closure.tab10 : rtab .any (opsOf Try.f113 10) = spec_closure.T10 := by kernel_rfl
theorem spec_closure.bits10 : waitsOk spec_closure.T10.2 spec_closure.B10 = true := by kernel_rfl
def spec_closure.T18 : Bool × List (List Nat × List Nat) := (true, [([], []), ([0], [0]), ([], []), ([2], [2]), ([], []), ([], []), ([4, 5], [4, 5]), ([6], [6]), ([3, 7], [3, 7]), ([1, 8], [1, 8]), ([9], [9]), ([10], [10]), ([], []), ([11, 12], [11, 12])])
def spec_closure.B18 : List Nat := [0, 1, 0, 4, 0, 0, 48, 112, 252, 511, 1023, 2047, 0, 8191]
theorem spec_closure.tab18 : rtab .any (opsOf Try.f113 18) = spec_closure.T18 := by kernel_rfl
theorem spec_closure.bits18 : waitsOk spec_closure.T18.2 spec_closure.B18 = true := by kernel_rfl
set_option maxHeartbeats 8000000 in
set_option maxRecDepth 100000 in
theorem spec_closure.calls (k : Nat) (A0_0 : Option Addr) (c0_0 : Nat) (l0_0 : List (S133)) (A0_1 : Option Addr) (c0_1 : Nat) (l0_1 : List (S137)) (a1_0 : ByteArray) (a1_1 : ByteArray) (A1_2 : Option Addr) (c1_2 : Nat) (l1_2 : List ByteArray) (A1_3 : Option Addr) (c1_3 : Nat) (l1_3 : List ByteArray) (r : List ByteArray) (w : World) (hr0_0 : Kd.C k133 w A0_0 l0_0.length l0_0) (hc0_0 : l0_0.length ≤ c0_0) (hr0_1 : Kd.C k137 w A0_1 l0_1.length l0_1) (hc0_1 : l0_1.length ≤ c0_1) (hr1_2 : Kd.C Kd.string w A1_2 l1_2.length l1_2) (hc1_2 : l1_2.length ≤ c1_2) (hr1_3 : Kd.C Kd.string w A1_3 l1_3.length l1_3) (hc1_3 : l1_3.length ≤ c1_3) (h : spec_closure.f k l0_0 l0_1 a1_0 a1_1 l1_2 l1_3 = some r) :
  Calls Try.prog 113 #[.agg #[.slice A0_0 l0_0.length c0_0, .slice A0_1 l0_1.length c0_1], .agg #[.string a1_0, .string a1_1, .slice A1_2 l1_2.length c1_2, .slice A1_3 l1_3.length c1_3]] w fun e w' => ∃ v0_ : Value, e = .returned (v0_) ∧ Kd.R Kd.string 9 w' w.heap.size (fun _ => True) v0_ r ∧ Below w.heap.size w w' := by
 have hu108 := Try.underlying108; have hu137 := Try.underlying137; have HR0_0 := zA hr0_0; have HC0_0 := zA hc0_0; clear hr0_0 hc0_0; have HR0_1 := zA hr0_1; have HC0_1 := zA hc0_1; clear hr0_1 hc0_1; have HR1_2 := zA hr1_2; have HC1_2 := zA hc1_2; clear hr1_2 hc1_2; have HR1_3 := zA hr1_3; have HC1_3 := zA hc1_3; clear hr1_3 hc1_3; have HB := zA zz2
 have H : (spec_closure.l0 k (([] : List ByteArray)) 0 l0_0 l0_1 a1_0 a1_1 l1_2 l1_3) = some r := h
 clear h
 obtain ⟨y488, hy488⟩ : ∃ y_ : List ByteArray, y_ = (([] : List ByteArray)) := ⟨_, rfl⟩
 replace H : (spec_closure.l0 k y488 0 l0_0 l0_1 a1_0 a1_1 l1_2 l1_3) = some r := (zz24 hy488)
 have Ny488 := zA hy488; clear hy488; have H' := zA H; clear H
 go_enter Try.func113, Try.ntmps113
 go_wp2_with (first | ((with_reducible refine gate_dst (N := 2) rfl ?_); refine bx_ 2 #[.slice A0_0 l0_0.length c0_0, .slice A0_1 l0_1.length c0_1] 108 ?_; intro gb486 hg w3 hbox hb; have BK486 := zA (hbox); have GW486 := zA ((zz38 : w.heap.size ≤ gb486)); have GE486 := zA ((zz38 : w.heap.size ≤ gb486)); replace HB := zA zz4; clear hb hbox hg) | ((with_reducible refine gate_dst (N := 3) rfl ?_); refine bx_ 3 #[.string a1_0, .string a1_1, .slice A1_2 l1_2.length c1_2, .slice A1_3 l1_3.length c1_3] 137 ?_; intro gb487 hg w4 hbox hb; have BK487 := zA (hbox); have GW487 := zA (((zz137 GE486.out) : w.heap.size ≤ gb487)); have GE487 := zA (((zz137 GE486.out) : w.heap.size ≤ gb487)); replace HB := zA (zz138 GE486.out); have NB486_487 := zA ((by rw [hg]; exact Nat.ne_of_lt (blk_lt (g := gb486) (o := .cells #[.slice A0_0 l0_0.length c0_0, .slice A0_1 l0_1.length c0_1] 108 (0, 0)) (zz6 BK486.out)) : gb486 ≠ gb487)); have NB487_486 := zA ((by rw [hg]; exact Nat.ne_of_gt (blk_lt (g := gb486) (o := .cells #[.slice A0_0 l0_0.length c0_0, .slice A0_1 l0_1.length c0_1] 108 (0, 0)) (zz6 BK486.out)) : gb487 ≠ gb486)); replace BK486 := zA (zz168 BK486.out); clear hb hbox hg) | ((with_reducible refine gate_dst (N := 11) rfl ?_); refine rl_ Kd.string 9 11 ?_; intro v489 w5 ho6 hb; replace ho6 := ny_ Ny488.out ho6; have HO490 := zA (Kd.R_lower ho6 (below_size (zz164 GE486.out GE487.out))); replace BK486 := zA (zz168 BK486.out); replace BK487 := zA (blk_below (g := gb487) (o := .cells #[.string a1_0, .string a1_1, .slice A1_2 l1_2.length c1_2, .slice A1_3 l1_3.length c1_3] 137 (0, 0)) (zz6 BK487.out) hb); replace HB := zA (zz167 GE486.out GE487.out); clear hb ho6))
 go_loopg [5, 6] k (fun kq v5 v6 w' => ∃ (x5_1 : List ByteArray) (x6_1 : Int), v6 = .int .i64 x6_1 ∧ Aside0 (spec_closure.l0 kq x5_1 x6_1 l0_0 l0_1 a1_0 a1_1 l1_2 l1_3 = some r) ∧ Aside0 (kq ≤ k) ∧ Aside0 (Kd.R Kd.string 9 w' w.heap.size (fun _ => True) v5 x5_1) ∧ Aside0 (w'.heap[gb486]? = some (.cells #[(.slice A0_0 l0_0.length c0_0), (.slice A0_1 l0_1.length c0_1)] 108 (0, 0))) ∧ Aside0 (w'.heap[gb487]? = some (.cells #[.string a1_0, .string a1_1, (.slice A1_2 l1_2.length c1_2), (.slice A1_3 l1_3.length c1_3)] 137 (0, 0))) ∧ Aside0 (Below w.heap.size w w'))
 case atStart => exact ⟨(y488), (0), zz9, H', ⟨Nat.le_refl _⟩, ⟨(zz22 HO490.out)⟩, ⟨(zz6 BK486.out)⟩, ⟨(zz6 BK487.out)⟩, ⟨(zz146 GE486.out GE487.out)⟩⟩
 case round =>
  clear H'; try clear c1; try clear p2
  obtain ⟨x5_1, x6_1, rfl, HA, HK1, HO_5, BK486, BK487, HB⟩ := hrel
  cases gk with
  | zero => exact absurd HA.out (by simp [spec_closure.l0])
  | succ k1 =>
   have H := HA.out; clear HA
   simp only [spec_closure.l0] at H
   rcases iu_ H with ⟨c7b0, H⟩ | ⟨c7b0, H⟩
   ·obtain ⟨c8b0, H⟩ := it_ H
    obtain ⟨bq9, hbq9⟩ : ∃ b_ : Bool, b_ = ((rd_T133 l0_0 x6_1).f3) := ⟨_, rfl⟩
    replace H : (if bq9 = true then ((spec_reach.f k1 l0_0 l0_1 ((rd_T133 l0_0 x6_1).f0) (([] : List ByteArray)) x5_1).bind fun t496 => (spec_closure.l0 k1 t496 (wrap64 (x6_1 + 1)) l0_0 l0_1 a1_0 a1_1 l1_2 l1_3)) else (spec_closure.l0 k1 x5_1 (wrap64 (x6_1 + 1)) l0_0 l0_1 a1_0 a1_1 l1_2 l1_3)) = some r := by rw [← hbq9] at H; exact H
    have Nbq9 := zA hbq9; clear hbq9
    by_cases c10 : bq9 = true
    ·subst c10
     have H1 : ((spec_reach.f k1 l0_0 l0_1 ((rd_T133 l0_0 x6_1).f0) (([] : List ByteArray)) x5_1).bind fun t496 => (spec_closure.l0 k1 t496 (wrap64 (x6_1 + 1)) l0_0 l0_1 a1_0 a1_1 l1_2 l1_3)) = some r := by rw [if_pos rfl] at H; exact H
     clear H; have H := H1; clear H1
     obtain ⟨y493, hy493⟩ : ∃ y_ : List ByteArray, y_ = (([] : List ByteArray)) := ⟨_, rfl⟩
     replace H : ((spec_reach.f k1 l0_0 l0_1 ((rd_T133 l0_0 x6_1).f0) y493 x5_1).bind fun t496 => (spec_closure.l0 k1 t496 (wrap64 (x6_1 + 1)) l0_0 l0_1 a1_0 a1_1 l1_2 l1_3)) = some r := (zz24 hy493)
     have Ny493 := zA hy493; clear hy493
     replace H := Option.bind_eq_some_iff.mp H
     obtain ⟨t496, A110, H⟩ := H
     (try dsimp only at H)
     have A11 := zA A110; clear A110; have H' := zA H; clear H; have hnb12 := NB486_487.out; have hnc12 := NB487_486.out
     obtain ⟨hcz13_0, hcz13_1, hfz13_0, hfz13_1⟩ := bk2_ BK486.out
     have p491 : 0 ≤ (x6_1 : Int) := dz_
     have q491 : x6_1 < (l0_0.length : Int) := dz_
     obtain ⟨ad491, A491_2, c491_2, e491, hx491_0, hx491_1, hx491_2, hx491_3, hl491_2, hi491_2⟩ := at_T133 HR0_0.out x6_1 p491 q491
     (try rw [← Nbq9.out] at hx491_3); (try rw [← Nbq9.out] at hw491_3)
     cases e491
     replace hx491_0 := cup_ HB.out hx491_0; replace hx491_1 := cup_ HB.out hx491_1; replace hx491_2 := cup_ HB.out hx491_2; replace hx491_3 := cup_ HB.out hx491_3
     have HR491_2 := zA hi491_2; have HC491_2 := zA hl491_2; clear hi491_2 hl491_2
     replace p491 := eq_true p491
     replace q491 := eq_true q491
     try go_wp2; replace HO_5 := zA (Kd.R_drew HO_5.out); replace BK486 := zA (blk_drew BK486.out); replace BK487 := zA (blk_drew BK487.out); replace HB := zA zz40
     have p492 : 0 ≤ (x6_1 : Int) := dz_
     have q492 : x6_1 < (l0_0.length : Int) := dz_
     obtain ⟨ad492, A492_2, c492_2, e492, hx492_0, hx492_1, hx492_2, hx492_3, hl492_2, hi492_2⟩ := at_T133 HR0_0.out x6_1 p492 q492
     have hw492_3 := hx492_3; have hw492_2 := hx492_2; have hw492_1 := hx492_1; have hw492_0 := hx492_0
     (try rw [← Nbq9.out] at hx492_3); (try rw [← Nbq9.out] at hw492_3)
     obtain rfl : ad491 = ad492 := (by injection e492)
     replace hx492_0 := cup_ HB.out hx492_0; replace hx492_1 := cup_ HB.out hx492_1; replace hx492_2 := cup_ HB.out hx492_2; replace hx492_3 := cup_ HB.out hx492_3
     have HR492_2 := zA hi492_2; have HC492_2 := zA hl492_2; clear hi492_2 hl492_2
     replace p492 := eq_true p492
     replace q492 := eq_true q492
     refine start_ (n := 11) (S := fun w' => w'.cell? ⟨gb486, 0, none⟩ = some (.slice (some ad491) l0_0.length c0_0) ∧ w'.cell? ⟨gb486, 1, none⟩ = some (.slice A0_1 l0_1.length c0_1) ∧ w'.cell? (ad491.add ((x6_1).toNat * 4)) = some (.string ((rd_T133 l0_0 x6_1).f0)) ∧ w'.cell? ⟨(ad491.add ((x6_1).toNat * 4)).block, (ad491.add ((x6_1).toNat * 4)).off + 1, none⟩ = some (.int .i64 ((rd_T133 l0_0 x6_1).f1)) ∧ w'.cell? ⟨(ad491.add ((x6_1).toNat * 4)).block, (ad491.add ((x6_1).toNat * 4)).off + 2, none⟩ = some (.slice A492_2 ((rd_T133 l0_0 x6_1).f2).length c492_2) ∧ w'.cell? ⟨(ad491.add ((x6_1).toNat * 4)).block, (ad491.add ((x6_1).toNat * 4)).off + 3, none⟩ = some (.bool (true))) (ds := []) #[ff,ff,ff,ff,ff,ff,ff,ff,ff,ff,ff] (by kernel_rfl) rfl rfl ⟨bq_ BK486.out 0, bq_ BK486.out 1, (cv_ HB.out hw492_0), (cv_ HB.out hw492_1), (cv_ HB.out hw492_2), (cv_ HB.out hw492_3)⟩ (fun hHeld => ?_); refine with_tabW spec_closure.tab6 spec_closure.bits6 (fun HT_ HW_ => ?_)
     generalize wr.drew = w14 at HO_5 BK486 BK487 HB HR492_2 hx492_0 hx492_1 hx492_2 hx492_3 hHeld ⊢
     refine qp_ 1 26 ?_
     refine qp_ 3 28 ?_
     refine qp_ 8 33 ?_
     refine qt_ 0 25 ?_
     refine qt_ 2 27 ?_
     refine qp_ 4 29 ?_
     refine qp_ 5 30 ?_
     refine qt_ 6 31 ?_
     refine qo_ 7 32 (fun K hK => ?_)
     refine Kd.R_lit_step Kd.string _ 9 ?hg (N := 32) ?hd (xs := ([] : List ByteArray)) (inner := []) (ok := fun _ => True) (okp := fun _ => True) ?hr ?hp (fun _ hk => hk) trivial (Below.refl _ _) (Nat.le_refl _) (by simp) ?_; (case hd => rfl); (case hg => rfl); (case hr => exact zz32); (case hp => exact (Reps.none _ _))
     intro v494 w15 ho16 hb hg_ hnew_
     clear hg_ hnew_
     replace ho16 := ny_ Ny493.out ho16
     have HO495 := zA (zz169 ho16 HO_5.out GE486.out GE487.out)
     replace HO_5 := zA (zz44 HO_5.out ho16)
     replace BK486 := zA (blk_below (g := gb486) (o := .cells #[.slice (some ad491) l0_0.length c0_0, .slice A0_1 l0_1.length c0_1] 108 (0, 0)) (zz6 BK486.out) hb)
     replace BK487 := zA (blk_below (g := gb487) (o := .cells #[.string a1_0, .string a1_1, .slice A1_2 l1_2.length c1_2, .slice A1_3 l1_3.length c1_3] 137 (0, 0)) (zz6 BK487.out) hb)
     replace HB := zA (zz167 GE486.out GE487.out)
     clear hb ho16
     obtain ⟨Ao17, co17, eo17⟩ := Kd.R_slice HO495.out
     (first | subst eo17 | (injection eo17 with f1_ f2_ f3_; have f4_ := f1_.symm; have f5_ := f3_.symm; clear f1_ f2_ f3_; subst f4_; subst f5_))
     obtain ⟨Ao18, co18, eo18⟩ := Kd.R_slice HO_5.out
     (first | subst eo18 | (injection eo18 with f1_ f2_ f3_; have f4_ := f1_.symm; have f5_ := f3_.symm; clear f1_ f2_ f3_; subst f4_; subst f5_))
     refine hK.out _ _ ⟨bq_ BK486.out 0, bq_ BK486.out 1, (cv_ HB.out hw492_0), (cv_ HB.out hw492_1), (cv_ HB.out hw492_2), (cv_ HB.out hw492_3)⟩ (fun hHeld => ?_)
     clear hK K
     refine qn_ 32 ?_
     refine qo_ 9 34 (fun K hK => ?_)
     refine goes_ Try.func125 (by kernel_rfl) rfl #[.agg #[.slice (some ad491) l0_0.length c0_0, .slice A0_1 l0_1.length c0_1], .string ((rd_T133 l0_0 x6_1).f0), .slice Ao17 y493.length co17, .slice Ao18 x5_1.length co18] (by rfl) rfl rfl zz17 ?_
     with_reducible refine (spec_reach.calls k1 _ _ l0_0 _ _ l0_1 ((rd_T133 l0_0 x6_1).f0) _ _ y493 (fun k_ => some k_ = (.slice Ao18 x5_1.length co18 : Value).ownBlock) (.slice Ao18 x5_1.length co18) x5_1 t496 w _ ?side1 ?side2 ?side3 ?side4 ?side5 ?side6 ?side7 ?side8 A11.out).mono ?_
     (case side1 => exact (zz146 GE486.out GE487.out))
     (case side2 => exact Kd.C_kept_came k133_heap HR0_0.out (zz164 GE486.out GE487.out) (fun k_ hs_ => (fun e_ => Kd.R_base HO_5.out k_ e_.symm) hs_))
     (case side3 => exact HC0_0.out)
     (case side4 => exact Kd.C_kept_came k137_heap HR0_1.out (zz164 GE486.out GE487.out) (fun k_ hs_ => (fun e_ => Kd.R_base HO_5.out k_ e_.symm) hs_))
     (case side5 => exact HC0_1.out)
     (case side6 => exact (zz162 HO495.out))
     (case side7 => exact (zz21 HO495.out))
     (case side8 => exact Kd.R_tight rfl HO_5.out)
     rintro e w19 ⟨v497, rfl, ho0, hb, hkp⟩
     refine ⟨_, rfl, ?_⟩
     replace BK486 := zA (zz158 BK486.out HO_5.out)
     replace BK487 := zA (zz158 BK487.out HO_5.out)
     have HO498 := zA (Kd.R_mono (ok' := fun k_ => some k_ ≠ (.slice Ao17 y493.length co17 : Value).ownBlock) ho0 (fun k_ hk_ => Or.elim hk_ (fun hs_ => fun e_ => (((HO495.out).1 k_ e_.symm).2) hs_) (fun hn_ => (Kd.fresh' (Kd.R_lt (zz22 HO495.out)) k_ hn_))))
     replace HO495 := zA (Kd.R_mono (ok' := fun k_ => some k_ ≠ (v497 : Value).ownBlock) (Kd.R_keptB (HO495.out) hkp (fun k_ hk_ hs_ => (hk_.2) hs_)) (fun k_ hk_ => fun e_ => Or.elim (ho0.1 k_ e_.symm) (fun hs_ => hk_.2.1 hs_) (fun hn_ => Nat.not_le.2 hk_.2.2 hn_)))
     replace HB := zA (hb)
     clear HO_5
     (try clear hb)
     (try clear hkp)
     (try clear ho0)
     refine hK.out _ _ ⟨bq_ BK486.out 0, bq_ BK486.out 1, (cv_ HB.out hw492_0), (cv_ HB.out hw492_1), (cv_ HB.out hw492_2), (cv_ HB.out hw492_3)⟩ (fun hHeld => ?_)
     clear hK K
     refine qn_ 34 ?_
     refine qp_ 10 5 ?_
     refine qd_ ?_
     try go_wp2
     go_roundg k1
     case measure => have := HK1.out; omega
     case rel => exact ⟨(t496), (wrap64 (x6_1 + 1)), zz9, H', ⟨by have := HK1.out; omega⟩, ⟨(zz59 HO498.out)⟩, ⟨(zz6 BK486.out)⟩, ⟨(zz6 BK487.out)⟩, ⟨(zz146 GE486.out GE487.out)⟩⟩
    ·replace c10 := Bool.eq_false_iff.mpr c10
     subst c10
     have H1 : (spec_closure.l0 k1 x5_1 (wrap64 (x6_1 + 1)) l0_0 l0_1 a1_0 a1_1 l1_2 l1_3) = some r := by rw [if_neg (show ¬ (false = true) by decide)] at H; exact H
     clear H; have H := H1; clear H1; have H' := zA H; clear H; have hnb20 := NB486_487.out; have hnc20 := NB487_486.out
     obtain ⟨hcz21_0, hcz21_1, hfz21_0, hfz21_1⟩ := bk2_ BK486.out
     have p491 : 0 ≤ (x6_1 : Int) := dz_
     have q491 : x6_1 < (l0_0.length : Int) := dz_
     obtain ⟨ad491, A491_2, c491_2, e491, hx491_0, hx491_1, hx491_2, hx491_3, hl491_2, hi491_2⟩ := at_T133 HR0_0.out x6_1 p491 q491
     (try rw [← Nbq9.out] at hx491_3); (try rw [← Nbq9.out] at hw491_3)
     cases e491
     replace hx491_0 := cup_ HB.out hx491_0; replace hx491_1 := cup_ HB.out hx491_1; replace hx491_2 := cup_ HB.out hx491_2; replace hx491_3 := cup_ HB.out hx491_3
     have HR491_2 := zA hi491_2; have HC491_2 := zA hl491_2; clear hi491_2 hl491_2
     replace p491 := eq_true p491
     replace q491 := eq_true q491
     go_wp2
     go_roundg k1
     case measure => have := HK1.out; omega
     case rel => exact ⟨(x5_1), (wrap64 (x6_1 + 1)), zz9, H', ⟨by have := HK1.out; omega⟩, ⟨(zz22 HO_5.out)⟩, ⟨(zz6 BK486.out)⟩, ⟨(zz6 BK487.out)⟩, ⟨(zz146 GE486.out GE487.out)⟩⟩
   ·have H' := zA H; clear H; have hnb22 := NB486_487.out; have hnc22 := NB487_486.out
    obtain ⟨hcz23_0, hcz23_1, hfz23_0, hfz23_1⟩ := bk2_ BK486.out
    go_wp2
    go_loopg [5, 7] k1 (fun kq v5 v7 w' => ∃ (x5_2 : List ByteArray) (x7_2 : Int), v7 = .int .i64 x7_2 ∧ Aside0 (spec_closure.l1 kq x5_2 x7_2 l0_0 l0_1 a1_0 a1_1 l1_2 l1_3 = some r) ∧ Aside0 (kq ≤ k1) ∧ Aside0 (Kd.R Kd.string 9 w' w.heap.size (fun _ => True) v5 x5_2) ∧ Aside0 (w'.heap[gb486]? = some (.cells #[(.slice A0_0 l0_0.length c0_0), (.slice A0_1 l0_1.length c0_1)] 108 (0, 0))) ∧ Aside0 (w'.heap[gb487]? = some (.cells #[.string a1_0, .string a1_1, (.slice A1_2 l1_2.length c1_2), (.slice A1_3 l1_3.length c1_3)] 137 (0, 0))) ∧ Aside0 (Below w.heap.size w w'))
    case atStart => exact ⟨(x5_1), (0), zz9, H', ⟨Nat.le_refl _⟩, ⟨(zz22 HO_5.out)⟩, ⟨(zz6 BK486.out)⟩, ⟨(zz6 BK487.out)⟩, ⟨(zz146 GE486.out GE487.out)⟩⟩
    case round =>
     clear H'; try clear c1; try clear c2; try clear p2; try clear c4; try clear p4; try clear q4; try clear hx4; try clear p6; try clear c7; try clear c7b0; try clear c8; try clear c8b0; try clear q9; try clear c10; try clear c11; try clear c12; try clear c20; try clear c22; try clear hcz13_0; try clear hcz13_1; try clear hcz21_0; try clear hcz21_1; try clear hcz23_0; try clear hcz23_1; try clear hfz13_0; try clear hfz13_1; try clear hfz21_0; try clear hfz21_1; try clear hfz23_0; try clear hfz23_1; try clear hx491_0; try clear hx491_1; try clear hx491_2; try clear hx491_3; try clear hx492_0; try clear hx492_1; try clear hx492_2; try clear hx492_3; try clear p2; try clear p491; try clear p492; try clear q491; try clear q492
     obtain ⟨x5_2, x7_2, rfl, HA, HK2, HO_5, BK486, BK487, HB⟩ := hrel
     cases gk with
     | zero => exact absurd HA.out (by simp [spec_closure.l1])
     | succ k2 =>
      have H := HA.out; clear HA
      simp only [spec_closure.l1] at H
      rcases iu_ H with ⟨c24b0, H⟩ | ⟨c24b0, H⟩
      ·obtain ⟨c25b0, H⟩ := it_ H
       obtain ⟨y500, hy500⟩ : ∃ y_ : List ByteArray, y_ = (([] : List ByteArray)) := ⟨_, rfl⟩
       replace H : ((spec_reach.f k2 l0_0 l0_1 (rdOf ByteArray.empty l1_3 x7_2) y500 x5_2).bind fun t503 => (spec_closure.l1 k2 t503 (wrap64 (x7_2 + 1)) l0_0 l0_1 a1_0 a1_1 l1_2 l1_3)) = some r := (zz24 hy500)
       have Ny500 := zA hy500; clear hy500
       replace H := Option.bind_eq_some_iff.mp H
       obtain ⟨t503, A260, H⟩ := H
       (try dsimp only at H)
       have A26 := zA A260; clear A260; have H' := zA H; clear H; have hnb27 := NB487_486.out; have hnc27 := NB486_487.out
       obtain ⟨hcz28_0, hcz28_1, hcz28_2, hcz28_3, hfz28_0, hfz28_1, hfz28_2, hfz28_3⟩ := bk4_ BK487.out; try go_wp2; replace HO_5 := zA (Kd.R_drew HO_5.out); replace BK486 := zA (blk_drew BK486.out); replace BK487 := zA (blk_drew BK487.out); replace HB := zA zz40
       have p499 : 0 ≤ (x7_2 : Int) := dz_
       have q499 : x7_2 < (l1_3.length : Int) := dz_
       obtain ⟨ad499, e499, hx499_0⟩ := Kd.at_string HR1_3.out x7_2 p499 q499
       have hw499_0 := hx499_0
       cases e499
       replace hx499_0 := cup_ HB.out hx499_0
       replace p499 := eq_true p499
       replace q499 := eq_true q499
       refine start_ (n := 10) (S := fun w' => w'.cell? ⟨gb486, 0, none⟩ = some (.slice A0_0 l0_0.length c0_0) ∧ w'.cell? ⟨gb486, 1, none⟩ = some (.slice A0_1 l0_1.length c0_1) ∧ w'.cell? ⟨gb487, 0, none⟩ = some (.string a1_0) ∧ w'.cell? ⟨gb487, 1, none⟩ = some (.string a1_1) ∧ w'.cell? ⟨gb487, 2, none⟩ = some (.slice A1_2 l1_2.length c1_2) ∧ w'.cell? ⟨gb487, 3, none⟩ = some (.slice (some ad499) l1_3.length c1_3) ∧ w'.cell? (ad499.add (x7_2).toNat) = some (.string (rdOf ByteArray.empty l1_3 x7_2))) (ds := []) #[ff,ff,ff,ff,ff,ff,ff,ff,ff,ff] (by kernel_rfl) rfl rfl ⟨bq_ BK486.out 0, bq_ BK486.out 1, bq_ BK487.out 0, bq_ BK487.out 1, bq_ BK487.out 2, bq_ BK487.out 3, (cv_ HB.out hw499_0)⟩ (fun hHeld => ?_); refine with_tabW spec_closure.tab10 spec_closure.bits10 (fun HT_ HW_ => ?_)
       generalize wr.drew = w29 at HO_5 BK486 BK487 HB hx499_0 hHeld ⊢
       refine qp_ 1 43 ?_
       refine qp_ 3 45 ?_
       refine qp_ 7 49 ?_
       refine qt_ 0 42 ?_
       refine qt_ 2 44 ?_
       refine qp_ 4 46 ?_
       refine qt_ 5 47 ?_
       refine qo_ 6 48 (fun K hK => ?_)
       refine Kd.R_lit_step Kd.string _ 9 ?hg (N := 48) ?hd (xs := ([] : List ByteArray)) (inner := []) (ok := fun _ => True) (okp := fun _ => True) ?hr ?hp (fun _ hk => hk) trivial (Below.refl _ _) (Nat.le_refl _) (by simp) ?_; (case hd => rfl); (case hg => rfl); (case hr => exact zz32); (case hp => exact (Reps.none _ _))
       intro v501 w30 ho31 hb hg_ hnew_
       clear hg_ hnew_
       replace ho31 := ny_ Ny500.out ho31
       have HO502 := zA (zz169 ho31 HO_5.out GE486.out GE487.out)
       replace HO_5 := zA (zz44 HO_5.out ho31)
       replace BK486 := zA (zz168 BK486.out)
       replace BK487 := zA (blk_below (g := gb487) (o := .cells #[.string a1_0, .string a1_1, .slice A1_2 l1_2.length c1_2, .slice (some ad499) l1_3.length c1_3] 137 (0, 0)) (zz6 BK487.out) hb)
       replace HB := zA (zz167 GE486.out GE487.out)
       clear hb ho31
       obtain ⟨Ao32, co32, eo32⟩ := Kd.R_slice HO502.out
       (first | subst eo32 | (injection eo32 with f1_ f2_ f3_; have f4_ := f1_.symm; have f5_ := f3_.symm; clear f1_ f2_ f3_; subst f4_; subst f5_))
       obtain ⟨Ao33, co33, eo33⟩ := Kd.R_slice HO_5.out
       (first | subst eo33 | (injection eo33 with f1_ f2_ f3_; have f4_ := f1_.symm; have f5_ := f3_.symm; clear f1_ f2_ f3_; subst f4_; subst f5_))
       refine hK.out _ _ ⟨bq_ BK486.out 0, bq_ BK486.out 1, bq_ BK487.out 0, bq_ BK487.out 1, bq_ BK487.out 2, bq_ BK487.out 3, (cv_ HB.out hw499_0)⟩ (fun hHeld => ?_)
       clear hK K
       refine qn_ 48 ?_
       refine qo_ 8 50 (fun K hK => ?_)
       refine goes_ Try.func125 (by kernel_rfl) rfl #[.agg #[.slice A0_0 l0_0.length c0_0, .slice A0_1 l0_1.length c0_1], .string (rdOf ByteArray.empty l1_3 x7_2), .slice Ao32 y500.length co32, .slice Ao33 x5_2.length co33] (by rfl) rfl rfl zz17 ?_
       with_reducible refine (spec_reach.calls k2 _ _ l0_0 _ _ l0_1 (rdOf ByteArray.empty l1_3 x7_2) _ _ y500 (fun k_ => some k_ = (.slice Ao33 x5_2.length co33 : Value).ownBlock) (.slice Ao33 x5_2.length co33) x5_2 t503 w _ ?side1 ?side2 ?side3 ?side4 ?side5 ?side6 ?side7 ?side8 A26.out).mono ?_
       (case side1 => exact (zz146 GE486.out GE487.out))
       (case side2 => exact Kd.C_kept_came k133_heap HR0_0.out (zz164 GE486.out GE487.out) (fun k_ hs_ => (fun e_ => Kd.R_base HO_5.out k_ e_.symm) hs_))
       (case side3 => exact HC0_0.out)
       (case side4 => exact Kd.C_kept_came k137_heap HR0_1.out (zz164 GE486.out GE487.out) (fun k_ hs_ => (fun e_ => Kd.R_base HO_5.out k_ e_.symm) hs_))
       (case side5 => exact HC0_1.out)
       (case side6 => exact (zz162 HO502.out))
       (case side7 => exact (zz21 HO502.out))
       (case side8 => exact Kd.R_tight rfl HO_5.out)
       rintro e w34 ⟨v504, rfl, ho0, hb, hkp⟩
       refine ⟨_, rfl, ?_⟩
       replace BK486 := zA (zz158 BK486.out HO_5.out)
       replace BK487 := zA (zz158 BK487.out HO_5.out)
       have HO505 := zA (Kd.R_mono (ok' := fun k_ => some k_ ≠ (.slice Ao32 y500.length co32 : Value).ownBlock) ho0 (fun k_ hk_ => Or.elim hk_ (fun hs_ => fun e_ => (((HO502.out).1 k_ e_.symm).2) hs_) (fun hn_ => (Kd.fresh' (Kd.R_lt (zz22 HO502.out)) k_ hn_))))
       replace HO502 := zA (Kd.R_mono (ok' := fun k_ => some k_ ≠ (v504 : Value).ownBlock) (Kd.R_keptB (HO502.out) hkp (fun k_ hk_ hs_ => (hk_.2) hs_)) (fun k_ hk_ => fun e_ => Or.elim (ho0.1 k_ e_.symm) (fun hs_ => hk_.2.1 hs_) (fun hn_ => Nat.not_le.2 hk_.2.2 hn_)))
       replace HB := zA (hb)
       clear HO_5
       (try clear hb)
       (try clear hkp)
       (try clear ho0)
       refine hK.out _ _ ⟨bq_ BK486.out 0, bq_ BK486.out 1, bq_ BK487.out 0, bq_ BK487.out 1, bq_ BK487.out 2, bq_ BK487.out 3, (cv_ HB.out hw499_0)⟩ (fun hHeld => ?_)
       clear hK K
       refine qn_ 50 ?_
       refine qp_ 9 5 ?_
       refine qd_ ?_
       try go_wp2
       go_roundg k2
       case measure => have := HK1.out; have := HK2.out; omega
       case rel => exact ⟨(t503), (wrap64 (x7_2 + 1)), zz9, H', ⟨(zz41 HK1.out HK2.out)⟩, ⟨(zz59 HO505.out)⟩, ⟨(zz6 BK486.out)⟩, ⟨(zz6 BK487.out)⟩, ⟨(zz146 GE486.out GE487.out)⟩⟩
      ·obtain ⟨y506, hy506⟩ : ∃ y_ : List ByteArray, y_ = (([] : List ByteArray)) := ⟨_, rfl⟩
       replace H : (spec_closure.l2 k2 x5_2 y506 2 l0_0 l0_1) = some r := (zz24 hy506)
       have Ny506 := zA hy506; clear hy506; have H' := zA H; clear H; have hnb35 := NB487_486.out; have hnc35 := NB486_487.out
       obtain ⟨hcz36_0, hcz36_1, hcz36_2, hcz36_3, hfz36_0, hfz36_1, hfz36_2, hfz36_3⟩ := bk4_ BK487.out
       go_wp2_with (((with_reducible refine gate_dst (N := 51) rfl ?_); refine rl_ Kd.string 9 51 ?_; intro v507 w37 ho38 hb; replace ho38 := ny_ Ny506.out ho38; have HO508 := zA (zz169 ho38 HO_5.out GE486.out GE487.out); replace HO_5 := zA (zz44 HO_5.out ho38); replace BK486 := zA (zz168 BK486.out); replace BK487 := zA (blk_below (g := gb487) (o := .cells #[.string a1_0, .string a1_1, .slice A1_2 l1_2.length c1_2, .slice A1_3 l1_3.length c1_3] 137 (0, 0)) (zz6 BK487.out) hb); replace HB := zA (zz167 GE486.out GE487.out); clear hb ho38))
       go_loopg [8, 9] k2 (fun kq v8 v9 w' => ∃ (x8_3 : List ByteArray) (x9_3 : Int), v9 = .int .i64 x9_3 ∧ Aside0 (spec_closure.l2 kq x5_2 x8_3 x9_3 l0_0 l0_1 = some r) ∧ Aside0 (kq ≤ k2) ∧ Aside0 (Kd.R Kd.string 9 w' w.heap.size (fun k_ => some k_ ≠ (v8 : Value).ownBlock) u5 x5_2) ∧ Aside0 (Kd.R Kd.string 9 w' w.heap.size (fun k_ => some k_ ≠ (u5 : Value).ownBlock) v8 x8_3) ∧ Aside0 (w'.heap[gb486]? = some (.cells #[(.slice A0_0 l0_0.length c0_0), (.slice A0_1 l0_1.length c0_1)] 108 (0, 0))) ∧ Aside0 (w'.heap[gb487]? = some (.cells #[.string a1_0, .string a1_1, (.slice A1_2 l1_2.length c1_2), (.slice A1_3 l1_3.length c1_3)] 137 (0, 0))) ∧ Aside0 (Below w.heap.size w w'))
       case atStart => exact ⟨(y506), (2), zz9, H', ⟨Nat.le_refl _⟩, ⟨(zz94 HO_5.out)⟩, ⟨(zz94 HO508.out)⟩, ⟨(zz6 BK486.out)⟩, ⟨(zz6 BK487.out)⟩, ⟨(zz146 GE486.out GE487.out)⟩⟩
       case round =>
        clear H'; try clear c1; try clear c2; try clear p2; try clear c3; try clear c4; try clear p4; try clear q4; try clear hx4; try clear p6; try clear c7; try clear c7b0; try clear c8; try clear c8b0; try clear q9; try clear c10; try clear c11; try clear c12; try clear c20; try clear c22; try clear c24; try clear c24b0; try clear c25; try clear c25b0; try clear c27; try clear c35; try clear hcz13_0; try clear hcz13_1; try clear hcz21_0; try clear hcz21_1; try clear hcz23_0; try clear hcz23_1; try clear hcz28_0; try clear hcz28_1; try clear hcz28_2; try clear hcz28_3; try clear hcz36_0; try clear hcz36_1; try clear hcz36_2; try clear hcz36_3; try clear hfz13_0; try clear hfz13_1; try clear hfz21_0; try clear hfz21_1; try clear hfz23_0; try clear hfz23_1; try clear hfz28_0; try clear hfz28_1; try clear hfz28_2; try clear hfz28_3; try clear hfz36_0; try clear hfz36_1; try clear hfz36_2; try clear hfz36_3; try clear hx491_0; try clear hx491_1; try clear hx491_2; try clear hx491_3; try clear hx492_0; try clear hx492_1; try clear hx492_2; try clear hx492_3; try clear hx499_0; try clear p2; try clear p4; try clear p491; try clear p492; try clear p499; try clear p6; try clear q4; try clear q491; try clear q492; try clear q499; try clear q9
        obtain ⟨x8_3, x9_3, rfl, HA, HK3, HO_5, HO_8, BK486, BK487, HB⟩ := hrel
        cases gk with
        | zero => exact absurd HA.out (by simp [spec_closure.l2])
        | succ k3 =>
         have H := HA.out; clear HA
         simp only [spec_closure.l2] at H
         rcases ie_ H with ⟨c39, H⟩ | ⟨c39, H⟩
         ·have c39b0 : decide (0 ≤ x9_3) = true := decide_eq_true c39
          clear c39; have H' := zA H; clear H
          go_wp2
          go_loopg [8, 10] k3 (fun kq v8 v10 w' => ∃ (x8_4 : List ByteArray) (x10_4 : Int), v10 = .int .i64 x10_4 ∧ Aside0 (spec_closure.l3 kq x5_2 x8_4 x9_3 x10_4 l0_0 l0_1 = some r) ∧ Aside0 (kq ≤ k3) ∧ Aside0 (Kd.R Kd.string 9 w' w.heap.size (fun k_ => some k_ ≠ (v8 : Value).ownBlock) u5 x5_2) ∧ Aside0 (Kd.R Kd.string 9 w' w.heap.size (fun k_ => some k_ ≠ (u5 : Value).ownBlock) v8 x8_4) ∧ Aside0 (w'.heap[gb486]? = some (.cells #[(.slice A0_0 l0_0.length c0_0), (.slice A0_1 l0_1.length c0_1)] 108 (0, 0))) ∧ Aside0 (w'.heap[gb487]? = some (.cells #[.string a1_0, .string a1_1, (.slice A1_2 l1_2.length c1_2), (.slice A1_3 l1_3.length c1_3)] 137 (0, 0))) ∧ Aside0 (Below w.heap.size w w'))
          case atStart => exact ⟨(x8_3), (0), zz9, H', ⟨Nat.le_refl _⟩, ⟨(zz22 HO_5.out)⟩, ⟨(zz22 HO_8.out)⟩, ⟨(zz6 BK486.out)⟩, ⟨(zz6 BK487.out)⟩, ⟨(zz146 GE486.out GE487.out)⟩⟩
          case round =>
           clear H'; try clear c1; try clear c2; try clear p2; try clear c3; try clear c4; try clear p4; try clear q4; try clear hx4; try clear p6; try clear c7; try clear c7b0; try clear c8; try clear c8b0; try clear q9; try clear c10; try clear c11; try clear c12; try clear c20; try clear c22; try clear c24; try clear c24b0; try clear c25; try clear c25b0; try clear c27; try clear c35; try clear c39; try clear c39b0; try clear hcz13_0; try clear hcz13_1; try clear hcz21_0; try clear hcz21_1; try clear hcz23_0; try clear hcz23_1; try clear hcz28_0; try clear hcz28_1; try clear hcz28_2; try clear hcz28_3; try clear hcz36_0; try clear hcz36_1; try clear hcz36_2; try clear hcz36_3; try clear hfz13_0; try clear hfz13_1; try clear hfz21_0; try clear hfz21_1; try clear hfz23_0; try clear hfz23_1; try clear hfz28_0; try clear hfz28_1; try clear hfz28_2; try clear hfz28_3; try clear hfz36_0; try clear hfz36_1; try clear hfz36_2; try clear hfz36_3; try clear hx491_0; try clear hx491_1; try clear hx491_2; try clear hx491_3; try clear hx492_0; try clear hx492_1; try clear hx492_2; try clear hx492_3; try clear hx499_0; try clear p2; try clear p4; try clear p491; try clear p492; try clear p499; try clear p6; try clear q4; try clear q491; try clear q492; try clear q499; try clear q9
           obtain ⟨x8_4, x10_4, rfl, HA, HK4, HO_5, HO_8, BK486, BK487, HB⟩ := hrel
           cases gk with
           | zero => exact absurd HA.out (by simp [spec_closure.l3])
           | succ k4 =>
            have H := HA.out; clear HA
            simp only [spec_closure.l3] at H
            rcases iu_ H with ⟨c40b0, H⟩ | ⟨c40b0, H⟩
            ·obtain ⟨c41b0, H⟩ := it_ H
             obtain ⟨t510, A42, H⟩ := bs_ H
             (try dsimp only at H)
             obtain ⟨c43b0, H⟩ := it_ H
             obtain ⟨c44b0, H⟩ := it_ H
             rcases ie_ H with ⟨c45, H⟩ | ⟨c45, H⟩
             ·have c45b0 : (((rd_T133 l0_0 t510).f1) == x9_3) = true := beq_iff_eq.mpr c45
              have c45b1 : (((rd_T133 l0_0 t510).f1) != x9_3) = false := bne_eq_false_iff_eq.mpr c45
              clear c45
              obtain ⟨c46, H⟩ := in_ H
              have LMc46 := zA c46; clear c46
              obtain ⟨y513, hy513⟩ : ∃ y_ : List ByteArray, y_ = (x8_4 ++ [rdOf ByteArray.empty x5_2 x10_4]) := ⟨_, rfl⟩
              replace H : (spec_closure.l3 k4 x5_2 y513 x9_3 (wrap64 (x10_4 + 1)) l0_0 l0_1) = some r := (zz24 hy513)
              have Ny513 := zA hy513; clear hy513; have H' := zA H; clear H
              obtain ⟨Ao47, co47, eo47⟩ := Kd.R_slice HO_5.out
              subst eo47; try go_wp2; replace HO_5 := zA (Kd.R_drew HO_5.out); replace HO_8 := zA (Kd.R_drew HO_8.out); replace BK486 := zA (blk_drew BK486.out); replace BK487 := zA (blk_drew BK487.out); replace HB := zA zz40
              have p509 : 0 ≤ (x10_4 : Int) := dz_
              have q509 : x10_4 < (x5_2.length : Int) := dz_
              obtain ⟨ad509, e509, hx509_0⟩ := Kd.at_string (Kd.R_reads' HO_5.out).2.2 x10_4 p509 q509
              cases e509
              replace p509 := eq_true p509
              replace q509 := eq_true q509
              have p511 : 0 ≤ (t510 : Int) := dz_
              have q511 : t510 < (l0_0.length : Int) := dz_
              obtain ⟨ad511, A511_2, c511_2, e511, hx511_0, hx511_1, hx511_2, hx511_3, hl511_2, hi511_2⟩ := at_T133 HR0_0.out t510 p511 q511
              have hw511_3 := hx511_3; have hw511_2 := hx511_2; have hw511_1 := hx511_1; have hw511_0 := hx511_0
              cases e511
              replace hx511_0 := cup_ HB.out hx511_0; replace hx511_1 := cup_ HB.out hx511_1; replace hx511_2 := cup_ HB.out hx511_2; replace hx511_3 := cup_ HB.out hx511_3
              have HR511_2 := zA hi511_2; have HC511_2 := zA hl511_2; clear hi511_2 hl511_2
              replace p511 := eq_true p511
              replace q511 := eq_true q511
              refine start_ (n := 14) (S := fun w' => w'.cell? ⟨gb486, 0, none⟩ = some (.slice (some ad511) l0_0.length c0_0) ∧ w'.cell? ⟨gb486, 1, none⟩ = some (.slice A0_1 l0_1.length c0_1) ∧ w'.cell? (ad509.add (x10_4).toNat) = some (.string (rdOf ByteArray.empty x5_2 x10_4)) ∧ w'.cell? (ad511.add ((t510).toNat * 4)) = some (.string ((rd_T133 l0_0 t510).f0)) ∧ w'.cell? ⟨(ad511.add ((t510).toNat * 4)).block, (ad511.add ((t510).toNat * 4)).off + 1, none⟩ = some (.int .i64 ((rd_T133 l0_0 t510).f1)) ∧ w'.cell? ⟨(ad511.add ((t510).toNat * 4)).block, (ad511.add ((t510).toNat * 4)).off + 2, none⟩ = some (.slice A511_2 ((rd_T133 l0_0 t510).f2).length c511_2) ∧ w'.cell? ⟨(ad511.add ((t510).toNat * 4)).block, (ad511.add ((t510).toNat * 4)).off + 3, none⟩ = some (.bool ((rd_T133 l0_0 t510).f3))) (ds := []) #[ff,ff,ff,ff,ff,ff,ff,ff,ff,ff,ff,ff,ff,ff] (by kernel_rfl) rfl rfl ⟨bq_ BK486.out 0, bq_ BK486.out 1, hx509_0, (cv_ HB.out hw511_0), (cv_ HB.out hw511_1), (cv_ HB.out hw511_2), (cv_ HB.out hw511_3)⟩ (fun hHeld => ?_); refine with_tabW spec_closure.tab18 spec_closure.bits18 (fun HT_ HW_ => ?_)
              generalize wr.drew = w48 at HO_5 HO_8 BK486 BK487 HB HR511_2 hx509_0 hx511_0 hx511_1 hx511_2 hx511_3 hHeld ⊢
              refine qp_ 0 62 ?_
              refine qp_ 2 64 ?_
              refine qp_ 4 66 ?_
              refine qp_ 5 67 ?_
              refine qp_ 6 68 ?_
              refine qp_ 12 74 ?_
              refine qt_ 1 63 ?_
              refine qt_ 3 65 ?_
              refine qt_ 7 69 ?_
              refine qo_ 8 70 (fun K hK => ?_)
              refine goes_ Try.func120 (by kernel_rfl) rfl #[.slice (some ad511) l0_0.length c0_0, .string (rdOf ByteArray.empty x5_2 x10_4)] (by rfl) rfl rfl zz17 ?_
              with_reducible refine (spec_fixtureAt.calls k4 _ _ l0_0 (rdOf ByteArray.empty x5_2 x10_4) t510 _ ?side1 ?side2 A42.out).mono ?_
              (case side1 => exact (zz62 HR0_0.out))
              (case side2 => exact HC0_0.out)
              rintro e w' ⟨rfl, ⟨nd, rfl⟩⟩
              refine ⟨_, rfl, ?_⟩
              refine hK.out _ _ ⟨bq_ BK486.out 0, bq_ BK486.out 1, hHeld.2.2.1, (cv_ HB.out hw511_0), (cv_ HB.out hw511_1), (cv_ HB.out hw511_2), (cv_ HB.out hw511_3)⟩ (fun hHeld => ?_)
              clear hK K
              refine qn_ 70 ?_
              refine qp_ 9 71 ?_
              refine qp_ 10 72 ?_
              refine qt_ 11 73 ?_
              refine qp_ 13 75 ?_
              refine qd_ ?_
              have p512 : 0 ≤ (x10_4 : Int) := dz_
              have q512 : x10_4 < (x5_2.length : Int) := dz_
              obtain ⟨ad512, e512, hx512_0⟩ := Kd.at_string (Kd.R_reads' HO_5.out).2.2 x10_4 p512 q512
              obtain rfl : ad509 = ad512 := (by injection e512)
              replace p512 := eq_true p512
              replace q512 := eq_true q512
              try go_wp2_with (((with_reducible refine gate_builtin (b := .append) (xs := #[.tmp 76, .tmp 81]) rfl ?_); at_builtin; refine Kd.R_append Kd.string (w0 := w) w.heap.size rfl (.tmp 76) (.tmp 81) 31 9 (.string ⟨#[]⟩) 16 rfl Try.underlying31 info9 rfl (by decide) (by omega) u8 x8_4 (rdOf ByteArray.empty x5_2 x10_4) [.string (rdOf ByteArray.empty x5_2 x10_4)] (fun k_ => some k_ ≠ (.slice (some ad509) x5_2.length co47 : Value).ownBlock) (fun _ => False) rfl rfl ?aP (fun _ hk => hk.elim) ?aF ?aO ?aB ?aS ?aL ?_; (case aP => exact rfl); (case aB => exact (zz165 GE486.out GE487.out)); (case aF => exact (zz47 HO_5.out)); (case aO => exact (zz26 HO_8.out)); (case aS => exact (zz166 GE486.out GE487.out)); (case aL => have := LMc46.out; omega); intro v514 w49 ho hb hg hat; rw [← Ny513.out] at ho; replace HO_5 := zA (Kd.R_after (ok := (fun _ => True)) (by (with_reducible repeat first | apply Kd.R_alloc | apply Kd.R_drewN | apply Kd.R_drew); exact Kd.R_mono HO_5.out (fun _ hk => ⟨trivial, hk⟩)) hg hat); replace BK486 := zA (blk_grown (g := gb486) (o := .cells #[.slice (some ad511) l0_0.length c0_0, .slice A0_1 l0_1.length c0_1] 108 (0, 0)) (zz6 BK486.out) hg (Kd.R_ne HO_8.out BK486.out (by decide))); replace BK487 := zA (blk_grown (g := gb487) (o := .cells #[.string a1_0, .string a1_1, .slice A1_2 l1_2.length c1_2, .slice A1_3 l1_3.length c1_3] 137 (0, 0)) (zz6 BK487.out) hg (Kd.R_ne HO_8.out BK487.out (by decide))); replace HB := zA (hb); have HO515 := zA (ho); clear HO_8; clear ho hb hg hat))
              go_roundg k4
              case measure => have := HK1.out; have := HK2.out; have := HK3.out; have := HK4.out; omega
              case rel => exact ⟨(y513), (wrap64 (x10_4 + 1)), zz9, H', ⟨(zz170 HK1.out HK2.out HK3.out HK4.out)⟩, ⟨(zz94 HO_5.out)⟩, ⟨(zz22 HO515.out)⟩, ⟨(zz6 BK486.out)⟩, ⟨(zz6 BK487.out)⟩, ⟨(zz146 GE486.out GE487.out)⟩⟩
             ·have c45b0 : (((rd_T133 l0_0 t510).f1) == x9_3) = false := beq_eq_false_iff_ne.mpr c45
              have c45b1 : (((rd_T133 l0_0 t510).f1) != x9_3) = true := bne_iff_ne.mpr c45
              have H' := zA H; clear H
              obtain ⟨Ao50, co50, eo50⟩ := Kd.R_slice HO_5.out
              subst eo50; try go_wp2; replace HO_5 := zA (Kd.R_drew HO_5.out); replace HO_8 := zA (Kd.R_drew HO_8.out); replace BK486 := zA (blk_drew BK486.out); replace BK487 := zA (blk_drew BK487.out); replace HB := zA zz40
              have p509 : 0 ≤ (x10_4 : Int) := dz_
              have q509 : x10_4 < (x5_2.length : Int) := dz_
              obtain ⟨ad509, e509, hx509_0⟩ := Kd.at_string (Kd.R_reads' HO_5.out).2.2 x10_4 p509 q509
              cases e509
              replace p509 := eq_true p509
              replace q509 := eq_true q509
              have p511 : 0 ≤ (t510 : Int) := dz_
              have q511 : t510 < (l0_0.length : Int) := dz_
              obtain ⟨ad511, A511_2, c511_2, e511, hx511_0, hx511_1, hx511_2, hx511_3, hl511_2, hi511_2⟩ := at_T133 HR0_0.out t510 p511 q511
              have hw511_3 := hx511_3; have hw511_2 := hx511_2; have hw511_1 := hx511_1; have hw511_0 := hx511_0
              cases e511
              replace hx511_0 := cup_ HB.out hx511_0; replace hx511_1 := cup_ HB.out hx511_1; replace hx511_2 := cup_ HB.out hx511_2; replace hx511_3 := cup_ HB.out hx511_3
              have HR511_2 := zA hi511_2; have HC511_2 := zA hl511_2; clear hi511_2 hl511_2
              replace p511 := eq_true p511
              replace q511 := eq_true q511
              refine start_ (n := 14) (S := fun w' => w'.cell? ⟨gb486, 0, none⟩ = some (.slice (some ad511) l0_0.length c0_0) ∧ w'.cell? ⟨gb486, 1, none⟩ = some (.slice A0_1 l0_1.length c0_1) ∧ w'.cell? (ad509.add (x10_4).toNat) = some (.string (rdOf ByteArray.empty x5_2 x10_4)) ∧ w'.cell? (ad511.add ((t510).toNat * 4)) = some (.string ((rd_T133 l0_0 t510).f0)) ∧ w'.cell? ⟨(ad511.add ((t510).toNat * 4)).block, (ad511.add ((t510).toNat * 4)).off + 1, none⟩ = some (.int .i64 ((rd_T133 l0_0 t510).f1)) ∧ w'.cell? ⟨(ad511.add ((t510).toNat * 4)).block, (ad511.add ((t510).toNat * 4)).off + 2, none⟩ = some (.slice A511_2 ((rd_T133 l0_0 t510).f2).length c511_2) ∧ w'.cell? ⟨(ad511.add ((t510).toNat * 4)).block, (ad511.add ((t510).toNat * 4)).off + 3, none⟩ = some (.bool ((rd_T133 l0_0 t510).f3))) (ds := []) #[ff,ff,ff,ff,ff,ff,ff,ff,ff,ff,ff,ff,ff,ff] (by kernel_rfl) rfl rfl ⟨bq_ BK486.out 0, bq_ BK486.out 1, hx509_0, (cv_ HB.out hw511_0), (cv_ HB.out hw511_1), (cv_ HB.out hw511_2), (cv_ HB.out hw511_3)⟩ (fun hHeld => ?_); refine with_tabW spec_closure.tab18 spec_closure.bits18 (fun HT_ HW_ => ?_)
              generalize wr.drew = w51 at HO_5 HO_8 BK486 BK487 HB HR511_2 hx509_0 hx511_0 hx511_1 hx511_2 hx511_3 hHeld ⊢
              refine qp_ 0 62 ?_
              refine qp_ 2 64 ?_
              refine qp_ 4 66 ?_
              refine qp_ 5 67 ?_
              refine qp_ 6 68 ?_
              refine qp_ 12 74 ?_
              refine qt_ 1 63 ?_
              refine qt_ 3 65 ?_
              refine qt_ 7 69 ?_
              refine qo_ 8 70 (fun K hK => ?_)
              refine goes_ Try.func120 (by kernel_rfl) rfl #[.slice (some ad511) l0_0.length c0_0, .string (rdOf ByteArray.empty x5_2 x10_4)] (by rfl) rfl rfl zz17 ?_
              with_reducible refine (spec_fixtureAt.calls k4 _ _ l0_0 (rdOf ByteArray.empty x5_2 x10_4) t510 _ ?side1 ?side2 A42.out).mono ?_
              (case side1 => exact (zz62 HR0_0.out))
              (case side2 => exact HC0_0.out)
              rintro e w' ⟨rfl, ⟨nd, rfl⟩⟩
              refine ⟨_, rfl, ?_⟩
              refine hK.out _ _ ⟨bq_ BK486.out 0, bq_ BK486.out 1, hHeld.2.2.1, (cv_ HB.out hw511_0), (cv_ HB.out hw511_1), (cv_ HB.out hw511_2), (cv_ HB.out hw511_3)⟩ (fun hHeld => ?_)
              clear hK K
              refine qn_ 70 ?_
              refine qp_ 9 71 ?_
              refine qp_ 10 72 ?_
              refine qt_ 11 73 ?_
              refine qp_ 13 75 ?_
              refine qd_ ?_
              try go_wp2
              go_roundg k4
              case measure => have := HK1.out; have := HK2.out; have := HK3.out; have := HK4.out; omega
              case rel => exact ⟨(x8_4), (wrap64 (x10_4 + 1)), zz9, H', ⟨(zz170 HK1.out HK2.out HK3.out HK4.out)⟩, ⟨(zz22 HO_5.out)⟩, ⟨(zz22 HO_8.out)⟩, ⟨(zz6 BK486.out)⟩, ⟨(zz6 BK487.out)⟩, ⟨(zz146 GE486.out GE487.out)⟩⟩
            ·have H' := zA H; clear H
             obtain ⟨Ao52, co52, eo52⟩ := Kd.R_slice HO_5.out
             subst eo52
             go_wp2
             go_roundg k4
             case measure => have := HK1.out; have := HK2.out; have := HK3.out; have := HK4.out; omega
             case rel => exact ⟨(x8_4), (wrap64 (x9_3 - 1)), zz9, H', ⟨(zz170 HK1.out HK2.out HK3.out HK4.out)⟩, ⟨(zz22 HO_5.out)⟩, ⟨(zz22 HO_8.out)⟩, ⟨(zz6 BK486.out)⟩, ⟨(zz6 BK487.out)⟩, ⟨(zz146 GE486.out GE487.out)⟩⟩
         ·have c39b0 : decide (0 ≤ x9_3) = false := decide_eq_false c39
          clear c39
          obtain rfl := Option.some.inj H
          go_wp2
          go_ret
          exact ⟨_, zz14, (zz59 HO_8.out), (zz146 GE486.out GE487.out)⟩

end Go.Proofs.Ytieghkchhjailaa.S
