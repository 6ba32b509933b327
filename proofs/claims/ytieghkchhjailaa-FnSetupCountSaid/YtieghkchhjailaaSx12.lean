-- WRITTEN by wip/ext.py
import Derived.Test.YtieghkchhjailaaSx0
import Derived.Test.YtieghkchhjailaaSx2
import Derived.Test.YtieghkchhjailaaSx11
namespace Go.Proofs.Ytieghkchhjailaa.S
open Go.RowKit Go.Proofs.YtieghkchhjailaaW.PrintWords Go.Proofs.YtieghkchhjailaaW.PrintLast Go.Proofs.YtieghkchhjailaaW.PrintMore
attribute [local go_sem] max2_int min2_int max_two min_two max_three min_three max_four min_four   -- for this text's walks alone
set_option linter.unusedVariables false
set_option linter.unusedSimpArgs false

/-! ### spec_problems: function 109 -/
mutual
def spec_problems.l0 : Nat → List (S150) → Int → List (S133) → List (S137) → Option ((List (S150)))
 | 0, _, _, _, _ => none
 | k + 1, x3, x4, x425000, x425001 => if x4 < (x425000.length : Int) then (if 0 ≤ x4 then (spec_problems.l1 k x3 x4 0 x425000 x425001 ((rd_T133 x425000 x4).f0) ((rd_T133 x425000 x4).f1) ((rd_T133 x425000 x4).f2) ((rd_T133 x425000 x4).f3)) else (none)) else (spec_problems.l2 k x3 0 x425000 x425001)
def spec_problems.l1 : Nat → List (S150) → Int → Int → List (S133) → List (S137) → ByteArray → Int → List ByteArray → Bool → Option ((List (S150)))
 | 0, _, _, _, _, _, _, _, _, _ => none
 | k + 1, x3, x4, x6, x425000, x425001, x430000, x430001, x430002, x430003 => if x6 < (x430002.length : Int) then (if 0 ≤ x6 then ((spec_fixtureAt.f k x425000 (rdOf ByteArray.empty x430002 x6)).bind fun t435 => (if t435 < 0 then (if x3.length < 3518437208883 then (spec_problems.l1 k (x3 ++ [(⟨0, x430000, rdOf ByteArray.empty x430002 x6⟩ : S150)]) x4 (wrap64 (x6 + 1)) x425000 x425001 x430000 x430001 x430002 x430003) else (none)) else (if 0 ≤ t435 then (if t435 < (x425000.length : Int) then (if ((rd_T133 x425000 t435).f1) < x430001 then (if x3.length < 3518437208883 then (spec_problems.l1 k (x3 ++ [(⟨1, x430000, rdOf ByteArray.empty x430002 x6⟩ : S150)]) x4 (wrap64 (x6 + 1)) x425000 x425001 x430000 x430001 x430002 x430003) else (none)) else (spec_problems.l1 k x3 x4 (wrap64 (x6 + 1)) x425000 x425001 x430000 x430001 x430002 x430003)) else (none)) else (none)))) else (none)) else ((spec_circular.f k x425000 x425001 x430000).bind fun t430 => (if t430 = true then (if x3.length < 3518437208883 then (spec_problems.l0 k (x3 ++ [(⟨2, x430000, x430000⟩ : S150)]) (wrap64 (x4 + 1)) x425000 x425001) else (none)) else (spec_problems.l0 k x3 (wrap64 (x4 + 1)) x425000 x425001)))
def spec_problems.l2 : Nat → List (S150) → Int → List (S133) → List (S137) → Option ((List (S150)))
 | 0, _, _, _, _ => none
 | k + 1, x3, x8, x425000, x425001 => if x8 < (x425001.length : Int) then (if 0 ≤ x8 then (spec_problems.l3 k x3 x8 ((rd_T137 x425001 x8).f3) 0 x425000 x425001) else (none)) else (some x3)
def spec_problems.l3 : Nat → List (S150) → Int → List ByteArray → Int → List (S133) → List (S137) → Option ((List (S150)))
 | 0, _, _, _, _, _, _ => none
 | k + 1, x3, x8, x9, x10, x425000, x425001 => if x10 < (x9.length : Int) then (if 0 ≤ x10 then ((spec_fixtureAt.f k x425000 (rdOf ByteArray.empty x9 x10)).bind fun t447 => (if t447 < 0 then (if 0 ≤ x8 then (if x8 < (x425001.length : Int) then ((spec_idOf.f ((rd_T137 x425001 x8).f0) ((rd_T137 x425001 x8).f1) ((rd_T137 x425001 x8).f2) ((rd_T137 x425001 x8).f3)).bind fun t449 => (if x3.length < 3518437208883 then (spec_problems.l3 k (x3 ++ [(⟨0, t449, rdOf ByteArray.empty x9 x10⟩ : S150)]) x8 x9 (wrap64 (x10 + 1)) x425000 x425001) else (none))) else (none)) else (none)) else (spec_problems.l3 k x3 x8 x9 (wrap64 (x10 + 1)) x425000 x425001))) else (none)) else (spec_problems.l2 k x3 (wrap64 (x8 + 1)) x425000 x425001)
end
def spec_problems.f (k : Nat) (l0_0 : List (S133)) (l0_1 : List (S137)) : Option ((List (S150))) := spec_problems.l0 k (([] : List (S150))) 0 l0_0 l0_1
theorem spec_problems.mono_l : ∀ k, (∀ y0 y1 y2 y3, LeO (spec_problems.l0 k y0 y1 y2 y3) (spec_problems.l0 (k + 1) y0 y1 y2 y3)) ∧ (∀ y0 y1 y2 y3 y4 y5 y6 y7 y8, LeO (spec_problems.l1 k y0 y1 y2 y3 y4 y5 y6 y7 y8) (spec_problems.l1 (k + 1) y0 y1 y2 y3 y4 y5 y6 y7 y8)) ∧ (∀ y0 y1 y2 y3, LeO (spec_problems.l2 k y0 y1 y2 y3) (spec_problems.l2 (k + 1) y0 y1 y2 y3)) ∧ (∀ y0 y1 y2 y3 y4 y5, LeO (spec_problems.l3 k y0 y1 y2 y3 y4 y5) (spec_problems.l3 (k + 1) y0 y1 y2 y3 y4 y5))
 | 0 => ⟨fun _ _ _ _ r h => by simp [spec_problems.l0] at h, fun _ _ _ _ _ _ _ _ _ r h => by simp [spec_problems.l1] at h, fun _ _ _ _ r h => by simp [spec_problems.l2] at h, fun _ _ _ _ _ _ r h => by simp [spec_problems.l3] at h⟩
 | k + 1 => by
  obtain ⟨ih0, ih1, ih2, ih3⟩ := spec_problems.mono_l k
  refine ⟨?_, ?_, ?_, ?_⟩
  ·intro y0 y1 y2 y3
   unfold spec_problems.l0
   repeat' first | (with_reducible first | exact ih0 _ _ _ _ | exact ih1 _ _ _ _ _ _ _ _ _ | exact ih2 _ _ _ _ | exact ih3 _ _ _ _ _ _ | exact spec_circular.mono _ _ _ _ | exact spec_fixtureAt.mono _ _ _ | exact le1_ | exact le2_ | apply LeO.ite | refine LeO.bind ?_ fun _ => ?_) | apply LeO.ite | refine LeO.bind ?_ fun _ => ?_
  ·intro y0 y1 y2 y3 y4 y5 y6 y7 y8
   unfold spec_problems.l1
   repeat' first | (with_reducible first | exact ih0 _ _ _ _ | exact ih1 _ _ _ _ _ _ _ _ _ | exact ih2 _ _ _ _ | exact ih3 _ _ _ _ _ _ | exact spec_circular.mono _ _ _ _ | exact spec_fixtureAt.mono _ _ _ | exact le1_ | exact le2_ | apply LeO.ite | refine LeO.bind ?_ fun _ => ?_) | apply LeO.ite | refine LeO.bind ?_ fun _ => ?_
  ·intro y0 y1 y2 y3
   unfold spec_problems.l2
   repeat' first | (with_reducible first | exact ih0 _ _ _ _ | exact ih1 _ _ _ _ _ _ _ _ _ | exact ih2 _ _ _ _ | exact ih3 _ _ _ _ _ _ | exact spec_circular.mono _ _ _ _ | exact spec_fixtureAt.mono _ _ _ | exact le1_ | exact le2_ | apply LeO.ite | refine LeO.bind ?_ fun _ => ?_) | apply LeO.ite | refine LeO.bind ?_ fun _ => ?_
  ·intro y0 y1 y2 y3 y4 y5
   unfold spec_problems.l3
   repeat' first | (with_reducible first | exact ih0 _ _ _ _ | exact ih1 _ _ _ _ _ _ _ _ _ | exact ih2 _ _ _ _ | exact ih3 _ _ _ _ _ _ | exact spec_circular.mono _ _ _ _ | exact spec_fixtureAt.mono _ _ _ | exact le1_ | exact le2_ | apply LeO.ite | refine LeO.bind ?_ fun _ => ?_) | apply LeO.ite | refine LeO.bind ?_ fun _ => ?_
theorem spec_problems.mono : ∀ a0 a1 k, LeO (spec_problems.f k a0 a1) (spec_problems.f (k + 1) a0 a1) := by
 intro a0 a1 k
 obtain ⟨ih0, ih1, ih2, ih3⟩ := spec_problems.mono_l k
 unfold spec_problems.f
 repeat' first | (with_reducible first | exact ih0 _ _ _ _ | exact ih1 _ _ _ _ _ _ _ _ _ | exact ih2 _ _ _ _ | exact ih3 _ _ _ _ _ _ | exact spec_circular.mono _ _ _ _ | exact spec_fixtureAt.mono _ _ _ | exact le1_ | exact le2_ | apply LeO.ite | refine LeO.bind ?_ fun _ => ?_) | apply LeO.ite | refine LeO.bind ?_ fun _ => ?_
def spec_problems.T9 : Bool × List (List Nat × List Nat) := (true, [([], []), ([0], [0]), ([], []), ([2], [2]), ([], []), ([3, 4], [3, 4]), ([5], [5]), ([1, 6], [1, 6]), ([7, 7, 0, 1, 2, 3, 4, 5, 6, 7], [7])])
def spec_problems.B9 : List Nat := [0, 1, 0, 4, 0, 28, 60, 127, 255]
theorem spec_problems.tab9 : rtab .any (opsOf Try.f109 9) = spec_problems.T9 := by kernel_rfl
theorem spec_problems.bits9 : waitsOk spec_problems.T9.2 spec_problems.B9 = true := by kernel_rfl
def spec_problems.T11 : Bool × List (List Nat × List Nat) := (true, [([], []), ([], []), ([1], [1]), ([], []), ([3], [3]), ([], []), ([4, 5], [4, 5]), ([6], [6]), ([2, 7], [2, 7]), ([8], [8]), ([0, 9], [0, 9]), ([10, 10, 0, 1, 2, 3, 4, 5, 6, 7, 8, 9, 10], [0, 10])])
def spec_problems.B11 : List Nat := [0, 0, 2, 0, 8, 0, 56, 120, 254, 510, 1023, 2047]
theorem spec_problems.tab11 : rtab .any (opsOf Try.f109 11) = spec_problems.T11 := by kernel_rfl
theorem spec_problems.bits11 : waitsOk spec_problems.T11.2 spec_problems.B11 = true := by kernel_rfl
def spec_problems.T12 : Bool × List (List Nat × List Nat) := (true, [([], []), ([0], [0]), ([], []), ([1, 2], [1, 2]), ([3], [3]), ([4], [4]), ([], []), ([6], [6]), ([5, 7], [5, 7]), ([8], [8])])
def spec_problems.B12 : List Nat := [0, 1, 0, 7, 15, 31, 0, 64, 255, 511]
theorem spec_problems.tab12 : rtab .any (opsOf Try.f109 12) = spec_problems.T12 := by kernel_rfl
theorem spec_problems.bits12 : waitsOk spec_problems.T12.2 spec_problems.B12 = true := by kernel_rfl
def spec_problems.T13 : Bool × List (List Nat × List Nat) := (true, [([], []), ([], []), ([1], [1]), ([], []), ([3], [3]), ([], []), ([4, 5], [4, 5]), ([6], [6]), ([2, 7], [2, 7]), ([8], [8]), ([0, 9], [0, 9]), ([10, 10, 0, 1, 2, 3, 4, 5, 6, 7, 8, 9, 10], [0, 10])])
def spec_problems.B13 : List Nat := [0, 0, 2, 0, 8, 0, 56, 120, 254, 510, 1023, 2047]
theorem spec_problems.tab13 : rtab .any (opsOf Try.f109 13) = spec_problems.T13 := by kernel_rfl
theorem spec_problems.bits13 : waitsOk spec_problems.T13.2 spec_problems.B13 = true := by kernel_rfl
def spec_problems.T23 : Bool × List (List Nat × List Nat) := (true, [([], []), ([0], [0]), ([], []), ([], []), ([2, 3], [2, 3]), ([4], [4]), ([1, 5], [1, 5]), ([6], [6])])
def spec_problems.B23 : List Nat := [0, 1, 0, 0, 12, 28, 63, 127]
theorem spec_problems.tab23 : rtab .any (opsOf Try.f109 23) = spec_problems.T23 := by kernel_rfl
theorem spec_problems.bits23 : waitsOk spec_problems.T23.2 spec_problems.B23 = true := by kernel_rfl
def spec_problems.T24 : Bool × List (List Nat × List Nat) := (true, [([], []), ([], []), ([1], [1]), ([], []), ([2, 3], [2, 3]), ([4], [4]), ([5], [5]), ([], []), ([], []), ([7, 8], [7, 8]), ([9], [9]), ([6, 10], [6, 10]), ([11], [11]), ([0, 12, 6], [0, 12]), ([13, 13, 0, 1, 2, 3, 4, 5, 6, 7, 8, 9, 10, 11, 12, 13], [0, 13])])
def spec_problems.B24 : List Nat := [0, 0, 2, 0, 14, 30, 62, 0, 0, 384, 896, 2046, 4094, 8191, 16383]
theorem spec_problems.tab24 : rtab .any (opsOf Try.f109 24) = spec_problems.T24 := by kernel_rfl
theorem spec_problems.bits24 : waitsOk spec_problems.T24.2 spec_problems.B24 = true := by kernel_rfl
set_option maxHeartbeats 8000000 in
set_option maxRecDepth 100000 in
theorem spec_problems.calls (k : Nat) (A0_0 : Option Addr) (c0_0 : Nat) (l0_0 : List (S133)) (A0_1 : Option Addr) (c0_1 : Nat) (l0_1 : List (S137)) (r : List (S150)) (w : World) (hr0_0 : Kd.C k133 w A0_0 l0_0.length l0_0) (hc0_0 : l0_0.length ≤ c0_0) (hr0_1 : Kd.C k137 w A0_1 l0_1.length l0_1) (hc0_1 : l0_1.length ≤ c0_1) (h : spec_problems.f k l0_0 l0_1 = some r) :
  Calls Try.prog 109 #[.agg #[.slice A0_0 l0_0.length c0_0, .slice A0_1 l0_1.length c0_1]] w fun e w' => ∃ v0_ : Value, e = .returned (v0_) ∧ Kd.R k150 150 w' w.heap.size (fun _ => True) v0_ r ∧ Below w.heap.size w w' := by
 have hu108 := Try.underlying108; have hu133 := Try.underlying133; have hu150 := Try.underlying150; have hu137 := Try.underlying137; have HR0_0 := zA hr0_0; have HC0_0 := zA hc0_0; clear hr0_0 hc0_0; have HR0_1 := zA hr0_1; have HC0_1 := zA hc0_1; clear hr0_1 hc0_1; have HB := zA zz2
 have H : (spec_problems.l0 k (([] : List (S150))) 0 l0_0 l0_1) = some r := h
 clear h
 obtain ⟨y425, hy425⟩ : ∃ y_ : List (S150), y_ = (([] : List (S150))) := ⟨_, rfl⟩
 replace H : (spec_problems.l0 k y425 0 l0_0 l0_1) = some r := (zz24 hy425)
 have Ny425 := zA hy425; clear hy425; have H' := zA H; clear H
 go_enter Try.func109, Try.ntmps109
 go_wp2_with (first | ((with_reducible refine gate_dst (N := 1) rfl ?_); refine bx_ 1 #[.slice A0_0 l0_0.length c0_0, .slice A0_1 l0_1.length c0_1] 108 ?_; intro gb424 hg w2 hbox hb; have BK424 := zA (hbox); have GW424 := zA ((zz38 : w.heap.size ≤ gb424)); have GE424 := zA ((zz38 : w.heap.size ≤ gb424)); replace HB := zA zz4; clear hb hbox hg) | ((with_reducible refine gate_dst (N := 11) rfl ?_); refine rl_ k150 150 11 ?_; intro v426 w3 ho4 hb; replace ho4 := ny_ Ny425.out ho4; have HO427 := zA (zz160 ho4 GE424.out); replace BK424 := zA (blk_below (g := gb424) (o := .cells #[.slice A0_0 l0_0.length c0_0, .slice A0_1 l0_1.length c0_1] 108 (0, 0)) (zz6 BK424.out) hb); replace HB := zA (zz138 GE424.out); clear hb ho4))
 go_loopg [3, 4] k (fun kq v3 v4 w' => ∃ (x3_1 : List (S150)) (x4_1 : Int), v4 = .int .i64 x4_1 ∧ Aside0 (spec_problems.l0 kq x3_1 x4_1 l0_0 l0_1 = some r) ∧ Aside0 (kq ≤ k) ∧ Aside0 (Kd.R k150 150 w' w.heap.size (fun _ => True) v3 x3_1) ∧ Aside0 (w'.heap[gb424]? = some (.cells #[(.slice A0_0 l0_0.length c0_0), (.slice A0_1 l0_1.length c0_1)] 108 (0, 0))) ∧ Aside0 (Below w.heap.size w w'))
 case atStart => exact ⟨(y425), (0), zz9, H', ⟨Nat.le_refl _⟩, ⟨(zz22 HO427.out)⟩, ⟨(zz6 BK424.out)⟩, ⟨(zz7 GE424.out)⟩⟩
 case round =>
  clear H'; try clear c1; try clear p2
  obtain ⟨x3_1, x4_1, rfl, HA, HK1, HO_3, BK424, HB⟩ := hrel
  cases gk with
  | zero => exact absurd HA.out (by simp [spec_problems.l0])
  | succ k1 =>
   have H := HA.out; clear HA
   simp only [spec_problems.l0] at H
   rcases iu_ H with ⟨c5b0, H⟩ | ⟨c5b0, H⟩
   ·obtain ⟨c6b0, H⟩ := it_ H
    have H' := zA H; clear H
    obtain ⟨hcz7_0, hcz7_1, hfz7_0, hfz7_1⟩ := bk2_ BK424.out
    have p428 : 0 ≤ (x4_1 : Int) := dz_
    have q428 : x4_1 < (l0_0.length : Int) := dz_
    obtain ⟨ad428, A428_2, c428_2, e428, hx428_0, hx428_1, hx428_2, hx428_3, hl428_2, hi428_2⟩ := at_T133 HR0_0.out x4_1 p428 q428
    cases e428
    replace hx428_0 := cup_ HB.out hx428_0; replace hx428_1 := cup_ HB.out hx428_1; replace hx428_2 := cup_ HB.out hx428_2; replace hx428_3 := cup_ HB.out hx428_3
    have HR428_2 := zA hi428_2; have HC428_2 := zA hl428_2; clear hi428_2 hl428_2
    replace p428 := eq_true p428
    replace q428 := eq_true q428
    go_wp2_with (((with_reducible refine gate_dst (N := 5) rfl ?_); refine bx_ 5 #[.string (⟨#[]⟩ : ByteArray), .int .i64 0, .slice none 0 0, .bool false] 133 ?_; intro gb429 hg w8 hbox hb; replace HO_3 := zA (zz33 HO_3.out); have BK429 := zA (hbox); have GW429 := zA (((zz137 GE424.out) : w.heap.size ≤ gb429)); have GE429 := zA (((zz137 GE424.out) : w.heap.size ≤ gb429)); replace HB := zA (zz138 GE424.out); have NB424_429 := zA ((by rw [hg]; exact Nat.ne_of_lt (blk_lt (g := gb424) (o := .cells #[.slice (some ad428) l0_0.length c0_0, .slice A0_1 l0_1.length c0_1] 108 (0, 0)) (zz6 BK424.out)) : gb424 ≠ gb429)); have NB429_424 := zA ((by rw [hg]; exact Nat.ne_of_gt (blk_lt (g := gb424) (o := .cells #[.slice (some ad428) l0_0.length c0_0, .slice A0_1 l0_1.length c0_1] 108 (0, 0)) (zz6 BK424.out)) : gb429 ≠ gb424)); replace BK424 := zA (blk_below (g := gb424) (o := .cells #[.slice (some ad428) l0_0.length c0_0, .slice A0_1 l0_1.length c0_1] 108 (0, 0)) (zz6 BK424.out) hb); clear hb hbox hg; have hnb9 := NB429_424.out; have hnc9 := NB424_429.out; obtain ⟨hcz10_0, hcz10_1, hcz10_2, hcz10_3, hfz10_0, hfz10_1, hfz10_2, hfz10_3⟩ := bk4_ BK429.out))
    go_loopg [3, 6] k1 (fun kq v3 v6 w' => ∃ (x3_2 : List (S150)) (x6_2 : Int), v6 = .int .i64 x6_2 ∧ Aside0 (spec_problems.l1 kq x3_2 x4_1 x6_2 l0_0 l0_1 ((rd_T133 l0_0 x4_1).f0) ((rd_T133 l0_0 x4_1).f1) ((rd_T133 l0_0 x4_1).f2) ((rd_T133 l0_0 x4_1).f3) = some r) ∧ Aside0 (kq ≤ k1) ∧ Aside0 (Kd.R k150 150 w' w.heap.size (fun _ => True) v3 x3_2) ∧ Aside0 (w'.heap[gb424]? = some (.cells #[(.slice (some ad428) l0_0.length c0_0), (.slice A0_1 l0_1.length c0_1)] 108 (0, 0))) ∧ Aside0 (w'.heap[gb429]? = some (.cells #[.string ((rd_T133 l0_0 x4_1).f0), .int .i64 ((rd_T133 l0_0 x4_1).f1), (.slice A428_2 ((rd_T133 l0_0 x4_1).f2).length c428_2), .bool ((rd_T133 l0_0 x4_1).f3)] 133 (0, 0))) ∧ Aside0 (Below w.heap.size w w'))
    case atStart => exact ⟨(x3_1), (0), zz9, H', ⟨Nat.le_refl _⟩, ⟨by (with_reducible repeat first | apply Kd.R_alloc | apply Kd.R_drewN | apply Kd.R_drew); exact Kd.R_mono (Kd.R_far (p := ⟨gb429, 3, none⟩) (Kd.R_far (p := ⟨gb429, 2, none⟩) (Kd.R_far (p := ⟨gb429, 1, none⟩) (Kd.R_far (p := ⟨gb429, 0, none⟩) (Kd.R_types HO_3.out BK429.out (by decide)) (fun _ hk => hk.2) (.string ((rd_T133 l0_0 x4_1).f0))) (fun _ hk => hk.2) (.int .i64 ((rd_T133 l0_0 x4_1).f1))) (fun _ hk => hk.2) (.slice A428_2 ((rd_T133 l0_0 x4_1).f2).length c428_2)) (fun _ hk => hk.2) (.bool ((rd_T133 l0_0 x4_1).f3))) (fun _ hk => trivial)⟩, ⟨(zz117 NB424_429.out BK424.out)⟩, ⟨by (with_reducible repeat first | apply blk_drewN | apply blk_drew | apply blk_alloc); refine blk_put (cs := #[.string ((rd_T133 l0_0 x4_1).f0), .int .i64 ((rd_T133 l0_0 x4_1).f1), .slice A428_2 ((rd_T133 l0_0 x4_1).f2).length c428_2, .bool false]) ?_ 3 _ rfl; (with_reducible repeat first | apply blk_drewN | apply blk_drew | apply blk_alloc); refine blk_put (cs := #[.string ((rd_T133 l0_0 x4_1).f0), .int .i64 ((rd_T133 l0_0 x4_1).f1), .slice none 0 0, .bool false]) ?_ 2 _ rfl; (with_reducible repeat first | apply blk_drewN | apply blk_drew | apply blk_alloc); refine blk_put (cs := #[.string ((rd_T133 l0_0 x4_1).f0), .int .i64 0, .slice none 0 0, .bool false]) ?_ 1 _ rfl; (with_reducible repeat first | apply blk_drewN | apply blk_drew | apply blk_alloc); refine blk_put (cs := #[.string (⟨#[]⟩ : ByteArray), .int .i64 0, .slice none 0 0, .bool false]) ?_ 0 _ rfl; (with_reducible repeat first | apply blk_drewN | apply blk_drew | apply blk_alloc); exact BK429.out⟩, ⟨(zz146 GE424.out GE429.out)⟩⟩
    case round =>
     clear H'; try clear c1; try clear p2; try clear c4; try clear p4; try clear q4; try clear hx4; try clear c5; try clear c5b0; try clear c6; try clear c6b0; try clear c9; try clear c10; try clear hcz10_0; try clear hcz10_1; try clear hcz10_2; try clear hcz10_3; try clear hcz7_0; try clear hcz7_1; try clear hfz10_0; try clear hfz10_1; try clear hfz10_2; try clear hfz10_3; try clear hfz7_0; try clear hfz7_1; try clear hx428_0; try clear hx428_1; try clear hx428_2; try clear hx428_3; try clear p2; try clear p428; try clear q428
     obtain ⟨x3_2, x6_2, rfl, HA, HK2, HO_3, BK424, BK429, HB⟩ := hrel
     cases gk with
     | zero => exact absurd HA.out (by simp [spec_problems.l1])
     | succ k2 =>
      have H := HA.out; clear HA
      simp only [spec_problems.l1] at H
      rcases iu_ H with ⟨c11b0, H⟩ | ⟨c11b0, H⟩
      ·obtain ⟨c12b0, H⟩ := it_ H
       obtain ⟨t435, A13, H⟩ := bs_ H
       (try dsimp only at H)
       rcases iu_ H with ⟨c14b0, H⟩ | ⟨c14b0, H⟩
       ·obtain ⟨c15, H⟩ := in_ H
        have LMc15 := zA c15; clear c15
        obtain ⟨y437, hy437⟩ : ∃ y_ : List (S150), y_ = (x3_2 ++ [(⟨0, ((rd_T133 l0_0 x4_1).f0), rdOf ByteArray.empty ((rd_T133 l0_0 x4_1).f2) x6_2⟩ : S150)]) := ⟨_, rfl⟩
        replace H : (spec_problems.l1 k2 y437 x4_1 (wrap64 (x6_2 + 1)) l0_0 l0_1 ((rd_T133 l0_0 x4_1).f0) ((rd_T133 l0_0 x4_1).f1) ((rd_T133 l0_0 x4_1).f2) ((rd_T133 l0_0 x4_1).f3)) = some r := (zz24 hy437)
        have Ny437 := zA hy437; clear hy437; have H' := zA H; clear H; have hnb16 := NB429_424.out; have hnc16 := NB424_429.out
        obtain ⟨hcz17_0, hcz17_1, hcz17_2, hcz17_3, hfz17_0, hfz17_1, hfz17_2, hfz17_3⟩ := bk4_ BK429.out; try go_wp2; replace HO_3 := zA (Kd.R_drew HO_3.out); replace BK424 := zA (blk_drew BK424.out); replace BK429 := zA (blk_drew BK429.out); replace HB := zA zz40
        have p434 : 0 ≤ (x6_2 : Int) := dz_
        have q434 : x6_2 < (((rd_T133 l0_0 x4_1).f2).length : Int) := dz_
        obtain ⟨ad434, e434, hx434_0⟩ := Kd.at_string HR428_2.out x6_2 p434 q434
        have hw434_0 := hx434_0
        cases e434
        replace hx434_0 := cup_ HB.out hx434_0
        replace p434 := eq_true p434
        replace q434 := eq_true q434
        refine start_ (n := 9) (S := fun w' => w'.cell? ⟨gb424, 0, none⟩ = some (.slice (some ad428) l0_0.length c0_0) ∧ w'.cell? ⟨gb424, 1, none⟩ = some (.slice A0_1 l0_1.length c0_1) ∧ w'.cell? ⟨gb429, 0, none⟩ = some (.string ((rd_T133 l0_0 x4_1).f0)) ∧ w'.cell? ⟨gb429, 1, none⟩ = some (.int .i64 ((rd_T133 l0_0 x4_1).f1)) ∧ w'.cell? ⟨gb429, 2, none⟩ = some (.slice (some ad434) ((rd_T133 l0_0 x4_1).f2).length c428_2) ∧ w'.cell? ⟨gb429, 3, none⟩ = some (.bool ((rd_T133 l0_0 x4_1).f3)) ∧ w'.cell? (ad434.add (x6_2).toNat) = some (.string (rdOf ByteArray.empty ((rd_T133 l0_0 x4_1).f2) x6_2))) (ds := []) #[ff,ff,ff,ff,ff,ff,ff,ff,ff] (by kernel_rfl) rfl rfl ⟨bq_ BK424.out 0, bq_ BK424.out 1, bq_ BK429.out 0, bq_ BK429.out 1, bq_ BK429.out 2, bq_ BK429.out 3, (cv_ HB.out hw434_0)⟩ (fun hHeld => ?_); refine with_tabW spec_problems.tab9 spec_problems.bits9 (fun HT_ HW_ => ?_)
        generalize wr.drew = w18 at HO_3 BK424 BK429 HB hx434_0 hHeld ⊢
        refine qp_ 0 31 ?_
        refine qp_ 2 33 ?_
        refine qp_ 4 35 ?_
        refine qt_ 1 32 ?_
        refine qt_ 3 34 ?_
        refine qp_ 5 36 ?_
        refine qt_ 6 37 ?_
        refine qo_ 7 38 (fun K hK => ?_)
        refine goes_ Try.func120 (by kernel_rfl) rfl #[.slice (some ad428) l0_0.length c0_0, .string (rdOf ByteArray.empty ((rd_T133 l0_0 x4_1).f2) x6_2)] (by rfl) rfl rfl zz17 ?_
        with_reducible refine (spec_fixtureAt.calls k2 _ _ l0_0 (rdOf ByteArray.empty ((rd_T133 l0_0 x4_1).f2) x6_2) t435 _ ?side1 ?side2 A13.out).mono ?_
        (case side1 => exact (zz62 HR0_0.out))
        (case side2 => exact HC0_0.out)
        rintro e w' ⟨rfl, ⟨nd, rfl⟩⟩
        refine ⟨_, rfl, ?_⟩
        refine hK.out _ _ ⟨bq_ BK424.out 0, bq_ BK424.out 1, bq_ BK429.out 0, bq_ BK429.out 1, bq_ BK429.out 2, bq_ BK429.out 3, (cv_ HB.out hw434_0)⟩ (fun hHeld => ?_)
        clear hK K
        refine qn_ 38 ?_
        refine qp_ 8 7 ?_
        refine qd_ ?_
        try go_wp2
        (try (rw [drewN_self w18]; generalize hq_ : World.drewN w18 _ = w18; have n0_ : Aside0 (Kd.R k150 150 w18 w.heap.size (fun _ => True) u3 x3_2) := ⟨(zz119 HO_3.out)⟩; have n1_ : Aside0 (w18.heap[gb424]? = some (.cells #[.slice (some ad428) l0_0.length c0_0, .slice A0_1 l0_1.length c0_1] 108 (0, 0))) := ⟨(zz120 BK424.out)⟩; have n2_ : Aside0 (w18.heap[gb429]? = some (.cells #[.string ((rd_T133 l0_0 x4_1).f0), .int .i64 ((rd_T133 l0_0 x4_1).f1), .slice (some ad434) ((rd_T133 l0_0 x4_1).f2).length c428_2, .bool ((rd_T133 l0_0 x4_1).f3)] 133 (0, 0))) := ⟨(zz120 BK429.out)⟩; have n3_ : Aside0 (Below w.heap.size w w18) := ⟨by rw [← hq_]; exact (zz164 GE424.out GE429.out)⟩; clear HO_3 BK424 BK429 HB hq_; have HO_3 := n0_; have BK424 := n1_; have BK429 := n2_; have HB := n3_; clear n0_ n1_ n2_ n3_; (try (have hcq9_ : w18.cell? ⟨gb424, 0, none⟩ = some (.slice (some ad428) l0_0.length c0_0) := bq_ BK424.out 0; have hfq9_ := blk_frozen BK424.out 0)); (try (have hcq10_ : w18.cell? ⟨gb424, 1, none⟩ = some (.slice A0_1 l0_1.length c0_1) := bq_ BK424.out 1; have hfq10_ := blk_frozen BK424.out 1)); (try (have hcq11_ : w18.cell? ⟨gb429, 0, none⟩ = some (.string ((rd_T133 l0_0 x4_1).f0)) := bq_ BK429.out 0; have hfq11_ := blk_frozen BK429.out 0)); (try (have hcq12_ : w18.cell? ⟨gb429, 1, none⟩ = some (.int .i64 ((rd_T133 l0_0 x4_1).f1)) := bq_ BK429.out 1; have hfq12_ := blk_frozen BK429.out 1)); (try (have hcq13_ : w18.cell? ⟨gb429, 2, none⟩ = some (.slice (some ad434) ((rd_T133 l0_0 x4_1).f2).length c428_2) := bq_ BK429.out 2; have hfq13_ := blk_frozen BK429.out 2)); (try (have hcq14_ : w18.cell? ⟨gb429, 3, none⟩ = some (.bool ((rd_T133 l0_0 x4_1).f3)) := bq_ BK429.out 3; have hfq14_ := blk_frozen BK429.out 3))))
        replace HO_3 := zA (Kd.R_drew HO_3.out); replace BK424 := zA (blk_drew BK424.out); replace BK429 := zA (blk_drew BK429.out); replace HB := zA zz40
        have p436 : 0 ≤ (x6_2 : Int) := dz_
        have q436 : x6_2 < (((rd_T133 l0_0 x4_1).f2).length : Int) := dz_
        obtain ⟨ad436, e436, hx436_0⟩ := Kd.at_string HR428_2.out x6_2 p436 q436
        have hw436_0 := hx436_0
        obtain rfl : ad434 = ad436 := (by injection e436)
        replace hx436_0 := cup_ HB.out hx436_0
        replace p436 := eq_true p436
        replace q436 := eq_true q436
        refine start_ (n := 12) (S := fun w' => w'.cell? ⟨gb429, 0, none⟩ = some (.string ((rd_T133 l0_0 x4_1).f0)) ∧ w'.cell? ⟨gb429, 1, none⟩ = some (.int .i64 ((rd_T133 l0_0 x4_1).f1)) ∧ w'.cell? ⟨gb429, 2, none⟩ = some (.slice (some ad434) ((rd_T133 l0_0 x4_1).f2).length c428_2) ∧ w'.cell? ⟨gb429, 3, none⟩ = some (.bool ((rd_T133 l0_0 x4_1).f3)) ∧ w'.cell? (ad434.add (x6_2).toNat) = some (.string (rdOf ByteArray.empty ((rd_T133 l0_0 x4_1).f2) x6_2))) (ds := []) #[ff,ff,ff,ff,ff,ff,ff,ff,ff,ff,ff,ff] (by kernel_rfl) rfl rfl ⟨bq_ BK429.out 0, bq_ BK429.out 1, bq_ BK429.out 2, bq_ BK429.out 3, (cv_ HB.out hw436_0)⟩ (fun hHeld => ?_); refine with_tabW spec_problems.tab11 spec_problems.bits11 (fun HT_ HW_ => ?_)
        generalize w18.drew = w19 at HO_3 BK424 BK429 HB hx436_0 hHeld ⊢
        refine qp_ 0 42 ?_
        refine qp_ 1 43 ?_
        refine qp_ 3 45 ?_
        refine qp_ 5 47 ?_
        refine qt_ 2 44 ?_
        refine qt_ 4 46 ?_
        refine qp_ 6 48 ?_
        refine qt_ 7 49 ?_
        refine qp_ 8 50 ?_
        refine qo_ 9 51 (fun K hK => ?_)
        refine value_ (w1 := ?_) (v := ?_) (by rfl) rfl ?_ ?_
        rotate_left 2
        ·go_simp
         constructor
         ·rfl
         ·rfl
        refine hK.out _ _ ⟨(blk_cell (blk_alloc BK429.out _) 0).trans rfl, (blk_cell (blk_alloc BK429.out _) 1).trans rfl, (blk_cell (blk_alloc BK429.out _) 2).trans rfl, (blk_cell (blk_alloc BK429.out _) 3).trans rfl, (World.cell?_alloc_lt _ _ _ (World.block_lt_of_cell? _ _ ((cv_ HB.out hw436_0)))).trans ((cv_ HB.out hw436_0))⟩ (fun hHeld => ?_)
        clear hK K
        refine qn_ 51 ?_
        refine qo_ 10 52 (fun K hK => ?_)
        refine Kd.R_append_step k150 (w0 := w) w.heap.size (by rfl) (.tmp 42) (.tmp 51) 134 150 (.agg #[(.int .i64 0), (.string ⟨#[]⟩), (.string ⟨#[]⟩)]) 40 rfl Try.underlying134 info150 rfl (by decide) (by omega) u3 x3_2 (⟨0, ((rd_T133 l0_0 x4_1).f0), rdOf ByteArray.empty ((rd_T133 l0_0 x4_1).f2) x6_2⟩ : S150) [.int .i64 0, .string ((rd_T133 l0_0 x4_1).f0), .string (rdOf ByteArray.empty ((rd_T133 l0_0 x4_1).f2) x6_2)] (fun _ => True) (fun _ => False) rfl rfl ?aP (fun _ hk => hk.elim) ?aF ?aO ?aB ?aS ?aL ?_
        (case aP => exact k150_mkM _ _ _ (⟨0, ((rd_T133 l0_0 x4_1).f0), rdOf ByteArray.empty ((rd_T133 l0_0 x4_1).f2) x6_2⟩ : S150))
        (case aB => exact (zz165 GE424.out GE429.out))
        (case aF => exact zz163)
        (case aO => exact (zz26 HO_3.out))
        (case aS => exact (zz166 GE424.out GE429.out))
        (case aL => have := LMc15.out; omega)
        intro v438 w20 ho hb hg hat
        rw [← Ny437.out] at ho
        replace BK424 := zA (blk_grown (g := gb424) (o := .cells #[.slice (some ad428) l0_0.length c0_0, .slice A0_1 l0_1.length c0_1] 108 (0, 0)) (zz6 BK424.out) hg (Kd.R_ne HO_3.out BK424.out (by decide)))
        replace BK429 := zA (blk_grown (g := gb429) (o := .cells #[.string ((rd_T133 l0_0 x4_1).f0), .int .i64 ((rd_T133 l0_0 x4_1).f1), .slice (some ad434) ((rd_T133 l0_0 x4_1).f2).length c428_2, .bool ((rd_T133 l0_0 x4_1).f3)] 133 (0, 0)) (zz6 BK429.out) hg (Kd.R_ne HO_3.out BK429.out (by decide)))
        replace HB := zA (hb)
        have HO439 := zA (ho)
        clear HO_3 ho hb hg hat
        refine hK.out _ _ ⟨bq_ BK429.out 0, bq_ BK429.out 1, bq_ BK429.out 2, bq_ BK429.out 3, (cv_ HB.out hw436_0)⟩ (fun hHeld => ?_)
        clear hK K
        refine qn_ 52 ?_
        refine qp_ 11 3 ?_
        refine qd_ ?_
        try go_wp2
        go_roundg k2
        case measure => have := HK1.out; have := HK2.out; omega
        case rel => exact ⟨(y437), (wrap64 (x6_2 + 1)), zz9, H', ⟨(zz41 HK1.out HK2.out)⟩, ⟨(zz22 HO439.out)⟩, ⟨(zz6 BK424.out)⟩, ⟨(zz6 BK429.out)⟩, ⟨(zz146 GE424.out GE429.out)⟩⟩
       ·obtain ⟨c21b0, H⟩ := it_ H
        obtain ⟨c22b0, H⟩ := it_ H
        rcases iu_ H with ⟨c23b0, H⟩ | ⟨c23b0, H⟩
        ·obtain ⟨c24, H⟩ := in_ H
         have LMc24 := zA c24; clear c24
         obtain ⟨y442, hy442⟩ : ∃ y_ : List (S150), y_ = (x3_2 ++ [(⟨1, ((rd_T133 l0_0 x4_1).f0), rdOf ByteArray.empty ((rd_T133 l0_0 x4_1).f2) x6_2⟩ : S150)]) := ⟨_, rfl⟩
         replace H : (spec_problems.l1 k2 y442 x4_1 (wrap64 (x6_2 + 1)) l0_0 l0_1 ((rd_T133 l0_0 x4_1).f0) ((rd_T133 l0_0 x4_1).f1) ((rd_T133 l0_0 x4_1).f2) ((rd_T133 l0_0 x4_1).f3)) = some r := (zz24 hy442)
         have Ny442 := zA hy442; clear hy442; have H' := zA H; clear H; have hnb25 := NB429_424.out; have hnc25 := NB424_429.out
         obtain ⟨hcz26_0, hcz26_1, hcz26_2, hcz26_3, hfz26_0, hfz26_1, hfz26_2, hfz26_3⟩ := bk4_ BK429.out; try go_wp2; replace HO_3 := zA (Kd.R_drew HO_3.out); replace BK424 := zA (blk_drew BK424.out); replace BK429 := zA (blk_drew BK429.out); replace HB := zA zz40
         have p434 : 0 ≤ (x6_2 : Int) := dz_
         have q434 : x6_2 < (((rd_T133 l0_0 x4_1).f2).length : Int) := dz_
         obtain ⟨ad434, e434, hx434_0⟩ := Kd.at_string HR428_2.out x6_2 p434 q434
         have hw434_0 := hx434_0
         cases e434
         replace hx434_0 := cup_ HB.out hx434_0
         replace p434 := eq_true p434
         replace q434 := eq_true q434
         refine start_ (n := 9) (S := fun w' => w'.cell? ⟨gb424, 0, none⟩ = some (.slice (some ad428) l0_0.length c0_0) ∧ w'.cell? ⟨gb424, 1, none⟩ = some (.slice A0_1 l0_1.length c0_1) ∧ w'.cell? ⟨gb429, 0, none⟩ = some (.string ((rd_T133 l0_0 x4_1).f0)) ∧ w'.cell? ⟨gb429, 1, none⟩ = some (.int .i64 ((rd_T133 l0_0 x4_1).f1)) ∧ w'.cell? ⟨gb429, 2, none⟩ = some (.slice (some ad434) ((rd_T133 l0_0 x4_1).f2).length c428_2) ∧ w'.cell? ⟨gb429, 3, none⟩ = some (.bool ((rd_T133 l0_0 x4_1).f3)) ∧ w'.cell? (ad434.add (x6_2).toNat) = some (.string (rdOf ByteArray.empty ((rd_T133 l0_0 x4_1).f2) x6_2))) (ds := []) #[ff,ff,ff,ff,ff,ff,ff,ff,ff] (by kernel_rfl) rfl rfl ⟨bq_ BK424.out 0, bq_ BK424.out 1, bq_ BK429.out 0, bq_ BK429.out 1, bq_ BK429.out 2, bq_ BK429.out 3, (cv_ HB.out hw434_0)⟩ (fun hHeld => ?_); refine with_tabW spec_problems.tab9 spec_problems.bits9 (fun HT_ HW_ => ?_)
         generalize wr.drew = w27 at HO_3 BK424 BK429 HB hx434_0 hHeld ⊢
         refine qp_ 0 31 ?_
         refine qp_ 2 33 ?_
         refine qp_ 4 35 ?_
         refine qt_ 1 32 ?_
         refine qt_ 3 34 ?_
         refine qp_ 5 36 ?_
         refine qt_ 6 37 ?_
         refine qo_ 7 38 (fun K hK => ?_)
         refine goes_ Try.func120 (by kernel_rfl) rfl #[.slice (some ad428) l0_0.length c0_0, .string (rdOf ByteArray.empty ((rd_T133 l0_0 x4_1).f2) x6_2)] (by rfl) rfl rfl zz17 ?_
         with_reducible refine (spec_fixtureAt.calls k2 _ _ l0_0 (rdOf ByteArray.empty ((rd_T133 l0_0 x4_1).f2) x6_2) t435 _ ?side1 ?side2 A13.out).mono ?_
         (case side1 => exact (zz62 HR0_0.out))
         (case side2 => exact HC0_0.out)
         rintro e w' ⟨rfl, ⟨nd, rfl⟩⟩
         refine ⟨_, rfl, ?_⟩
         refine hK.out _ _ ⟨bq_ BK424.out 0, bq_ BK424.out 1, bq_ BK429.out 0, bq_ BK429.out 1, bq_ BK429.out 2, bq_ BK429.out 3, (cv_ HB.out hw434_0)⟩ (fun hHeld => ?_)
         clear hK K
         refine qn_ 38 ?_
         refine qp_ 8 7 ?_
         refine qd_ ?_
         try go_wp2
         (try (rw [drewN_self w27]; generalize hq_ : World.drewN w27 _ = w27; have n0_ : Aside0 (Kd.R k150 150 w27 w.heap.size (fun _ => True) u3 x3_2) := ⟨(zz119 HO_3.out)⟩; have n1_ : Aside0 (w27.heap[gb424]? = some (.cells #[.slice (some ad428) l0_0.length c0_0, .slice A0_1 l0_1.length c0_1] 108 (0, 0))) := ⟨(zz120 BK424.out)⟩; have n2_ : Aside0 (w27.heap[gb429]? = some (.cells #[.string ((rd_T133 l0_0 x4_1).f0), .int .i64 ((rd_T133 l0_0 x4_1).f1), .slice (some ad434) ((rd_T133 l0_0 x4_1).f2).length c428_2, .bool ((rd_T133 l0_0 x4_1).f3)] 133 (0, 0))) := ⟨(zz120 BK429.out)⟩; have n3_ : Aside0 (Below w.heap.size w w27) := ⟨by rw [← hq_]; exact (zz164 GE424.out GE429.out)⟩; clear HO_3 BK424 BK429 HB hq_; have HO_3 := n0_; have BK424 := n1_; have BK429 := n2_; have HB := n3_; clear n0_ n1_ n2_ n3_; (try (have hcq15_ : w27.cell? ⟨gb424, 0, none⟩ = some (.slice (some ad428) l0_0.length c0_0) := bq_ BK424.out 0; have hfq15_ := blk_frozen BK424.out 0)); (try (have hcq16_ : w27.cell? ⟨gb424, 1, none⟩ = some (.slice A0_1 l0_1.length c0_1) := bq_ BK424.out 1; have hfq16_ := blk_frozen BK424.out 1)); (try (have hcq17_ : w27.cell? ⟨gb429, 0, none⟩ = some (.string ((rd_T133 l0_0 x4_1).f0)) := bq_ BK429.out 0; have hfq17_ := blk_frozen BK429.out 0)); (try (have hcq18_ : w27.cell? ⟨gb429, 1, none⟩ = some (.int .i64 ((rd_T133 l0_0 x4_1).f1)) := bq_ BK429.out 1; have hfq18_ := blk_frozen BK429.out 1)); (try (have hcq19_ : w27.cell? ⟨gb429, 2, none⟩ = some (.slice (some ad434) ((rd_T133 l0_0 x4_1).f2).length c428_2) := bq_ BK429.out 2; have hfq19_ := blk_frozen BK429.out 2)); (try (have hcq20_ : w27.cell? ⟨gb429, 3, none⟩ = some (.bool ((rd_T133 l0_0 x4_1).f3)) := bq_ BK429.out 3; have hfq20_ := blk_frozen BK429.out 3))))
         replace HO_3 := zA (Kd.R_drew HO_3.out); replace BK424 := zA (blk_drew BK424.out); replace BK429 := zA (blk_drew BK429.out); replace HB := zA zz40
         have p440 : 0 ≤ (t435 : Int) := dz_
         have q440 : t435 < (l0_0.length : Int) := dz_
         obtain ⟨ad440, A440_2, c440_2, e440, hx440_0, hx440_1, hx440_2, hx440_3, hl440_2, hi440_2⟩ := at_T133 HR0_0.out t435 p440 q440
         have hw440_3 := hx440_3; have hw440_2 := hx440_2; have hw440_1 := hx440_1; have hw440_0 := hx440_0
         obtain rfl : ad428 = ad440 := (by injection e440)
         replace hx440_0 := cup_ HB.out hx440_0; replace hx440_1 := cup_ HB.out hx440_1; replace hx440_2 := cup_ HB.out hx440_2; replace hx440_3 := cup_ HB.out hx440_3
         have HR440_2 := zA hi440_2; have HC440_2 := zA hl440_2; clear hi440_2 hl440_2
         replace p440 := eq_true p440
         replace q440 := eq_true q440
         refine start_ (n := 10) (S := fun w' => w'.cell? ⟨gb424, 0, none⟩ = some (.slice (some ad428) l0_0.length c0_0) ∧ w'.cell? ⟨gb424, 1, none⟩ = some (.slice A0_1 l0_1.length c0_1) ∧ w'.cell? ⟨gb429, 0, none⟩ = some (.string ((rd_T133 l0_0 x4_1).f0)) ∧ w'.cell? ⟨gb429, 1, none⟩ = some (.int .i64 ((rd_T133 l0_0 x4_1).f1)) ∧ w'.cell? ⟨gb429, 2, none⟩ = some (.slice (some ad434) ((rd_T133 l0_0 x4_1).f2).length c428_2) ∧ w'.cell? ⟨gb429, 3, none⟩ = some (.bool ((rd_T133 l0_0 x4_1).f3)) ∧ w'.cell? (ad428.add ((t435).toNat * 4)) = some (.string ((rd_T133 l0_0 t435).f0)) ∧ w'.cell? ⟨(ad428.add ((t435).toNat * 4)).block, (ad428.add ((t435).toNat * 4)).off + 1, none⟩ = some (.int .i64 ((rd_T133 l0_0 t435).f1)) ∧ w'.cell? ⟨(ad428.add ((t435).toNat * 4)).block, (ad428.add ((t435).toNat * 4)).off + 2, none⟩ = some (.slice A440_2 ((rd_T133 l0_0 t435).f2).length c440_2) ∧ w'.cell? ⟨(ad428.add ((t435).toNat * 4)).block, (ad428.add ((t435).toNat * 4)).off + 3, none⟩ = some (.bool ((rd_T133 l0_0 t435).f3))) (ds := []) #[ff,ff,ff,ff,ff,ff,ff,ff,ff,ff] (by kernel_rfl) rfl rfl ⟨bq_ BK424.out 0, bq_ BK424.out 1, bq_ BK429.out 0, bq_ BK429.out 1, bq_ BK429.out 2, bq_ BK429.out 3, (cv_ HB.out hw440_0), (cv_ HB.out hw440_1), (cv_ HB.out hw440_2), (cv_ HB.out hw440_3)⟩ (fun hHeld => ?_); refine with_tabW spec_problems.tab12 spec_problems.bits12 (fun HT_ HW_ => ?_)
         generalize w27.drew = w28 at HO_3 BK424 BK429 HB HR440_2 hx440_0 hx440_1 hx440_2 hx440_3 hHeld ⊢
         refine qp_ 0 54 ?_
         refine qp_ 2 56 ?_
         refine qp_ 6 60 ?_
         refine qt_ 1 55 ?_
         refine qp_ 3 57 ?_
         refine qp_ 4 58 ?_
         refine qt_ 5 59 ?_
         refine qt_ 7 61 ?_
         refine qp_ 8 62 ?_
         refine qp_ 9 53 ?_
         refine qd_ ?_
         try go_wp2; replace HO_3 := zA (Kd.R_drew HO_3.out); replace BK424 := zA (blk_drew BK424.out); replace BK429 := zA (blk_drew BK429.out); replace HB := zA zz40
         have p441 : 0 ≤ (x6_2 : Int) := dz_
         have q441 : x6_2 < (((rd_T133 l0_0 x4_1).f2).length : Int) := dz_
         obtain ⟨ad441, e441, hx441_0⟩ := Kd.at_string HR428_2.out x6_2 p441 q441
         have hw441_0 := hx441_0
         obtain rfl : ad434 = ad441 := (by injection e441)
         replace hx441_0 := cup_ HB.out hx441_0
         replace p441 := eq_true p441
         replace q441 := eq_true q441
         refine start_ (n := 12) (S := fun w' => w'.cell? ⟨gb429, 0, none⟩ = some (.string ((rd_T133 l0_0 x4_1).f0)) ∧ w'.cell? ⟨gb429, 1, none⟩ = some (.int .i64 ((rd_T133 l0_0 x4_1).f1)) ∧ w'.cell? ⟨gb429, 2, none⟩ = some (.slice (some ad434) ((rd_T133 l0_0 x4_1).f2).length c428_2) ∧ w'.cell? ⟨gb429, 3, none⟩ = some (.bool ((rd_T133 l0_0 x4_1).f3)) ∧ w'.cell? (ad434.add (x6_2).toNat) = some (.string (rdOf ByteArray.empty ((rd_T133 l0_0 x4_1).f2) x6_2))) (ds := []) #[ff,ff,ff,ff,ff,ff,ff,ff,ff,ff,ff,ff] (by kernel_rfl) rfl rfl ⟨bq_ BK429.out 0, bq_ BK429.out 1, bq_ BK429.out 2, bq_ BK429.out 3, (cv_ HB.out hw441_0)⟩ (fun hHeld => ?_); refine with_tabW spec_problems.tab13 spec_problems.bits13 (fun HT_ HW_ => ?_)
         generalize w28.drew = w29 at HO_3 BK424 BK429 HB hx441_0 hHeld ⊢
         refine qp_ 0 63 ?_
         refine qp_ 1 64 ?_
         refine qp_ 3 66 ?_
         refine qp_ 5 68 ?_
         refine qt_ 2 65 ?_
         refine qt_ 4 67 ?_
         refine qp_ 6 69 ?_
         refine qt_ 7 70 ?_
         refine qp_ 8 71 ?_
         refine qo_ 9 72 (fun K hK => ?_)
         refine value_ (w1 := ?_) (v := ?_) (by rfl) rfl ?_ ?_
         rotate_left 2
         ·go_simp
          constructor
          ·rfl
          ·rfl
         refine hK.out _ _ ⟨(blk_cell (blk_alloc BK429.out _) 0).trans rfl, (blk_cell (blk_alloc BK429.out _) 1).trans rfl, (blk_cell (blk_alloc BK429.out _) 2).trans rfl, (blk_cell (blk_alloc BK429.out _) 3).trans rfl, (World.cell?_alloc_lt _ _ _ (World.block_lt_of_cell? _ _ ((cv_ HB.out hw441_0)))).trans ((cv_ HB.out hw441_0))⟩ (fun hHeld => ?_)
         clear hK K
         refine qn_ 72 ?_
         refine qo_ 10 73 (fun K hK => ?_)
         refine Kd.R_append_step k150 (w0 := w) w.heap.size (by rfl) (.tmp 63) (.tmp 72) 134 150 (.agg #[(.int .i64 0), (.string ⟨#[]⟩), (.string ⟨#[]⟩)]) 40 rfl Try.underlying134 info150 rfl (by decide) (by omega) u3 x3_2 (⟨1, ((rd_T133 l0_0 x4_1).f0), rdOf ByteArray.empty ((rd_T133 l0_0 x4_1).f2) x6_2⟩ : S150) [.int .i64 1, .string ((rd_T133 l0_0 x4_1).f0), .string (rdOf ByteArray.empty ((rd_T133 l0_0 x4_1).f2) x6_2)] (fun _ => True) (fun _ => False) rfl rfl ?aP (fun _ hk => hk.elim) ?aF ?aO ?aB ?aS ?aL ?_
         (case aP => exact k150_mkM _ _ _ (⟨1, ((rd_T133 l0_0 x4_1).f0), rdOf ByteArray.empty ((rd_T133 l0_0 x4_1).f2) x6_2⟩ : S150))
         (case aB => exact (zz165 GE424.out GE429.out))
         (case aF => exact zz163)
         (case aO => exact (zz26 HO_3.out))
         (case aS => exact (zz166 GE424.out GE429.out))
         (case aL => have := LMc24.out; omega)
         intro v443 w30 ho hb hg hat
         rw [← Ny442.out] at ho
         replace BK424 := zA (blk_grown (g := gb424) (o := .cells #[.slice (some ad428) l0_0.length c0_0, .slice A0_1 l0_1.length c0_1] 108 (0, 0)) (zz6 BK424.out) hg (Kd.R_ne HO_3.out BK424.out (by decide)))
         replace BK429 := zA (blk_grown (g := gb429) (o := .cells #[.string ((rd_T133 l0_0 x4_1).f0), .int .i64 ((rd_T133 l0_0 x4_1).f1), .slice (some ad434) ((rd_T133 l0_0 x4_1).f2).length c428_2, .bool ((rd_T133 l0_0 x4_1).f3)] 133 (0, 0)) (zz6 BK429.out) hg (Kd.R_ne HO_3.out BK429.out (by decide)))
         replace HB := zA (hb)
         have HO444 := zA (ho)
         clear HO_3 ho hb hg hat
         refine hK.out _ _ ⟨bq_ BK429.out 0, bq_ BK429.out 1, bq_ BK429.out 2, bq_ BK429.out 3, (cv_ HB.out hw441_0)⟩ (fun hHeld => ?_)
         clear hK K
         refine qn_ 73 ?_
         refine qp_ 11 3 ?_
         refine qd_ ?_
         try go_wp2
         go_roundg k2
         case measure => have := HK1.out; have := HK2.out; omega
         case rel => exact ⟨(y442), (wrap64 (x6_2 + 1)), zz9, H', ⟨(zz41 HK1.out HK2.out)⟩, ⟨(zz22 HO444.out)⟩, ⟨(zz6 BK424.out)⟩, ⟨(zz6 BK429.out)⟩, ⟨(zz146 GE424.out GE429.out)⟩⟩
        ·have H' := zA H; clear H; have hnb31 := NB429_424.out; have hnc31 := NB424_429.out
         obtain ⟨hcz32_0, hcz32_1, hcz32_2, hcz32_3, hfz32_0, hfz32_1, hfz32_2, hfz32_3⟩ := bk4_ BK429.out; try go_wp2; replace HO_3 := zA (Kd.R_drew HO_3.out); replace BK424 := zA (blk_drew BK424.out); replace BK429 := zA (blk_drew BK429.out); replace HB := zA zz40
         have p434 : 0 ≤ (x6_2 : Int) := dz_
         have q434 : x6_2 < (((rd_T133 l0_0 x4_1).f2).length : Int) := dz_
         obtain ⟨ad434, e434, hx434_0⟩ := Kd.at_string HR428_2.out x6_2 p434 q434
         have hw434_0 := hx434_0
         cases e434
         replace hx434_0 := cup_ HB.out hx434_0
         replace p434 := eq_true p434
         replace q434 := eq_true q434
         refine start_ (n := 9) (S := fun w' => w'.cell? ⟨gb424, 0, none⟩ = some (.slice (some ad428) l0_0.length c0_0) ∧ w'.cell? ⟨gb424, 1, none⟩ = some (.slice A0_1 l0_1.length c0_1) ∧ w'.cell? ⟨gb429, 0, none⟩ = some (.string ((rd_T133 l0_0 x4_1).f0)) ∧ w'.cell? ⟨gb429, 1, none⟩ = some (.int .i64 ((rd_T133 l0_0 x4_1).f1)) ∧ w'.cell? ⟨gb429, 2, none⟩ = some (.slice (some ad434) ((rd_T133 l0_0 x4_1).f2).length c428_2) ∧ w'.cell? ⟨gb429, 3, none⟩ = some (.bool ((rd_T133 l0_0 x4_1).f3)) ∧ w'.cell? (ad434.add (x6_2).toNat) = some (.string (rdOf ByteArray.empty ((rd_T133 l0_0 x4_1).f2) x6_2))) (ds := []) #[ff,ff,ff,ff,ff,ff,ff,ff,ff] (by kernel_rfl) rfl rfl ⟨bq_ BK424.out 0, bq_ BK424.out 1, bq_ BK429.out 0, bq_ BK429.out 1, bq_ BK429.out 2, bq_ BK429.out 3, (cv_ HB.out hw434_0)⟩ (fun hHeld => ?_); refine with_tabW spec_problems.tab9 spec_problems.bits9 (fun HT_ HW_ => ?_)
         generalize wr.drew = w33 at HO_3 BK424 BK429 HB hx434_0 hHeld ⊢
         refine qp_ 0 31 ?_
         refine qp_ 2 33 ?_
         refine qp_ 4 35 ?_
         refine qt_ 1 32 ?_
         refine qt_ 3 34 ?_
         refine qp_ 5 36 ?_
         refine qt_ 6 37 ?_
         refine qo_ 7 38 (fun K hK => ?_)
         refine goes_ Try.func120 (by kernel_rfl) rfl #[.slice (some ad428) l0_0.length c0_0, .string (rdOf ByteArray.empty ((rd_T133 l0_0 x4_1).f2) x6_2)] (by rfl) rfl rfl zz17 ?_
         with_reducible refine (spec_fixtureAt.calls k2 _ _ l0_0 (rdOf ByteArray.empty ((rd_T133 l0_0 x4_1).f2) x6_2) t435 _ ?side1 ?side2 A13.out).mono ?_
         (case side1 => exact (zz62 HR0_0.out))
         (case side2 => exact HC0_0.out)
         rintro e w' ⟨rfl, ⟨nd, rfl⟩⟩
         refine ⟨_, rfl, ?_⟩
         refine hK.out _ _ ⟨bq_ BK424.out 0, bq_ BK424.out 1, bq_ BK429.out 0, bq_ BK429.out 1, bq_ BK429.out 2, bq_ BK429.out 3, (cv_ HB.out hw434_0)⟩ (fun hHeld => ?_)
         clear hK K
         refine qn_ 38 ?_
         refine qp_ 8 7 ?_
         refine qd_ ?_
         try go_wp2
         (try (rw [drewN_self w33]; generalize hq_ : World.drewN w33 _ = w33; have n0_ : Aside0 (Kd.R k150 150 w33 w.heap.size (fun _ => True) u3 x3_2) := ⟨(zz119 HO_3.out)⟩; have n1_ : Aside0 (w33.heap[gb424]? = some (.cells #[.slice (some ad428) l0_0.length c0_0, .slice A0_1 l0_1.length c0_1] 108 (0, 0))) := ⟨(zz120 BK424.out)⟩; have n2_ : Aside0 (w33.heap[gb429]? = some (.cells #[.string ((rd_T133 l0_0 x4_1).f0), .int .i64 ((rd_T133 l0_0 x4_1).f1), .slice (some ad434) ((rd_T133 l0_0 x4_1).f2).length c428_2, .bool ((rd_T133 l0_0 x4_1).f3)] 133 (0, 0))) := ⟨(zz120 BK429.out)⟩; have n3_ : Aside0 (Below w.heap.size w w33) := ⟨by rw [← hq_]; exact (zz164 GE424.out GE429.out)⟩; clear HO_3 BK424 BK429 HB hq_; have HO_3 := n0_; have BK424 := n1_; have BK429 := n2_; have HB := n3_; clear n0_ n1_ n2_ n3_; (try (have hcq21_ : w33.cell? ⟨gb424, 0, none⟩ = some (.slice (some ad428) l0_0.length c0_0) := bq_ BK424.out 0; have hfq21_ := blk_frozen BK424.out 0)); (try (have hcq22_ : w33.cell? ⟨gb424, 1, none⟩ = some (.slice A0_1 l0_1.length c0_1) := bq_ BK424.out 1; have hfq22_ := blk_frozen BK424.out 1)); (try (have hcq23_ : w33.cell? ⟨gb429, 0, none⟩ = some (.string ((rd_T133 l0_0 x4_1).f0)) := bq_ BK429.out 0; have hfq23_ := blk_frozen BK429.out 0)); (try (have hcq24_ : w33.cell? ⟨gb429, 1, none⟩ = some (.int .i64 ((rd_T133 l0_0 x4_1).f1)) := bq_ BK429.out 1; have hfq24_ := blk_frozen BK429.out 1)); (try (have hcq25_ : w33.cell? ⟨gb429, 2, none⟩ = some (.slice (some ad434) ((rd_T133 l0_0 x4_1).f2).length c428_2) := bq_ BK429.out 2; have hfq25_ := blk_frozen BK429.out 2)); (try (have hcq26_ : w33.cell? ⟨gb429, 3, none⟩ = some (.bool ((rd_T133 l0_0 x4_1).f3)) := bq_ BK429.out 3; have hfq26_ := blk_frozen BK429.out 3))))
         replace HO_3 := zA (Kd.R_drew HO_3.out); replace BK424 := zA (blk_drew BK424.out); replace BK429 := zA (blk_drew BK429.out); replace HB := zA zz40
         have p440 : 0 ≤ (t435 : Int) := dz_
         have q440 : t435 < (l0_0.length : Int) := dz_
         obtain ⟨ad440, A440_2, c440_2, e440, hx440_0, hx440_1, hx440_2, hx440_3, hl440_2, hi440_2⟩ := at_T133 HR0_0.out t435 p440 q440
         have hw440_3 := hx440_3; have hw440_2 := hx440_2; have hw440_1 := hx440_1; have hw440_0 := hx440_0
         obtain rfl : ad428 = ad440 := (by injection e440)
         replace hx440_0 := cup_ HB.out hx440_0; replace hx440_1 := cup_ HB.out hx440_1; replace hx440_2 := cup_ HB.out hx440_2; replace hx440_3 := cup_ HB.out hx440_3
         have HR440_2 := zA hi440_2; have HC440_2 := zA hl440_2; clear hi440_2 hl440_2
         replace p440 := eq_true p440
         replace q440 := eq_true q440
         refine start_ (n := 10) (S := fun w' => w'.cell? ⟨gb424, 0, none⟩ = some (.slice (some ad428) l0_0.length c0_0) ∧ w'.cell? ⟨gb424, 1, none⟩ = some (.slice A0_1 l0_1.length c0_1) ∧ w'.cell? ⟨gb429, 0, none⟩ = some (.string ((rd_T133 l0_0 x4_1).f0)) ∧ w'.cell? ⟨gb429, 1, none⟩ = some (.int .i64 ((rd_T133 l0_0 x4_1).f1)) ∧ w'.cell? ⟨gb429, 2, none⟩ = some (.slice (some ad434) ((rd_T133 l0_0 x4_1).f2).length c428_2) ∧ w'.cell? ⟨gb429, 3, none⟩ = some (.bool ((rd_T133 l0_0 x4_1).f3)) ∧ w'.cell? (ad428.add ((t435).toNat * 4)) = some (.string ((rd_T133 l0_0 t435).f0)) ∧ w'.cell? ⟨(ad428.add ((t435).toNat * 4)).block, (ad428.add ((t435).toNat * 4)).off + 1, none⟩ = some (.int .i64 ((rd_T133 l0_0 t435).f1)) ∧ w'.cell? ⟨(ad428.add ((t435).toNat * 4)).block, (ad428.add ((t435).toNat * 4)).off + 2, none⟩ = some (.slice A440_2 ((rd_T133 l0_0 t435).f2).length c440_2) ∧ w'.cell? ⟨(ad428.add ((t435).toNat * 4)).block, (ad428.add ((t435).toNat * 4)).off + 3, none⟩ = some (.bool ((rd_T133 l0_0 t435).f3))) (ds := []) #[ff,ff,ff,ff,ff,ff,ff,ff,ff,ff] (by kernel_rfl) rfl rfl ⟨bq_ BK424.out 0, bq_ BK424.out 1, bq_ BK429.out 0, bq_ BK429.out 1, bq_ BK429.out 2, bq_ BK429.out 3, (cv_ HB.out hw440_0), (cv_ HB.out hw440_1), (cv_ HB.out hw440_2), (cv_ HB.out hw440_3)⟩ (fun hHeld => ?_); refine with_tabW spec_problems.tab12 spec_problems.bits12 (fun HT_ HW_ => ?_)
         generalize w33.drew = w34 at HO_3 BK424 BK429 HB HR440_2 hx440_0 hx440_1 hx440_2 hx440_3 hHeld ⊢
         refine qp_ 0 54 ?_
         refine qp_ 2 56 ?_
         refine qp_ 6 60 ?_
         refine qt_ 1 55 ?_
         refine qp_ 3 57 ?_
         refine qp_ 4 58 ?_
         refine qt_ 5 59 ?_
         refine qt_ 7 61 ?_
         refine qp_ 8 62 ?_
         refine qp_ 9 53 ?_
         refine qd_ ?_
         try go_wp2
         go_roundg k2
         case measure => have := HK1.out; have := HK2.out; omega
         case rel => exact ⟨(x3_2), (wrap64 (x6_2 + 1)), zz9, H', ⟨(zz41 HK1.out HK2.out)⟩, ⟨(zz22 HO_3.out)⟩, ⟨(zz6 BK424.out)⟩, ⟨(zz6 BK429.out)⟩, ⟨(zz146 GE424.out GE429.out)⟩⟩
      ·obtain ⟨t430, A35, H⟩ := bs_ H
       (try dsimp only at H)
       by_cases c36 : t430 = true
       ·subst c36
        have H1 : (if x3_2.length < 3518437208883 then (spec_problems.l0 k2 (x3_2 ++ [(⟨2, ((rd_T133 l0_0 x4_1).f0), ((rd_T133 l0_0 x4_1).f0)⟩ : S150)]) (wrap64 (x4_1 + 1)) l0_0 l0_1) else (none)) = some r := by rw [if_pos rfl] at H; exact H
        clear H; have H := H1; clear H1
        obtain ⟨c37, H⟩ := in_ H
        have LMc37 := zA c37; clear c37
        obtain ⟨y431, hy431⟩ : ∃ y_ : List (S150), y_ = (x3_2 ++ [(⟨2, ((rd_T133 l0_0 x4_1).f0), ((rd_T133 l0_0 x4_1).f0)⟩ : S150)]) := ⟨_, rfl⟩
        replace H : (spec_problems.l0 k2 y431 (wrap64 (x4_1 + 1)) l0_0 l0_1) = some r := (zz24 hy431)
        have Ny431 := zA hy431; clear hy431; have H' := zA H; clear H; have hnb38 := NB429_424.out; have hnc38 := NB424_429.out
        obtain ⟨hcz39_0, hcz39_1, hcz39_2, hcz39_3, hfz39_0, hfz39_1, hfz39_2, hfz39_3⟩ := bk4_ BK429.out
        obtain ⟨hcz40_0, hcz40_1, hfz40_0, hfz40_1⟩ := bk2_ BK424.out
        go_wp2_with (first | ((with_reducible refine gate_callee (f := 124) rfl ?_); refine goesL_ (some 77) rfl rfl Try.func124 (by kernel_rfl) rfl #[.agg #[.slice (some ad428) l0_0.length c0_0, .slice A0_1 l0_1.length c0_1], .string ((rd_T133 l0_0 x4_1).f0)] rfl zz17 ?_; (with_reducible refine (spec_circular.calls k2 _ _ l0_0 _ _ l0_1 ((rd_T133 l0_0 x4_1).f0) true _ ?side1 ?side2 ?side3 ?side4 A35.out).mono ?_); (case side1 => exact (zz62 HR0_0.out)); (case side2 => exact HC0_0.out); (case side3 => exact (zz62 HR0_1.out)); (case side4 => exact HC0_1.out); rintro e w41 ⟨rfl, hb⟩; refine ⟨_, rfl, ?_⟩; replace HO_3 := zA (zz33 HO_3.out); replace BK424 := zA (blk_below (g := gb424) (o := .cells #[.slice (some ad428) l0_0.length c0_0, .slice A0_1 l0_1.length c0_1] 108 (0, 0)) (zz6 BK424.out) hb); replace BK429 := zA (blk_below (g := gb429) (o := .cells #[.string ((rd_T133 l0_0 x4_1).f0), .int .i64 ((rd_T133 l0_0 x4_1).f1), .slice A428_2 ((rd_T133 l0_0 x4_1).f2).length c428_2, .bool ((rd_T133 l0_0 x4_1).f3)] 133 (0, 0)) (zz6 BK429.out) hb); replace HB := zA (zz167 GE424.out GE429.out); (try clear hb); obtain ⟨hcz42_0, hcz42_1, hcz42_2, hcz42_3, hfz42_0, hfz42_1, hfz42_2, hfz42_3⟩ := bk4_ BK429.out) | ((with_reducible refine gate_builtin (b := .append) (xs := #[.tmp 78, .tmp 84]) rfl ?_); at_builtin; refine Kd.R_append k150 (w0 := w) w.heap.size rfl (.tmp 78) (.tmp 84) 134 150 (.agg #[(.int .i64 0), (.string ⟨#[]⟩), (.string ⟨#[]⟩)]) 40 rfl Try.underlying134 info150 rfl (by decide) (by omega) u3 x3_2 (⟨2, ((rd_T133 l0_0 x4_1).f0), ((rd_T133 l0_0 x4_1).f0)⟩ : S150) [.int .i64 2, .string ((rd_T133 l0_0 x4_1).f0), .string ((rd_T133 l0_0 x4_1).f0)] (fun _ => True) (fun _ => False) rfl rfl ?aP (fun _ hk => hk.elim) ?aF ?aO ?aB ?aS ?aL ?_; (case aP => exact k150_mkM _ _ _ (⟨2, ((rd_T133 l0_0 x4_1).f0), ((rd_T133 l0_0 x4_1).f0)⟩ : S150)); (case aB => exact (zz165 GE424.out GE429.out)); (case aF => exact zz163); (case aO => exact (zz26 HO_3.out)); (case aS => exact (zz166 GE424.out GE429.out)); (case aL => have := LMc37.out; omega); intro v432 w43 ho hb hg hat; rw [← Ny431.out] at ho; replace BK424 := zA (blk_grown (g := gb424) (o := .cells #[.slice (some ad428) l0_0.length c0_0, .slice A0_1 l0_1.length c0_1] 108 (0, 0)) (zz6 BK424.out) hg (Kd.R_ne HO_3.out BK424.out (by decide))); replace BK429 := zA (blk_grown (g := gb429) (o := .cells #[.string ((rd_T133 l0_0 x4_1).f0), .int .i64 ((rd_T133 l0_0 x4_1).f1), .slice A428_2 ((rd_T133 l0_0 x4_1).f2).length c428_2, .bool ((rd_T133 l0_0 x4_1).f3)] 133 (0, 0)) (zz6 BK429.out) hg (Kd.R_ne HO_3.out BK429.out (by decide))); replace HB := zA (hb); have HO433 := zA (ho); clear HO_3; clear ho hb hg hat))
        go_roundg k2
        case measure => have := HK1.out; have := HK2.out; omega
        case rel => exact ⟨(y431), (wrap64 (x4_1 + 1)), zz9, H', ⟨(zz41 HK1.out HK2.out)⟩, ⟨(zz22 HO433.out)⟩, ⟨(zz6 BK424.out)⟩, ⟨(zz146 GE424.out GE429.out)⟩⟩
       ·replace c36 := Bool.eq_false_iff.mpr c36
        subst c36
        have H1 : (spec_problems.l0 k2 x3_2 (wrap64 (x4_1 + 1)) l0_0 l0_1) = some r := by rw [if_neg (show ¬ (false = true) by decide)] at H; exact H
        clear H; have H := H1; clear H1; have H' := zA H; clear H; have hnb44 := NB429_424.out; have hnc44 := NB424_429.out
        obtain ⟨hcz45_0, hcz45_1, hcz45_2, hcz45_3, hfz45_0, hfz45_1, hfz45_2, hfz45_3⟩ := bk4_ BK429.out
        obtain ⟨hcz46_0, hcz46_1, hfz46_0, hfz46_1⟩ := bk2_ BK424.out
        go_wp2_with (((with_reducible refine gate_callee (f := 124) rfl ?_); refine goesL_ (some 77) rfl rfl Try.func124 (by kernel_rfl) rfl #[.agg #[.slice (some ad428) l0_0.length c0_0, .slice A0_1 l0_1.length c0_1], .string ((rd_T133 l0_0 x4_1).f0)] rfl zz17 ?_; (with_reducible refine (spec_circular.calls k2 _ _ l0_0 _ _ l0_1 ((rd_T133 l0_0 x4_1).f0) false _ ?side1 ?side2 ?side3 ?side4 A35.out).mono ?_); (case side1 => exact (zz62 HR0_0.out)); (case side2 => exact HC0_0.out); (case side3 => exact (zz62 HR0_1.out)); (case side4 => exact HC0_1.out); rintro e w47 ⟨rfl, hb⟩; refine ⟨_, rfl, ?_⟩; replace HO_3 := zA (zz33 HO_3.out); replace BK424 := zA (blk_below (g := gb424) (o := .cells #[.slice (some ad428) l0_0.length c0_0, .slice A0_1 l0_1.length c0_1] 108 (0, 0)) (zz6 BK424.out) hb); replace BK429 := zA (blk_below (g := gb429) (o := .cells #[.string ((rd_T133 l0_0 x4_1).f0), .int .i64 ((rd_T133 l0_0 x4_1).f1), .slice A428_2 ((rd_T133 l0_0 x4_1).f2).length c428_2, .bool ((rd_T133 l0_0 x4_1).f3)] 133 (0, 0)) (zz6 BK429.out) hb); replace HB := zA (zz167 GE424.out GE429.out); (try clear hb)))
        go_roundg k2
        case measure => have := HK1.out; have := HK2.out; omega
        case rel => exact ⟨(x3_2), (wrap64 (x4_1 + 1)), zz9, H', ⟨(zz41 HK1.out HK2.out)⟩, ⟨(zz22 HO_3.out)⟩, ⟨(zz6 BK424.out)⟩, ⟨(zz146 GE424.out GE429.out)⟩⟩
   ·have H' := zA H; clear H
    obtain ⟨hcz48_0, hcz48_1, hfz48_0, hfz48_1⟩ := bk2_ BK424.out
    go_wp2
    go_loopg [3, 8] k1 (fun kq v3 v8 w' => ∃ (x3_2 : List (S150)) (x8_2 : Int), v8 = .int .i64 x8_2 ∧ Aside0 (spec_problems.l2 kq x3_2 x8_2 l0_0 l0_1 = some r) ∧ Aside0 (kq ≤ k1) ∧ Aside0 (Kd.R k150 150 w' w.heap.size (fun _ => True) v3 x3_2) ∧ Aside0 (w'.heap[gb424]? = some (.cells #[(.slice A0_0 l0_0.length c0_0), (.slice A0_1 l0_1.length c0_1)] 108 (0, 0))) ∧ Aside0 (Below w.heap.size w w'))
    case atStart => exact ⟨(x3_1), (0), zz9, H', ⟨Nat.le_refl _⟩, ⟨(zz22 HO_3.out)⟩, ⟨(zz6 BK424.out)⟩, ⟨(zz7 GE424.out)⟩⟩
    case round =>
     clear H'; try clear c1; try clear c2; try clear p2; try clear c3; try clear c4; try clear p4; try clear q4; try clear hx4; try clear c5; try clear c5b0; try clear c6; try clear p6; try clear c11; try clear c11b0; try clear c12; try clear c21; try clear c22; try clear c23; try clear c23b0; try clear c24; try clear c31; try clear c36; try clear c37; try clear c38; try clear c42; try clear p43; try clear q43; try clear hx43; try clear c44; try clear p44; try clear q44; try clear hx44; try clear hcz32_0; try clear hcz32_1; try clear hcz32_2; try clear hcz32_3; try clear hcz39_0; try clear hcz39_1; try clear hcz39_2; try clear hcz39_3; try clear hcz40_0; try clear hcz40_1; try clear hcz42_0; try clear hcz42_1; try clear hcz42_2; try clear hcz42_3; try clear hcz45_0; try clear hcz45_1; try clear hcz45_2; try clear hcz45_3; try clear hcz46_0; try clear hcz46_1; try clear hcz48_0; try clear hcz48_1; try clear hfz32_0; try clear hfz32_1; try clear hfz32_2; try clear hfz32_3; try clear hfz39_0; try clear hfz39_1; try clear hfz39_2; try clear hfz39_3; try clear hfz40_0; try clear hfz40_1; try clear hfz42_0; try clear hfz42_1; try clear hfz42_2; try clear hfz42_3; try clear hfz45_0; try clear hfz45_1; try clear hfz45_2; try clear hfz45_3; try clear hfz46_0; try clear hfz46_1; try clear hfz48_0; try clear hfz48_1; try clear hx434_0; try clear hx440_0; try clear hx440_1; try clear hx440_2; try clear hx440_3; try clear hx441_0; try clear p434; try clear p440; try clear p441; try clear q434; try clear q440; try clear q441
     obtain ⟨x3_2, x8_2, rfl, HA, HK2, HO_3, BK424, HB⟩ := hrel
     cases gk with
     | zero => exact absurd HA.out (by simp [spec_problems.l2])
     | succ k2 =>
      have H := HA.out; clear HA
      simp only [spec_problems.l2] at H
      rcases iu_ H with ⟨c49b0, H⟩ | ⟨c49b0, H⟩
      ·obtain ⟨c50b0, H⟩ := it_ H
       have H' := zA H; clear H
       obtain ⟨hcz51_0, hcz51_1, hfz51_0, hfz51_1⟩ := bk2_ BK424.out
       have p445 : 0 ≤ (x8_2 : Int) := dz_
       have q445 : x8_2 < (l0_1.length : Int) := dz_
       obtain ⟨ad445, A445_2, c445_2, A445_3, c445_3, e445, hx445_0, hx445_1, hx445_2, hx445_3, hl445_2, hi445_2, hl445_3, hi445_3⟩ := at_T137 HR0_1.out x8_2 p445 q445
       cases e445
       replace hx445_0 := cup_ HB.out hx445_0; replace hx445_1 := cup_ HB.out hx445_1; replace hx445_2 := cup_ HB.out hx445_2; replace hx445_3 := cup_ HB.out hx445_3
       have HR445_2 := zA hi445_2; have HC445_2 := zA hl445_2; clear hi445_2 hl445_2; have HR445_3 := zA hi445_3; have HC445_3 := zA hl445_3; clear hi445_3 hl445_3
       replace p445 := eq_true p445
       replace q445 := eq_true q445
       go_wp2
       go_loopg [3, 10] k2 (fun kq v3 v10 w' => ∃ (x3_3 : List (S150)) (x10_3 : Int), v10 = .int .i64 x10_3 ∧ Aside0 (spec_problems.l3 kq x3_3 x8_2 ((rd_T137 l0_1 x8_2).f3) x10_3 l0_0 l0_1 = some r) ∧ Aside0 (kq ≤ k2) ∧ Aside0 (Kd.R k150 150 w' w.heap.size (fun _ => True) v3 x3_3) ∧ Aside0 (w'.heap[gb424]? = some (.cells #[(.slice A0_0 l0_0.length c0_0), (.slice (some ad445) l0_1.length c0_1)] 108 (0, 0))) ∧ Aside0 (Below w.heap.size w w'))
       case atStart => exact ⟨(x3_2), (0), zz9, H', ⟨Nat.le_refl _⟩, ⟨(zz22 HO_3.out)⟩, ⟨(zz6 BK424.out)⟩, ⟨(zz7 GE424.out)⟩⟩
       case round =>
        clear H'; try clear c1; try clear c2; try clear p2; try clear c3; try clear c4; try clear p4; try clear q4; try clear hx4; try clear c5; try clear c5b0; try clear c6; try clear p6; try clear c11; try clear c11b0; try clear c12; try clear c21; try clear c22; try clear c23; try clear c23b0; try clear c24; try clear c31; try clear c36; try clear c37; try clear c38; try clear c42; try clear p43; try clear q43; try clear hx43; try clear c44; try clear p44; try clear q44; try clear hx44; try clear c49; try clear c49b0; try clear c50; try clear c50b0; try clear hcz32_0; try clear hcz32_1; try clear hcz32_2; try clear hcz32_3; try clear hcz39_0; try clear hcz39_1; try clear hcz39_2; try clear hcz39_3; try clear hcz40_0; try clear hcz40_1; try clear hcz42_0; try clear hcz42_1; try clear hcz42_2; try clear hcz42_3; try clear hcz45_0; try clear hcz45_1; try clear hcz45_2; try clear hcz45_3; try clear hcz46_0; try clear hcz46_1; try clear hcz48_0; try clear hcz48_1; try clear hcz51_0; try clear hcz51_1; try clear hfz32_0; try clear hfz32_1; try clear hfz32_2; try clear hfz32_3; try clear hfz39_0; try clear hfz39_1; try clear hfz39_2; try clear hfz39_3; try clear hfz40_0; try clear hfz40_1; try clear hfz42_0; try clear hfz42_1; try clear hfz42_2; try clear hfz42_3; try clear hfz45_0; try clear hfz45_1; try clear hfz45_2; try clear hfz45_3; try clear hfz46_0; try clear hfz46_1; try clear hfz48_0; try clear hfz48_1; try clear hfz51_0; try clear hfz51_1; try clear hx434_0; try clear hx440_0; try clear hx440_1; try clear hx440_2; try clear hx440_3; try clear hx441_0; try clear hx445_0; try clear hx445_1; try clear hx445_2; try clear hx445_3; try clear p2; try clear p4; try clear p43; try clear p434; try clear p44; try clear p440; try clear p441; try clear p445; try clear p6; try clear q4; try clear q43; try clear q434; try clear q44; try clear q440; try clear q441; try clear q445
        obtain ⟨x3_3, x10_3, rfl, HA, HK3, HO_3, BK424, HB⟩ := hrel
        cases gk with
        | zero => exact absurd HA.out (by simp [spec_problems.l3])
        | succ k3 =>
         have H := HA.out; clear HA
         simp only [spec_problems.l3] at H
         rcases iu_ H with ⟨c52b0, H⟩ | ⟨c52b0, H⟩
         ·obtain ⟨c53b0, H⟩ := it_ H
          obtain ⟨t447, A54, H⟩ := bs_ H
          (try dsimp only at H)
          rcases iu_ H with ⟨c55b0, H⟩ | ⟨c55b0, H⟩
          ·obtain ⟨c56b0, H⟩ := it_ H
           obtain ⟨c57b0, H⟩ := it_ H
           obtain ⟨t449, A58, H⟩ := bs_ H
           (try dsimp only at H)
           obtain ⟨c59, H⟩ := in_ H
           have LMc59 := zA c59; clear c59
           obtain ⟨y451, hy451⟩ : ∃ y_ : List (S150), y_ = (x3_3 ++ [(⟨0, t449, rdOf ByteArray.empty ((rd_T137 l0_1 x8_2).f3) x10_3⟩ : S150)]) := ⟨_, rfl⟩
           replace H : (spec_problems.l3 k3 y451 x8_2 ((rd_T137 l0_1 x8_2).f3) (wrap64 (x10_3 + 1)) l0_0 l0_1) = some r := (zz24 hy451)
           have Ny451 := zA hy451; clear hy451; have H' := zA H; clear H; try go_wp2; replace HO_3 := zA (Kd.R_drew HO_3.out); replace BK424 := zA (blk_drew BK424.out); replace HB := zA zz40
           have p446 : 0 ≤ (x10_3 : Int) := dz_
           have q446 : x10_3 < (((rd_T137 l0_1 x8_2).f3).length : Int) := dz_
           obtain ⟨ad446, e446, hx446_0⟩ := Kd.at_string HR445_3.out x10_3 p446 q446
           have hw446_0 := hx446_0
           cases e446
           replace hx446_0 := cup_ HB.out hx446_0
           replace p446 := eq_true p446
           replace q446 := eq_true q446
           refine start_ (n := 8) (S := fun w' => w'.cell? ⟨gb424, 0, none⟩ = some (.slice A0_0 l0_0.length c0_0) ∧ w'.cell? ⟨gb424, 1, none⟩ = some (.slice (some ad445) l0_1.length c0_1) ∧ w'.cell? (ad446.add (x10_3).toNat) = some (.string (rdOf ByteArray.empty ((rd_T137 l0_1 x8_2).f3) x10_3))) (ds := []) #[ff,ff,ff,ff,ff,ff,ff,ff] (by kernel_rfl) rfl rfl ⟨bq_ BK424.out 0, bq_ BK424.out 1, (cv_ HB.out hw446_0)⟩ (fun hHeld => ?_); refine with_tabW spec_problems.tab23 spec_problems.bits23 (fun HT_ HW_ => ?_)
           generalize wr.drew = w60 at HO_3 BK424 HB hx446_0 hHeld ⊢
           refine qp_ 0 105 ?_
           refine qp_ 2 107 ?_
           refine qp_ 3 108 ?_
           refine qp_ 4 109 ?_
           refine qt_ 1 106 ?_
           refine qt_ 5 110 ?_
           refine qo_ 6 111 (fun K hK => ?_)
           refine goes_ Try.func120 (by kernel_rfl) rfl #[.slice A0_0 l0_0.length c0_0, .string (rdOf ByteArray.empty ((rd_T137 l0_1 x8_2).f3) x10_3)] (by rfl) rfl rfl zz17 ?_
           with_reducible refine (spec_fixtureAt.calls k3 _ _ l0_0 (rdOf ByteArray.empty ((rd_T137 l0_1 x8_2).f3) x10_3) t447 _ ?side1 ?side2 A54.out).mono ?_
           (case side1 => exact (zz62 HR0_0.out))
           (case side2 => exact HC0_0.out)
           rintro e w' ⟨rfl, ⟨nd, rfl⟩⟩
           refine ⟨_, rfl, ?_⟩
           refine hK.out _ _ ⟨bq_ BK424.out 0, bq_ BK424.out 1, (cv_ HB.out hw446_0)⟩ (fun hHeld => ?_)
           clear hK K
           refine qn_ 111 ?_
           refine qp_ 7 112 ?_
           refine qd_ ?_
           try go_wp2
           (try (rw [drewN_self w60]; generalize hq_ : World.drewN w60 _ = w60; have n0_ : Aside0 (Kd.R k150 150 w60 w.heap.size (fun _ => True) u3 x3_3) := ⟨(zz119 HO_3.out)⟩; have n1_ : Aside0 (w60.heap[gb424]? = some (.cells #[.slice A0_0 l0_0.length c0_0, .slice (some ad445) l0_1.length c0_1] 108 (0, 0))) := ⟨(zz120 BK424.out)⟩; have n2_ : Aside0 (Below w.heap.size w w60) := ⟨by rw [← hq_]; exact (zz150 GE424.out)⟩; clear HO_3 BK424 HB hq_; have HO_3 := n0_; have BK424 := n1_; have HB := n2_; clear n0_ n1_ n2_; (try (have hcq27_ : w60.cell? ⟨gb424, 0, none⟩ = some (.slice A0_0 l0_0.length c0_0) := bq_ BK424.out 0; have hfq27_ := blk_frozen BK424.out 0)); (try (have hcq28_ : w60.cell? ⟨gb424, 1, none⟩ = some (.slice (some ad445) l0_1.length c0_1) := bq_ BK424.out 1; have hfq28_ := blk_frozen BK424.out 1))))
           replace HO_3 := zA (Kd.R_drew HO_3.out); replace BK424 := zA (blk_drew BK424.out); replace HB := zA zz40
           have p448 : 0 ≤ (x8_2 : Int) := dz_
           have q448 : x8_2 < (l0_1.length : Int) := dz_
           obtain ⟨ad448, A448_2, c448_2, A448_3, c448_3, e448, hx448_0, hx448_1, hx448_2, hx448_3, hl448_2, hi448_2, hl448_3, hi448_3⟩ := at_T137 HR0_1.out x8_2 p448 q448
           have hw448_3 := hx448_3; have hw448_2 := hx448_2; have hw448_1 := hx448_1; have hw448_0 := hx448_0
           obtain rfl : ad445 = ad448 := (by injection e448)
           replace hx448_0 := cup_ HB.out hx448_0; replace hx448_1 := cup_ HB.out hx448_1; replace hx448_2 := cup_ HB.out hx448_2; replace hx448_3 := cup_ HB.out hx448_3
           have HR448_2 := zA hi448_2; have HC448_2 := zA hl448_2; clear hi448_2 hl448_2; have HR448_3 := zA hi448_3; have HC448_3 := zA hl448_3; clear hi448_3 hl448_3
           replace p448 := eq_true p448
           replace q448 := eq_true q448
           have p450 : 0 ≤ (x10_3 : Int) := dz_
           have q450 : x10_3 < (((rd_T137 l0_1 x8_2).f3).length : Int) := dz_
           obtain ⟨ad450, e450, hx450_0⟩ := Kd.at_string HR445_3.out x10_3 p450 q450
           have hw450_0 := hx450_0
           obtain rfl : ad446 = ad450 := (by injection e450)
           replace hx450_0 := cup_ HB.out hx450_0
           replace p450 := eq_true p450
           replace q450 := eq_true q450
           refine start_ (n := 15) (S := fun w' => w'.cell? ⟨gb424, 0, none⟩ = some (.slice A0_0 l0_0.length c0_0) ∧ w'.cell? ⟨gb424, 1, none⟩ = some (.slice (some ad445) l0_1.length c0_1) ∧ w'.cell? (ad445.add ((x8_2).toNat * 4)) = some (.string ((rd_T137 l0_1 x8_2).f0)) ∧ w'.cell? ⟨(ad445.add ((x8_2).toNat * 4)).block, (ad445.add ((x8_2).toNat * 4)).off + 1, none⟩ = some (.string ((rd_T137 l0_1 x8_2).f1)) ∧ w'.cell? ⟨(ad445.add ((x8_2).toNat * 4)).block, (ad445.add ((x8_2).toNat * 4)).off + 2, none⟩ = some (.slice A448_2 ((rd_T137 l0_1 x8_2).f2).length c448_2) ∧ w'.cell? ⟨(ad445.add ((x8_2).toNat * 4)).block, (ad445.add ((x8_2).toNat * 4)).off + 3, none⟩ = some (.slice A448_3 ((rd_T137 l0_1 x8_2).f3).length c448_3) ∧ w'.cell? (ad446.add (x10_3).toNat) = some (.string (rdOf ByteArray.empty ((rd_T137 l0_1 x8_2).f3) x10_3))) (ds := []) #[ff,ff,ff,ff,ff,ff,ff,ff,ff,ff,ff,ff,ff,ff,ff] (by kernel_rfl) rfl rfl ⟨bq_ BK424.out 0, bq_ BK424.out 1, (cv_ HB.out hw448_0), (cv_ HB.out hw448_1), (cv_ HB.out hw448_2), (cv_ HB.out hw448_3), (cv_ HB.out hw450_0)⟩ (fun hHeld => ?_); refine with_tabW spec_problems.tab24 spec_problems.bits24 (fun HT_ HW_ => ?_)
           generalize w60.drew = w61 at HO_3 BK424 HB HR448_2 HR448_3 hx448_0 hx448_1 hx448_2 hx448_3 hx450_0 hHeld ⊢
           refine qp_ 0 113 ?_
           refine qp_ 1 114 ?_
           refine qp_ 3 116 ?_
           refine qp_ 7 120 ?_
           refine qp_ 8 121 ?_
           refine qp_ 9 122 ?_
           refine qt_ 2 115 ?_
           refine qp_ 4 117 ?_
           refine qt_ 5 118 ?_
           refine qt_ 10 123 ?_
           refine qo_ 6 119 (fun K hK => ?_)
           refine goes_ Try.func114 (by kernel_rfl) rfl #[.agg #[.string ((rd_T137 l0_1 x8_2).f0), .string ((rd_T137 l0_1 x8_2).f1), .slice A448_2 ((rd_T137 l0_1 x8_2).f2).length c448_2, .slice A448_3 ((rd_T137 l0_1 x8_2).f3).length c448_3]] (by rfl) rfl rfl zz17 ?_
           with_reducible refine (spec_idOf.calls ((rd_T137 l0_1 x8_2).f0) ((rd_T137 l0_1 x8_2).f1) _ _ ((rd_T137 l0_1 x8_2).f2) _ _ ((rd_T137 l0_1 x8_2).f3) t449 _ ?side1 ?side2 ?side3 ?side4 A58.out).mono ?_
           (case side1 => exact (zz62 HR448_2.out))
           (case side2 => exact HC448_2.out)
           (case side3 => exact (zz62 HR448_3.out))
           (case side4 => exact HC448_3.out)
           rintro e w62 ⟨rfl, hb⟩
           refine ⟨_, rfl, ?_⟩
           replace HO_3 := zA (zz33 HO_3.out)
           replace BK424 := zA (blk_below (g := gb424) (o := .cells #[.slice A0_0 l0_0.length c0_0, .slice (some ad445) l0_1.length c0_1] 108 (0, 0)) (zz6 BK424.out) hb)
           replace HB := zA (zz138 GE424.out)
           (try clear hb)
           (try clear hb2)
           (try clear hk)
           (try clear hi)
           refine hK.out _ _ ⟨bq_ BK424.out 0, bq_ BK424.out 1, (cv_ HB.out hw448_0), (cv_ HB.out hw448_1), (cv_ HB.out hw448_2), (cv_ HB.out hw448_3), (cv_ HB.out hw450_0)⟩ (fun hHeld => ?_)
           clear hK K
           refine qn_ 119 ?_
           refine qp_ 11 124 ?_
           refine qo_ 12 125 (fun K hK => ?_)
           refine value_ (w1 := ?_) (v := ?_) (by rfl) rfl ?_ ?_
           rotate_left 2
           ·go_simp
            constructor
            ·rfl
            ·rfl
           refine hK.out _ _ ⟨(blk_cell (blk_alloc BK424.out _) 0).trans rfl, (blk_cell (blk_alloc BK424.out _) 1).trans rfl, (World.cell?_alloc_lt _ _ _ (World.block_lt_of_cell? _ _ ((cv_ HB.out hw448_0)))).trans ((cv_ HB.out hw448_0)), (World.cell?_alloc_lt _ _ _ (World.block_lt_of_cell? _ _ ((cv_ HB.out hw448_1)))).trans ((cv_ HB.out hw448_1)), (World.cell?_alloc_lt _ _ _ (World.block_lt_of_cell? _ _ ((cv_ HB.out hw448_2)))).trans ((cv_ HB.out hw448_2)), (World.cell?_alloc_lt _ _ _ (World.block_lt_of_cell? _ _ ((cv_ HB.out hw448_3)))).trans ((cv_ HB.out hw448_3)), (World.cell?_alloc_lt _ _ _ (World.block_lt_of_cell? _ _ ((cv_ HB.out hw450_0)))).trans ((cv_ HB.out hw450_0))⟩ (fun hHeld => ?_)
           clear hK K
           refine qn_ 125 ?_
           refine qo_ 13 126 (fun K hK => ?_)
           refine Kd.R_append_step k150 (w0 := w) w.heap.size (by rfl) (.tmp 113) (.tmp 125) 134 150 (.agg #[(.int .i64 0), (.string ⟨#[]⟩), (.string ⟨#[]⟩)]) 40 rfl Try.underlying134 info150 rfl (by decide) (by omega) u3 x3_3 (⟨0, t449, rdOf ByteArray.empty ((rd_T137 l0_1 x8_2).f3) x10_3⟩ : S150) [.int .i64 0, .string t449, .string (rdOf ByteArray.empty ((rd_T137 l0_1 x8_2).f3) x10_3)] (fun _ => True) (fun _ => False) rfl rfl ?aP (fun _ hk => hk.elim) ?aF ?aO ?aB ?aS ?aL ?_
           (case aP => exact k150_mkM _ _ _ (⟨0, t449, rdOf ByteArray.empty ((rd_T137 l0_1 x8_2).f3) x10_3⟩ : S150))
           (case aB => exact (zz153 GE424.out))
           (case aF => exact zz163)
           (case aO => exact (zz26 HO_3.out))
           (case aS => exact (zz154 GE424.out))
           (case aL => have := LMc59.out; omega)
           intro v452 w63 ho hb hg hat
           rw [← Ny451.out] at ho
           replace BK424 := zA (blk_grown (g := gb424) (o := .cells #[.slice A0_0 l0_0.length c0_0, .slice (some ad445) l0_1.length c0_1] 108 (0, 0)) (zz6 BK424.out) hg (Kd.R_ne HO_3.out BK424.out (by decide)))
           replace HB := zA (hb)
           have HO453 := zA (ho)
           clear HO_3 ho hb hg hat
           refine hK.out _ _ ⟨bq_ BK424.out 0, bq_ BK424.out 1, (cv_ HB.out hw448_0), (cv_ HB.out hw448_1), (cv_ HB.out hw448_2), (cv_ HB.out hw448_3), (cv_ HB.out hw450_0)⟩ (fun hHeld => ?_)
           clear hK K
           refine qn_ 126 ?_
           refine qp_ 14 3 ?_
           refine qd_ ?_
           try go_wp2
           go_roundg k3
           case measure => have := HK1.out; have := HK2.out; have := HK3.out; omega
           case rel => exact ⟨(y451), (wrap64 (x10_3 + 1)), zz9, H', ⟨by have := HK1.out; have := HK2.out; have := HK3.out; omega⟩, ⟨(zz22 HO453.out)⟩, ⟨(zz6 BK424.out)⟩, ⟨(zz7 GE424.out)⟩⟩
          ·have H' := zA H; clear H; try go_wp2; replace HO_3 := zA (Kd.R_drew HO_3.out); replace BK424 := zA (blk_drew BK424.out); replace HB := zA zz40
           have p446 : 0 ≤ (x10_3 : Int) := dz_
           have q446 : x10_3 < (((rd_T137 l0_1 x8_2).f3).length : Int) := dz_
           obtain ⟨ad446, e446, hx446_0⟩ := Kd.at_string HR445_3.out x10_3 p446 q446
           have hw446_0 := hx446_0
           cases e446
           replace hx446_0 := cup_ HB.out hx446_0
           replace p446 := eq_true p446
           replace q446 := eq_true q446
           refine start_ (n := 8) (S := fun w' => w'.cell? ⟨gb424, 0, none⟩ = some (.slice A0_0 l0_0.length c0_0) ∧ w'.cell? ⟨gb424, 1, none⟩ = some (.slice (some ad445) l0_1.length c0_1) ∧ w'.cell? (ad446.add (x10_3).toNat) = some (.string (rdOf ByteArray.empty ((rd_T137 l0_1 x8_2).f3) x10_3))) (ds := []) #[ff,ff,ff,ff,ff,ff,ff,ff] (by kernel_rfl) rfl rfl ⟨bq_ BK424.out 0, bq_ BK424.out 1, (cv_ HB.out hw446_0)⟩ (fun hHeld => ?_); refine with_tabW spec_problems.tab23 spec_problems.bits23 (fun HT_ HW_ => ?_)
           generalize wr.drew = w64 at HO_3 BK424 HB hx446_0 hHeld ⊢
           refine qp_ 0 105 ?_
           refine qp_ 2 107 ?_
           refine qp_ 3 108 ?_
           refine qp_ 4 109 ?_
           refine qt_ 1 106 ?_
           refine qt_ 5 110 ?_
           refine qo_ 6 111 (fun K hK => ?_)
           refine goes_ Try.func120 (by kernel_rfl) rfl #[.slice A0_0 l0_0.length c0_0, .string (rdOf ByteArray.empty ((rd_T137 l0_1 x8_2).f3) x10_3)] (by rfl) rfl rfl zz17 ?_
           with_reducible refine (spec_fixtureAt.calls k3 _ _ l0_0 (rdOf ByteArray.empty ((rd_T137 l0_1 x8_2).f3) x10_3) t447 _ ?side1 ?side2 A54.out).mono ?_
           (case side1 => exact (zz62 HR0_0.out))
           (case side2 => exact HC0_0.out)
           rintro e w' ⟨rfl, ⟨nd, rfl⟩⟩
           refine ⟨_, rfl, ?_⟩
           refine hK.out _ _ ⟨bq_ BK424.out 0, bq_ BK424.out 1, (cv_ HB.out hw446_0)⟩ (fun hHeld => ?_)
           clear hK K
           refine qn_ 111 ?_
           refine qp_ 7 112 ?_
           refine qd_ ?_
           try go_wp2
           go_roundg k3
           case measure => have := HK1.out; have := HK2.out; have := HK3.out; omega
           case rel => exact ⟨(x3_3), (wrap64 (x10_3 + 1)), zz9, H', ⟨by have := HK1.out; have := HK2.out; have := HK3.out; omega⟩, ⟨(zz22 HO_3.out)⟩, ⟨(zz6 BK424.out)⟩, ⟨(zz7 GE424.out)⟩⟩
         ·have H' := zA H; clear H
          go_wp2
          go_roundg k3
          case measure => have := HK1.out; have := HK2.out; have := HK3.out; omega
          case rel => exact ⟨(x3_3), (wrap64 (x8_2 + 1)), zz9, H', ⟨by have := HK1.out; have := HK2.out; have := HK3.out; omega⟩, ⟨(zz22 HO_3.out)⟩, ⟨(zz6 BK424.out)⟩, ⟨(zz7 GE424.out)⟩⟩
      ·obtain rfl := Option.some.inj H
       obtain ⟨hcz65_0, hcz65_1, hfz65_0, hfz65_1⟩ := bk2_ BK424.out
       go_wp2
       go_ret
       exact ⟨_, zz14, (zz22 HO_3.out), (zz7 GE424.out)⟩

end Go.Proofs.Ytieghkchhjailaa.S
