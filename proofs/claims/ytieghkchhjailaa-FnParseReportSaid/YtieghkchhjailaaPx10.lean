-- WRITTEN by this session's wip/ext.py (the kit's printer, with contracts of this session's own in it): Lean checks it.
import Derived.Test.YtieghkchhjailaaPx0
import Derived.Test.YtieghkchhjailaaPx4
import Derived.Test.YtieghkchhjailaaPx5
import Derived.Test.YtieghkchhjailaaPx9
namespace Go.Proofs.Ytieghkchhjailaa.P
open Go.RowKit Go.Proofs.YtieghkchhjailaaW.PrintWords Go.Proofs.YtieghkchhjailaaW.PrintLast Go.Proofs.YtieghkchhjailaaW.PrintMore
attribute [local go_sem] max2_int min2_int max_two min_two max_three min_three max_four min_four   -- for this text's walks alone
set_option linter.unusedVariables false
set_option linter.unusedSimpArgs false

/-! ### impl_ReportText: function 32 -/
mutual
def impl_ReportText.l0 : Nat → ByteArray → List (S87) → Int → Int → List (S87) → List ByteArray → Option (ByteArray)
  | 0, _, _, _, _, _, _ => none
  | k + 1, x3, x9, x10, x11, x174000, x174001 => if x11 < x10 then (if 0 ≤ x11 then (if x11 < (x9.length : Int) then ((impl_idOk.f k ((rd_T87 x9 x11).f0)).bind fun t176 => (if t176 = true then (if ((rd_T87 x9 x11).f1) < 0 then (impl_ReportText.j1 k x3 x9 x10 x11 true x174000 x174001 ((rd_T87 x9 x11).f0) ((rd_T87 x9 x11).f1)) else (impl_ReportText.j1 k x3 x9 x10 x11 (decide (((rd_T87 x9 x11).f1) > 5)) x174000 x174001 ((rd_T87 x9 x11).f0) ((rd_T87 x9 x11).f1))) else (impl_ReportText.j1 k x3 x9 x10 x11 true x174000 x174001 ((rd_T87 x9 x11).f0) ((rd_T87 x9 x11).f1)))) else (none)) else (none)) else (impl_ReportText.l1 k x3 x174001 (x174001.length : Int) 0)
def impl_ReportText.j1 : Nat → ByteArray → List (S87) → Int → Int → Bool → List (S87) → List ByteArray → ByteArray → Int → Option (ByteArray)
  | 0, _, _, _, _, _, _, _, _, _ => none
  | k + 1, x3, x9, x10, x11, x28, x174000, x174001, x176000, x176001 => if x28 = true then (some (⟨#[]⟩ : ByteArray)) else ((impl_outcomeWords.f).bind fun t177 => (if 0 ≤ x176001 then (if x176001 < (t177.length : Int) then (if (rdOf ByteArray.empty t177 x176001).size + 1 ≤ 9223372036854775807 then (if (rdOf ByteArray.empty t177 x176001).size + 1 + x176000.size ≤ 9223372036854775807 then (if (rdOf ByteArray.empty t177 x176001).size + 1 + x176000.size + 1 ≤ 9223372036854775807 then ((impl_WS.f x3 ((((rdOf ByteArray.empty t177 x176001) ++ (⟨#[32]⟩ : ByteArray)) ++ x176000) ++ (⟨#[10]⟩ : ByteArray))).bind fun t181 => (impl_ReportText.l0 k t181 x9 x10 (wrap64 (x11 + 1)) x174000 x174001)) else (none)) else (none)) else (none)) else (none)) else (none)))
def impl_ReportText.l1 : Nat → ByteArray → List ByteArray → Int → Int → Option (ByteArray)
  | 0, _, _, _, _ => none
  | k + 1, x3, x42, x43, x44 => if x44 < x43 then (if 0 ≤ x44 then (if x44 < (x42.length : Int) then ((impl_nameOk.f k (rdOf ByteArray.empty x42 x44)).bind fun t184 => (if t184 = true then (if 5 + (rdOf ByteArray.empty x42 x44).size ≤ 9223372036854775807 then (if 5 + (rdOf ByteArray.empty x42 x44).size + 1 ≤ 9223372036854775807 then ((impl_WS.f x3 (((⟨#[100, 111, 119, 110, 32]⟩ : ByteArray) ++ (rdOf ByteArray.empty x42 x44)) ++ (⟨#[10]⟩ : ByteArray))).bind fun t185 => (impl_ReportText.l1 k t185 x42 x43 (wrap64 (x44 + 1)))) else (none)) else (none)) else (some (⟨#[]⟩ : ByteArray)))) else (none)) else (none)) else ((impl_ST.f x3).bind fun t182 => (some t182))
end
def impl_ReportText.f (k : Nat) (l0_0 : List (S87)) (l0_1 : List ByteArray) : Option (ByteArray) := impl_ReportText.l0 k (⟨#[]⟩ : ByteArray) l0_0 (l0_0.length : Int) 0 l0_0 l0_1
theorem impl_ReportText.mono_l : ∀ k, (∀ y0 y1 y2 y3 y4 y5, LeO (impl_ReportText.l0 k y0 y1 y2 y3 y4 y5) (impl_ReportText.l0 (k + 1) y0 y1 y2 y3 y4 y5)) ∧ (∀ y0 y1 y2 y3 y4 y5 y6 y7 y8, LeO (impl_ReportText.j1 k y0 y1 y2 y3 y4 y5 y6 y7 y8) (impl_ReportText.j1 (k + 1) y0 y1 y2 y3 y4 y5 y6 y7 y8)) ∧ (∀ y0 y1 y2 y3, LeO (impl_ReportText.l1 k y0 y1 y2 y3) (impl_ReportText.l1 (k + 1) y0 y1 y2 y3))
  | 0 => ⟨fun _ _ _ _ _ _ r h => by simp [impl_ReportText.l0] at h, fun _ _ _ _ _ _ _ _ _ r h => by simp [impl_ReportText.j1] at h, fun _ _ _ _ r h => by simp [impl_ReportText.l1] at h⟩
  | k + 1 => by
    obtain ⟨ih0, ih1, ih2⟩ := impl_ReportText.mono_l k
    refine ⟨?_, ?_, ?_⟩
    · intro y0 y1 y2 y3 y4 y5
      unfold impl_ReportText.l0
      repeat' first
      | (with_reducible exact ih0 _ _ _ _ _ _)
      | (with_reducible exact ih1 _ _ _ _ _ _ _ _ _)
      | (with_reducible exact ih2 _ _ _ _)
      | (with_reducible exact impl_idOk.mono _ _)
      | (with_reducible exact impl_nameOk.mono _ _)
      | (with_reducible exact LeO.refl _)
      | (with_reducible exact LeO.none _)
      | (with_reducible refine LeO.ite ?_ ?_)
      | (with_reducible refine LeO.bind ?_ (fun _ => ?_))
      | exact ih0 _ _ _ _ _ _
      | exact ih1 _ _ _ _ _ _ _ _ _
      | exact ih2 _ _ _ _
      | exact impl_idOk.mono _ _
      | exact impl_nameOk.mono _ _
      | exact LeO.none _
      | refine LeO.ite ?_ ?_
      | refine LeO.bind ?_ (fun _ => ?_)
    · intro y0 y1 y2 y3 y4 y5 y6 y7 y8
      unfold impl_ReportText.j1
      repeat' first
      | (with_reducible exact ih0 _ _ _ _ _ _)
      | (with_reducible exact ih1 _ _ _ _ _ _ _ _ _)
      | (with_reducible exact ih2 _ _ _ _)
      | (with_reducible exact impl_idOk.mono _ _)
      | (with_reducible exact impl_nameOk.mono _ _)
      | (with_reducible exact LeO.refl _)
      | (with_reducible exact LeO.none _)
      | (with_reducible refine LeO.ite ?_ ?_)
      | (with_reducible refine LeO.bind ?_ (fun _ => ?_))
      | exact ih0 _ _ _ _ _ _
      | exact ih1 _ _ _ _ _ _ _ _ _
      | exact ih2 _ _ _ _
      | exact impl_idOk.mono _ _
      | exact impl_nameOk.mono _ _
      | exact LeO.none _
      | refine LeO.ite ?_ ?_
      | refine LeO.bind ?_ (fun _ => ?_)
    · intro y0 y1 y2 y3
      unfold impl_ReportText.l1
      repeat' first
      | (with_reducible exact ih0 _ _ _ _ _ _)
      | (with_reducible exact ih1 _ _ _ _ _ _ _ _ _)
      | (with_reducible exact ih2 _ _ _ _)
      | (with_reducible exact impl_idOk.mono _ _)
      | (with_reducible exact impl_nameOk.mono _ _)
      | (with_reducible exact LeO.refl _)
      | (with_reducible exact LeO.none _)
      | (with_reducible refine LeO.ite ?_ ?_)
      | (with_reducible refine LeO.bind ?_ (fun _ => ?_))
      | exact ih0 _ _ _ _ _ _
      | exact ih1 _ _ _ _ _ _ _ _ _
      | exact ih2 _ _ _ _
      | exact impl_idOk.mono _ _
      | exact impl_nameOk.mono _ _
      | exact LeO.none _
      | refine LeO.ite ?_ ?_
      | refine LeO.bind ?_ (fun _ => ?_)
theorem impl_ReportText.mono : ∀ a0 a1 k, LeO (impl_ReportText.f k a0 a1) (impl_ReportText.f (k + 1) a0 a1) := by
  intro a0 a1 k
  obtain ⟨ih0, ih1, ih2⟩ := impl_ReportText.mono_l k
  unfold impl_ReportText.f
  repeat' first
      | (with_reducible exact ih0 _ _ _ _ _ _)
      | (with_reducible exact ih1 _ _ _ _ _ _ _ _ _)
      | (with_reducible exact ih2 _ _ _ _)
      | (with_reducible exact impl_idOk.mono _ _)
      | (with_reducible exact impl_nameOk.mono _ _)
      | (with_reducible exact LeO.refl _)
      | (with_reducible exact LeO.none _)
      | (with_reducible refine LeO.ite ?_ ?_)
      | (with_reducible refine LeO.bind ?_ (fun _ => ?_))
      | exact ih0 _ _ _ _ _ _
      | exact ih1 _ _ _ _ _ _ _ _ _
      | exact ih2 _ _ _ _
      | exact impl_idOk.mono _ _
      | exact impl_nameOk.mono _ _
      | exact LeO.none _
      | refine LeO.ite ?_ ?_
      | refine LeO.bind ?_ (fun _ => ?_)
def impl_ReportText.T7 : Bool × List (List Nat × List Nat) := (true, [([], []), ([], []), ([1], [1]), ([0, 2], [0, 2]), ([3], [3]), ([4], [4]), ([], []), ([6], [6]), ([5, 7], [5, 7]), ([8], [8]), ([9, 0], [9])])
def impl_ReportText.B7 : List Nat := [0, 0, 2, 7, 15, 31, 0, 64, 255, 511, 1023]
theorem impl_ReportText.tab7 : rtab .any (opsOf Try.f32 7) = impl_ReportText.T7 := by kernel_rfl
theorem impl_ReportText.bits7 : waitsOk impl_ReportText.T7.2 impl_ReportText.B7 = true := by kernel_rfl
set_option maxHeartbeats 8000000 in
set_option maxRecDepth 100000 in
theorem impl_ReportText.calls (k : Nat) (A0_0 : Option Addr) (c0_0 : Nat) (l0_0 : List (S87)) (A0_1 : Option Addr) (c0_1 : Nat) (l0_1 : List ByteArray) (r : ByteArray) (w : World) (hr0_0 : Kd.C k87 w A0_0 l0_0.length l0_0) (hc0_0 : l0_0.length ≤ c0_0) (hr0_1 : Kd.C Kd.string w A0_1 l0_1.length l0_1) (hc0_1 : l0_1.length ≤ c0_1) (h : impl_ReportText.f k l0_0 l0_1 = some r) :
    Calls Try.prog 32 #[.agg #[.slice A0_0 l0_0.length c0_0, .slice A0_1 l0_1.length c0_1]] w fun e w' => e = .returned (.string r) ∧ Below w.heap.size w w' := by
  have hu47 := Try.underlying47
  have hu87 := Try.underlying87
  have HR0_0 := Aside0.mk hr0_0
  have HC0_0 := Aside0.mk hc0_0
  clear hr0_0 hc0_0
  have HR0_1 := Aside0.mk hr0_1
  have HC0_1 := Aside0.mk hc0_1
  clear hr0_1 hc0_1
  have HB := Aside0.mk (Below.refl w.heap.size w)
  have H : (impl_ReportText.l0 k (⟨#[]⟩ : ByteArray) l0_0 (l0_0.length : Int) 0 l0_0 l0_1) = some r := h
  clear h
  have H' := Aside0.mk H
  clear H
  go_enter Try.func32, Try.ntmps32
  go_wp2_with (first | ((with_reducible refine gate_dst (N := 1) rfl ?_); refine box_event ?hg (N := 1) ?hd (cs := #[.slice A0_0 l0_0.length c0_0, .slice A0_1 l0_1.length c0_1]) (t := 47) ?hr ?_; (case hd => rfl); (case hg => rfl); (case hr => first | (go_simp; done) | (go_simp; rfl)); intro gb173 hg w2 hbox hb; have n0_ := Aside0.mk (below_step (by repeat (first | (with_reducible first | exact HB.out | apply below_alloc | apply pw_below_drewN | apply below_drew1) | exact HB.out)) hb); have n1_ := Aside0.mk (hbox); have n2_ := Aside0.mk ((by rw [hg]; exact (below_size (by repeat (first | (with_reducible first | exact HB.out | apply below_alloc | apply pw_below_drewN | apply below_drew1) | exact HB.out))) : w.heap.size ≤ gb173)); have n3_ := Aside0.mk ((by rw [hg]; exact (below_size (by repeat (first | (with_reducible first | exact HB.out | apply below_alloc | apply pw_below_drewN | apply below_drew1) | exact HB.out))) : w.heap.size ≤ gb173)); clear HB; have HB := n0_; have BK173 := n1_; have GW173 := n2_; have GE173 := n3_; clear n0_ n1_ n2_ n3_; clear hb hbox hg; have hcz3_0 : w2.cell? ⟨gb173, 0, none⟩ = some (.slice A0_0 l0_0.length c0_0) := (blk_cell BK173.out 0).trans rfl; have hcz3_1 : w2.cell? ⟨gb173, 1, none⟩ = some (.slice A0_1 l0_1.length c0_1) := (blk_cell BK173.out 1).trans rfl; have hfz3_0 := blk_frozen BK173.out 0; have hfz3_1 := blk_frozen BK173.out 1) | ((with_reducible refine gate_dst (N := 3) rfl ?_); refine box_event ?hg (N := 3) ?hd (cs := #[.pointer none, .slice none 0 0]) (t := 79) ?hr ?_; (case hd => rfl); (case hg => rfl); (case hr => first | (go_simp; done) | (go_simp; rfl)); intro gbx hg wbx hbox hb; have nK0_ := Aside0.mk (blk_below (g := gb173) (o := .cells #[.slice A0_0 l0_0.length c0_0, .slice A0_1 l0_1.length c0_1] 47 (0, 0)) (by (with_reducible repeat (first | refine blk_drewN ?_ _ | refine blk_drew ?_ | refine blk_alloc ?_ _)); exact BK173.out) hb); have nB_ := Aside0.mk (below_step (by repeat (first | (with_reducible first | exact HB.out | apply below_alloc | apply pw_below_drewN | apply below_drew1 | refine below_set ?_ GE173.out | refine below_set ?_ GE175.out) | exact HB.out)) hb); have nI_ := Aside0.mk (bld_fresh (show w.heap.size ≤ gbx by rw [hg]; exact below_size (by repeat (first | (with_reducible first | exact HB.out | apply below_alloc | apply pw_below_drewN | apply below_drew1 | refine below_set ?_ GE173.out | refine below_set ?_ GE175.out) | exact HB.out))) hbox); clear BK173; have BK173 := nK0_; clear nK0_; have hczb0_0 : wbx.cell? ⟨gb173, 0, none⟩ = some (.slice A0_0 l0_0.length c0_0) := (blk_cell BK173.out 0).trans rfl; have hfzb0_0 := blk_frozen BK173.out 0; have hczb0_1 : wbx.cell? ⟨gb173, 1, none⟩ = some (.slice A0_1 l0_1.length c0_1) := (blk_cell BK173.out 1).trans rfl; have hfzb0_1 := blk_frozen BK173.out 1; clear HB; have HB := nB_; have HI := Aside0.mk (bldn_start nI_.out); clear nB_ nI_ hb hbox hg))
  go_loopg [11] k (fun kq v11 w' => ∃ (x3_1 : ByteArray) (x11_1 : Int), v11 = .int .i64 x11_1 ∧ Aside0 (impl_ReportText.l0 kq x3_1 l0_0 (l0_0.length : Int) x11_1 l0_0 l0_1 = some r) ∧ Aside0 (kq ≤ k) ∧ Aside0 (w'.heap[gb173]? = some (.cells #[(.slice A0_0 l0_0.length c0_0), (.slice A0_1 l0_1.length c0_1)] 47 (0, 0))) ∧ Aside0 (Below w.heap.size w w') ∧ Aside0 (Bld w.heap.size gbx x3_1 w'))
  case atStart => exact ⟨((⟨#[]⟩ : ByteArray)), (0), (by first | rfl | (simp; done) | (simp [*]; done)), H', ⟨Nat.le_refl _⟩, ⟨by (with_reducible repeat (first | refine blk_drewN ?_ _ | refine blk_drew ?_ | refine blk_alloc ?_ _)); exact BK173.out⟩, ⟨by repeat (first | (with_reducible first | exact HB.out | apply below_alloc | apply pw_below_drewN | apply below_drew1 | refine below_set ?_ GE173.out) | exact HB.out)⟩, ⟨bldn_out (by repeat (first | (with_reducible first | exact HI.out | apply bldn_alloc | apply bldn_drewN | apply bldn_drew1 | refine bldn_set ?_ GN173.out | refine bldn_set ?_ GN175.out) | exact HI.out))⟩⟩
  case round =>
    clear H'
    try clear p2
    try clear c3
    try clear hcz3_0
    try clear hcz3_1
    try clear hfz3_0
    try clear hfz3_1
    obtain ⟨x3_1, x11_1, rfl, HA, HK1, BK173, HB, HI⟩ := hrel
    replace HI := Aside0.mk (bldn_start HI.out)
    cases gk with
    | zero => exact absurd HA.out (by simp [impl_ReportText.l0])
    | succ k1 =>
      have H := HA.out
      clear HA
      simp only [impl_ReportText.l0] at H
      by_cases c4 : x11_1 < (l0_0.length : Int)
      · rw [if_pos c4] at H
        have c4b0 : decide (x11_1 < (l0_0.length : Int)) = true := decide_eq_true c4
        clear c4
        by_cases c5 : 0 ≤ x11_1
        · rw [if_pos c5] at H
          have c5b0 : decide (0 ≤ x11_1) = true := decide_eq_true c5
          clear c5
          by_cases c6 : x11_1 < (l0_0.length : Int)
          · rw [if_pos c6] at H
            have c6b0 : decide (x11_1 < (l0_0.length : Int)) = true := decide_eq_true c6
            clear c6
            have HC7 := Aside0.mk H
            clear H
            have p174 : 0 ≤ (x11_1 : Int) := of_decide_eq_true (by first | (with_reducible assumption) | assumption)
            have q174 : x11_1 < (l0_0.length : Int) := of_decide_eq_true (by first | (with_reducible assumption) | assumption)
            obtain ⟨ad174, e174, hx174_0, hx174_1⟩ := at_T87 HR0_0.out x11_1 p174 q174
            cases e174
            replace hx174_0 := (HB.out.cell (World.block_lt_of_cell? w _ hx174_0)).trans hx174_0
            replace hx174_1 := (HB.out.cell (World.block_lt_of_cell? w _ hx174_1)).trans hx174_1
            replace p174 := eq_true p174
            replace q174 := eq_true q174
            go_upto_region 5 with (first | ((with_reducible refine gate_dst (N := 5) rfl ?_); refine box_event ?hg (N := 5) ?hd (cs := #[.string (⟨#[]⟩ : ByteArray), .int .i64 0]) (t := 87) ?hr ?_; (case hd => rfl); (case hg => rfl); (case hr => first | (go_simp; done) | (go_simp; rfl)); intro gb175 hg w8 hbox hb; have nI_ := Aside0.mk (bldn_step (by repeat (first | (with_reducible first | exact HI.out | apply bldn_alloc | apply bldn_drewN | apply bldn_drew1 | refine bldn_set ?_ GN173.out | refine bldn_set ?_ GN175.out) | exact HI.out)) hb); have nG_ := Aside0.mk (bldn_gt (by repeat (first | (with_reducible first | exact HI.out | apply bldn_alloc | apply bldn_drewN | apply bldn_drew1 | refine bldn_set ?_ GN173.out | refine bldn_set ?_ GN175.out) | exact HI.out)) hg); clear HI; have HI := nI_; have GN175 := nG_; clear nI_ nG_; have n0_ := Aside0.mk (blk_below (g := gb173) (o := .cells #[.slice (some ad174) l0_0.length c0_0, .slice A0_1 l0_1.length c0_1] 47 (0, 0)) (by (with_reducible repeat (first | refine blk_drewN ?_ _ | refine blk_drew ?_ | refine blk_alloc ?_ _)); exact BK173.out) hb); have n1_ := Aside0.mk (below_step (by repeat (first | (with_reducible first | exact HB.out | apply below_alloc | apply pw_below_drewN | apply below_drew1 | refine below_set ?_ GE173.out) | exact HB.out)) hb); have n2_ := Aside0.mk (hbox); have n3_ := Aside0.mk ((by rw [hg]; exact (below_size (by repeat (first | (with_reducible first | exact HB.out | apply below_alloc | apply pw_below_drewN | apply below_drew1 | refine below_set ?_ GE173.out) | exact HB.out))) : w.heap.size ≤ gb175)); have n4_ := Aside0.mk ((by rw [hg]; exact (below_size (by repeat (first | (with_reducible first | exact HB.out | apply below_alloc | apply pw_below_drewN | apply below_drew1 | refine below_set ?_ GE173.out) | exact HB.out))) : w.heap.size ≤ gb175)); have n5_ := Aside0.mk ((by rw [hg]; exact Nat.ne_of_lt (blk_lt (g := gb173) (o := .cells #[.slice (some ad174) l0_0.length c0_0, .slice A0_1 l0_1.length c0_1] 47 (0, 0)) (by (with_reducible repeat (first | refine blk_drewN ?_ _ | refine blk_drew ?_ | refine blk_alloc ?_ _)); exact BK173.out)) : gb173 ≠ gb175)); have n6_ := Aside0.mk ((by rw [hg]; exact Nat.ne_of_gt (blk_lt (g := gb173) (o := .cells #[.slice (some ad174) l0_0.length c0_0, .slice A0_1 l0_1.length c0_1] 47 (0, 0)) (by (with_reducible repeat (first | refine blk_drewN ?_ _ | refine blk_drew ?_ | refine blk_alloc ?_ _)); exact BK173.out)) : gb175 ≠ gb173)); clear BK173; clear HB; have BK173 := n0_; have HB := n1_; have BK175 := n2_; have GW175 := n3_; have GE175 := n4_; have NB173_175 := n5_; have NB175_173 := n6_; clear n0_ n1_ n2_ n3_ n4_ n5_ n6_; clear hb hbox hg; have hnb9 := NB175_173.out; have hnc9 := NB173_175.out; have hcz10_0 : w8.cell? ⟨gb175, 0, none⟩ = some (.string (⟨#[]⟩ : ByteArray)) := (blk_cell BK175.out 0).trans rfl; have hcz10_1 : w8.cell? ⟨gb175, 1, none⟩ = some (.int .i64 0) := (blk_cell BK175.out 1).trans rfl; have hfz10_0 := blk_frozen BK175.out 0; have hfz10_1 := blk_frozen BK175.out 1))
            (try simp only [Act.put, List.setIfInBounds_toArray, List.set_cons_zero, List.set_cons_succ])
            go_cut [28] (fun v28 wc => ∃ (kq : Nat) (x28_6 : Bool), v28 = .bool x28_6 ∧ Aside0 (impl_ReportText.j1 kq x3_1 l0_0 (l0_0.length : Int) x11_1 x28_6 l0_0 l0_1 ((rd_T87 l0_0 x11_1).f0) ((rd_T87 l0_0 x11_1).f1) = some r) ∧ Aside0 (kq ≤ k1) ∧ Aside0 (wc.heap[gb173]? = some (.cells #[(.slice (some ad174) l0_0.length c0_0), (.slice A0_1 l0_1.length c0_1)] 47 (0, 0))) ∧ Aside0 (wc.heap[gb175]? = some (.cells #[.string ((rd_T87 l0_0 x11_1).f0), .int .i64 ((rd_T87 l0_0 x11_1).f1)] 87 (0, 0))) ∧ Aside0 (Below w.heap.size w wc) ∧ Aside0 (BldN w.heap.size gbx x3_1 wr.heap.size wc))
            case first =>
              have H := HC7.out
              clear HC7
              replace H := Option.bind_eq_some_iff.mp H
              obtain ⟨t176, A110, H⟩ := H
              replace H : (if t176 = true then (if ((rd_T87 l0_0 x11_1).f1) < 0 then (impl_ReportText.j1 k1 x3_1 l0_0 (l0_0.length : Int) x11_1 true l0_0 l0_1 ((rd_T87 l0_0 x11_1).f0) ((rd_T87 l0_0 x11_1).f1)) else (impl_ReportText.j1 k1 x3_1 l0_0 (l0_0.length : Int) x11_1 (decide (((rd_T87 l0_0 x11_1).f1) > 5)) l0_0 l0_1 ((rd_T87 l0_0 x11_1).f0) ((rd_T87 l0_0 x11_1).f1))) else (impl_ReportText.j1 k1 x3_1 l0_0 (l0_0.length : Int) x11_1 true l0_0 l0_1 ((rd_T87 l0_0 x11_1).f0) ((rd_T87 l0_0 x11_1).f1))) = some r := H
              have A11 := Aside0.mk A110
              clear A110
              by_cases c12 : t176 = true
              · subst c12
                have H1 : (if ((rd_T87 l0_0 x11_1).f1) < 0 then (impl_ReportText.j1 k1 x3_1 l0_0 (l0_0.length : Int) x11_1 true l0_0 l0_1 ((rd_T87 l0_0 x11_1).f0) ((rd_T87 l0_0 x11_1).f1)) else (impl_ReportText.j1 k1 x3_1 l0_0 (l0_0.length : Int) x11_1 (decide (((rd_T87 l0_0 x11_1).f1) > 5)) l0_0 l0_1 ((rd_T87 l0_0 x11_1).f0) ((rd_T87 l0_0 x11_1).f1))) = some r := by rw [if_pos rfl] at H; exact H
                clear H
                have H := H1
                clear H1
                by_cases c13 : ((rd_T87 l0_0 x11_1).f1) < 0
                · rw [if_pos c13] at H
                  have c13b0 : decide (((rd_T87 l0_0 x11_1).f1) < 0) = true := decide_eq_true c13
                  clear c13
                  (first | rw [c13b0] | (simp only [i64_w, i32_w]; rw [c13b0]) | skip)
                  have H' := Aside0.mk H
                  clear H
                  have hnb14 := NB175_173.out
                  have hnc14 := NB173_175.out
                  have hcz15_0 : w8.cell? ⟨gb175, 0, none⟩ = some (.string (⟨#[]⟩ : ByteArray)) := (blk_cell BK175.out 0).trans rfl
                  have hcz15_1 : w8.cell? ⟨gb175, 1, none⟩ = some (.int .i64 0) := (blk_cell BK175.out 1).trans rfl
                  have hfz15_0 := blk_frozen BK175.out 0
                  have hfz15_1 := blk_frozen BK175.out 1
                  go_wp2_with (first | ((with_reducible refine gate_callee (f := 61) rfl ?_); refine goesL_ (some 17) rfl rfl Try.func61 (by kernel_rfl) rfl #[.string ((rd_T87 l0_0 x11_1).f0)] rfl (by (try simp only [List.map_toArray, List.map_cons, List.map_nil]); first | done | rfl | (simp only [List.length_drop, List.length_take]; rfl)) ?_; (with_reducible refine (impl_idOk.calls k1 ((rd_T87 l0_0 x11_1).f0) true _ A11.out).mono ?_); rintro e w' ⟨rfl, ⟨nd, rfl⟩⟩; refine ⟨_, rfl, ?_⟩))
                  go_meet
                  case rel => exact ⟨_, (true), (by first | rfl | (simp; done) | (simp [*]; done)), H', ⟨by have := HK1.out; first | omega | exact Nat.le_refl _⟩, ⟨by (with_reducible repeat (first | refine blk_drewN ?_ _ | refine blk_drew ?_ | refine blk_alloc ?_ _)); refine blk_far ?_ NB173_175.out _; (with_reducible repeat (first | refine blk_drewN ?_ _ | refine blk_drew ?_ | refine blk_alloc ?_ _)); refine blk_far ?_ NB173_175.out _; (with_reducible repeat (first | refine blk_drewN ?_ _ | refine blk_drew ?_ | refine blk_alloc ?_ _)); exact BK173.out⟩, ⟨by (with_reducible repeat (first | refine blk_drewN ?_ _ | refine blk_drew ?_ | refine blk_alloc ?_ _)); refine blk_put (cs := #[.string ((rd_T87 l0_0 x11_1).f0), .int .i64 0]) ?_ 1 _ rfl; (with_reducible repeat (first | refine blk_drewN ?_ _ | refine blk_drew ?_ | refine blk_alloc ?_ _)); refine blk_put (cs := #[.string (⟨#[]⟩ : ByteArray), .int .i64 0]) ?_ 0 _ rfl; (with_reducible repeat (first | refine blk_drewN ?_ _ | refine blk_drew ?_ | refine blk_alloc ?_ _)); exact BK175.out⟩, ⟨by repeat (first | (with_reducible first | exact HB.out | apply below_alloc | apply pw_below_drewN | apply below_drew1 | refine below_set ?_ GE173.out | refine below_set ?_ GE175.out) | exact HB.out)⟩, ⟨(by repeat (first | (with_reducible first | exact HI.out | apply bldn_alloc | apply bldn_drewN | apply bldn_drew1 | refine bldn_set ?_ GN173.out | refine bldn_set ?_ GN175.out) | exact HI.out))⟩⟩
                · rw [if_neg c13] at H
                  have c13b0 : decide (((rd_T87 l0_0 x11_1).f1) < 0) = false := decide_eq_false c13
                  clear c13
                  (first | rw [c13b0] | (simp only [i64_w, i32_w]; rw [c13b0]) | skip)
                  have H' := Aside0.mk H
                  clear H
                  have hnb16 := NB175_173.out
                  have hnc16 := NB173_175.out
                  have hcz17_0 : w8.cell? ⟨gb175, 0, none⟩ = some (.string (⟨#[]⟩ : ByteArray)) := (blk_cell BK175.out 0).trans rfl
                  have hcz17_1 : w8.cell? ⟨gb175, 1, none⟩ = some (.int .i64 0) := (blk_cell BK175.out 1).trans rfl
                  have hfz17_0 := blk_frozen BK175.out 0
                  have hfz17_1 := blk_frozen BK175.out 1
                  go_wp2_with (first | ((with_reducible refine gate_callee (f := 61) rfl ?_); refine goesL_ (some 17) rfl rfl Try.func61 (by kernel_rfl) rfl #[.string ((rd_T87 l0_0 x11_1).f0)] rfl (by (try simp only [List.map_toArray, List.map_cons, List.map_nil]); first | done | rfl | (simp only [List.length_drop, List.length_take]; rfl)) ?_; (with_reducible refine (impl_idOk.calls k1 ((rd_T87 l0_0 x11_1).f0) true _ A11.out).mono ?_); rintro e w' ⟨rfl, ⟨nd, rfl⟩⟩; refine ⟨_, rfl, ?_⟩))
                  go_meet
                  case rel => exact ⟨_, (decide (((rd_T87 l0_0 x11_1).f1) > 5)), (by first | rfl | (simp; done) | (simp [*]; done)), H', ⟨by have := HK1.out; first | omega | exact Nat.le_refl _⟩, ⟨by (with_reducible repeat (first | refine blk_drewN ?_ _ | refine blk_drew ?_ | refine blk_alloc ?_ _)); refine blk_far ?_ NB173_175.out _; (with_reducible repeat (first | refine blk_drewN ?_ _ | refine blk_drew ?_ | refine blk_alloc ?_ _)); refine blk_far ?_ NB173_175.out _; (with_reducible repeat (first | refine blk_drewN ?_ _ | refine blk_drew ?_ | refine blk_alloc ?_ _)); exact BK173.out⟩, ⟨by (with_reducible repeat (first | refine blk_drewN ?_ _ | refine blk_drew ?_ | refine blk_alloc ?_ _)); refine blk_put (cs := #[.string ((rd_T87 l0_0 x11_1).f0), .int .i64 0]) ?_ 1 _ rfl; (with_reducible repeat (first | refine blk_drewN ?_ _ | refine blk_drew ?_ | refine blk_alloc ?_ _)); refine blk_put (cs := #[.string (⟨#[]⟩ : ByteArray), .int .i64 0]) ?_ 0 _ rfl; (with_reducible repeat (first | refine blk_drewN ?_ _ | refine blk_drew ?_ | refine blk_alloc ?_ _)); exact BK175.out⟩, ⟨by repeat (first | (with_reducible first | exact HB.out | apply below_alloc | apply pw_below_drewN | apply below_drew1 | refine below_set ?_ GE173.out | refine below_set ?_ GE175.out) | exact HB.out)⟩, ⟨(by repeat (first | (with_reducible first | exact HI.out | apply bldn_alloc | apply bldn_drewN | apply bldn_drew1 | refine bldn_set ?_ GN173.out | refine bldn_set ?_ GN175.out) | exact HI.out))⟩⟩
              · replace c12 := Bool.eq_false_iff.mpr c12
                subst c12
                have H1 : (impl_ReportText.j1 k1 x3_1 l0_0 (l0_0.length : Int) x11_1 true l0_0 l0_1 ((rd_T87 l0_0 x11_1).f0) ((rd_T87 l0_0 x11_1).f1)) = some r := by rw [if_neg (show ¬ (false = true) by decide)] at H; exact H
                clear H
                have H := H1
                clear H1
                have H' := Aside0.mk H
                clear H
                have hnb18 := NB175_173.out
                have hnc18 := NB173_175.out
                have hcz19_0 : w8.cell? ⟨gb175, 0, none⟩ = some (.string (⟨#[]⟩ : ByteArray)) := (blk_cell BK175.out 0).trans rfl
                have hcz19_1 : w8.cell? ⟨gb175, 1, none⟩ = some (.int .i64 0) := (blk_cell BK175.out 1).trans rfl
                have hfz19_0 := blk_frozen BK175.out 0
                have hfz19_1 := blk_frozen BK175.out 1
                go_wp2_with (first | ((with_reducible refine gate_callee (f := 61) rfl ?_); refine goesL_ (some 17) rfl rfl Try.func61 (by kernel_rfl) rfl #[.string ((rd_T87 l0_0 x11_1).f0)] rfl (by (try simp only [List.map_toArray, List.map_cons, List.map_nil]); first | done | rfl | (simp only [List.length_drop, List.length_take]; rfl)) ?_; (with_reducible refine (impl_idOk.calls k1 ((rd_T87 l0_0 x11_1).f0) false _ A11.out).mono ?_); rintro e w' ⟨rfl, ⟨nd, rfl⟩⟩; refine ⟨_, rfl, ?_⟩))
                go_meet
                case rel => exact ⟨_, (true), (by first | rfl | (simp; done) | (simp [*]; done)), H', ⟨by have := HK1.out; first | omega | exact Nat.le_refl _⟩, ⟨by (with_reducible repeat (first | refine blk_drewN ?_ _ | refine blk_drew ?_ | refine blk_alloc ?_ _)); refine blk_far ?_ NB173_175.out _; (with_reducible repeat (first | refine blk_drewN ?_ _ | refine blk_drew ?_ | refine blk_alloc ?_ _)); refine blk_far ?_ NB173_175.out _; (with_reducible repeat (first | refine blk_drewN ?_ _ | refine blk_drew ?_ | refine blk_alloc ?_ _)); exact BK173.out⟩, ⟨by (with_reducible repeat (first | refine blk_drewN ?_ _ | refine blk_drew ?_ | refine blk_alloc ?_ _)); refine blk_put (cs := #[.string ((rd_T87 l0_0 x11_1).f0), .int .i64 0]) ?_ 1 _ rfl; (with_reducible repeat (first | refine blk_drewN ?_ _ | refine blk_drew ?_ | refine blk_alloc ?_ _)); refine blk_put (cs := #[.string (⟨#[]⟩ : ByteArray), .int .i64 0]) ?_ 0 _ rfl; (with_reducible repeat (first | refine blk_drewN ?_ _ | refine blk_drew ?_ | refine blk_alloc ?_ _)); exact BK175.out⟩, ⟨by repeat (first | (with_reducible first | exact HB.out | apply below_alloc | apply pw_below_drewN | apply below_drew1 | refine below_set ?_ GE173.out | refine below_set ?_ GE175.out) | exact HB.out)⟩, ⟨(by repeat (first | (with_reducible first | exact HI.out | apply bldn_alloc | apply bldn_drewN | apply bldn_drew1 | refine bldn_set ?_ GN173.out | refine bldn_set ?_ GN175.out) | exact HI.out))⟩⟩
            case rest =>
              clear HC7
              try clear c1
              try clear p1
              try clear q1
              try clear hx1
              try clear p2
              try clear c3
              try clear c4
              try clear c4b0
              try clear c5
              try clear c5b0
              try clear c6
              try clear c6b0
              try clear c9
              try clear c12
              try clear c13
              try clear c13b0
              try clear c14
              try clear c16
              try clear p17
              try clear q17
              try clear hx17
              try clear c18
              try clear hcz10_0
              try clear hcz10_1
              try clear hcz15_0
              try clear hcz15_1
              try clear hcz17_0
              try clear hcz17_1
              try clear hcz19_0
              try clear hcz19_1
              try clear hcz3_0
              try clear hcz3_1
              try clear hfz10_0
              try clear hfz10_1
              try clear hfz15_0
              try clear hfz15_1
              try clear hfz17_0
              try clear hfz17_1
              try clear hfz19_0
              try clear hfz19_1
              try clear hfz3_0
              try clear hfz3_1
              try clear hx174_0
              try clear hx174_1
              try clear p174
              try clear p2
              try clear q174
              obtain ⟨kq, x28_6, rfl, HA, HJ6, BK173, BK175, HB, HI⟩ := hcut
              cases kq with
              | zero => exact absurd HA.out (by simp [impl_ReportText.j1])
              | succ kj6 =>
                have H := HA.out
                clear HA
                simp only [impl_ReportText.j1] at H
                by_cases c20 : x28_6 = true
                · subst c20
                  have H1 : (some (⟨#[]⟩ : ByteArray)) = some r := by rw [if_pos rfl] at H; exact H
                  clear H
                  have H := H1
                  clear H1
                  obtain rfl := Option.some.inj H
                  go_wp2
                  go_ret
                  exact ⟨by first | rfl | (simp [errW_none, errW_some] <;> rfl) | (simp [*, errW_none, errW_some] <;> rfl), by repeat (first | (with_reducible first | exact HB.out | apply below_alloc | apply pw_below_drewN | apply below_drew1 | refine below_set ?_ GE173.out | refine below_set ?_ GE175.out) | exact HB.out)⟩
                · replace c20 := Bool.eq_false_iff.mpr c20
                  subst c20
                  have H1 : ((impl_outcomeWords.f).bind fun t177 => (if 0 ≤ ((rd_T87 l0_0 x11_1).f1) then (if ((rd_T87 l0_0 x11_1).f1) < (t177.length : Int) then (if (rdOf ByteArray.empty t177 ((rd_T87 l0_0 x11_1).f1)).size + 1 ≤ 9223372036854775807 then (if (rdOf ByteArray.empty t177 ((rd_T87 l0_0 x11_1).f1)).size + 1 + ((rd_T87 l0_0 x11_1).f0).size ≤ 9223372036854775807 then (if (rdOf ByteArray.empty t177 ((rd_T87 l0_0 x11_1).f1)).size + 1 + ((rd_T87 l0_0 x11_1).f0).size + 1 ≤ 9223372036854775807 then ((impl_WS.f x3_1 ((((rdOf ByteArray.empty t177 ((rd_T87 l0_0 x11_1).f1)) ++ (⟨#[32]⟩ : ByteArray)) ++ ((rd_T87 l0_0 x11_1).f0)) ++ (⟨#[10]⟩ : ByteArray))).bind fun t181 => (impl_ReportText.l0 kj6 t181 l0_0 (l0_0.length : Int) (wrap64 (x11_1 + 1)) l0_0 l0_1)) else (none)) else (none)) else (none)) else (none)) else (none))) = some r := by rw [if_neg (show ¬ (false = true) by decide)] at H; exact H
                  clear H
                  have H := H1
                  clear H1
                  replace H := Option.bind_eq_some_iff.mp H
                  obtain ⟨t177, A210, H⟩ := H
                  replace H : (if 0 ≤ ((rd_T87 l0_0 x11_1).f1) then (if ((rd_T87 l0_0 x11_1).f1) < (t177.length : Int) then (if (rdOf ByteArray.empty t177 ((rd_T87 l0_0 x11_1).f1)).size + 1 ≤ 9223372036854775807 then (if (rdOf ByteArray.empty t177 ((rd_T87 l0_0 x11_1).f1)).size + 1 + ((rd_T87 l0_0 x11_1).f0).size ≤ 9223372036854775807 then (if (rdOf ByteArray.empty t177 ((rd_T87 l0_0 x11_1).f1)).size + 1 + ((rd_T87 l0_0 x11_1).f0).size + 1 ≤ 9223372036854775807 then ((impl_WS.f x3_1 ((((rdOf ByteArray.empty t177 ((rd_T87 l0_0 x11_1).f1)) ++ (⟨#[32]⟩ : ByteArray)) ++ ((rd_T87 l0_0 x11_1).f0)) ++ (⟨#[10]⟩ : ByteArray))).bind fun t181 => (impl_ReportText.l0 kj6 t181 l0_0 (l0_0.length : Int) (wrap64 (x11_1 + 1)) l0_0 l0_1)) else (none)) else (none)) else (none)) else (none)) else (none)) = some r := H
                  have A21 := Aside0.mk A210
                  clear A210
                  by_cases c22 : 0 ≤ ((rd_T87 l0_0 x11_1).f1)
                  · rw [if_pos c22] at H
                    have c22b0 : decide (0 ≤ ((rd_T87 l0_0 x11_1).f1)) = true := decide_eq_true c22
                    clear c22
                    by_cases c23 : ((rd_T87 l0_0 x11_1).f1) < (t177.length : Int)
                    · rw [if_pos c23] at H
                      have c23b0 : decide (((rd_T87 l0_0 x11_1).f1) < (t177.length : Int)) = true := decide_eq_true c23
                      clear c23
                      by_cases c24 : (rdOf ByteArray.empty t177 ((rd_T87 l0_0 x11_1).f1)).size + 1 ≤ 9223372036854775807
                      · rw [if_pos c24] at H
                        have c24b0 := eq_true c24
                        have c24b1 : decide ((rdOf ByteArray.empty t177 ((rd_T87 l0_0 x11_1).f1)).size + 1 ≤ 9223372036854775807) = true := decide_eq_true c24
                        try have c24b2 : (9223372036854775807 < (rdOf ByteArray.empty t177 ((rd_T87 l0_0 x11_1).f1)).size + 1) = False := eq_false (Nat.not_lt.2 c24)
                        by_cases c25 : (rdOf ByteArray.empty t177 ((rd_T87 l0_0 x11_1).f1)).size + 1 + ((rd_T87 l0_0 x11_1).f0).size ≤ 9223372036854775807
                        · rw [if_pos c25] at H
                          have c25b0 := eq_true c25
                          have c25b1 : decide ((rdOf ByteArray.empty t177 ((rd_T87 l0_0 x11_1).f1)).size + 1 + ((rd_T87 l0_0 x11_1).f0).size ≤ 9223372036854775807) = true := decide_eq_true c25
                          try have c25b2 : (9223372036854775807 < (rdOf ByteArray.empty t177 ((rd_T87 l0_0 x11_1).f1)).size + 1 + ((rd_T87 l0_0 x11_1).f0).size) = False := eq_false (Nat.not_lt.2 c25)
                          by_cases c26 : (rdOf ByteArray.empty t177 ((rd_T87 l0_0 x11_1).f1)).size + 1 + ((rd_T87 l0_0 x11_1).f0).size + 1 ≤ 9223372036854775807
                          · rw [if_pos c26] at H
                            have c26b0 := eq_true c26
                            have c26b1 : decide ((rdOf ByteArray.empty t177 ((rd_T87 l0_0 x11_1).f1)).size + 1 + ((rd_T87 l0_0 x11_1).f0).size + 1 ≤ 9223372036854775807) = true := decide_eq_true c26
                            try have c26b2 : (9223372036854775807 < (rdOf ByteArray.empty t177 ((rd_T87 l0_0 x11_1).f1)).size + 1 + ((rd_T87 l0_0 x11_1).f0).size + 1) = False := eq_false (Nat.not_lt.2 c26)
                            replace H := Option.bind_eq_some_iff.mp H
                            obtain ⟨t181, A270, H⟩ := H
                            replace H : (impl_ReportText.l0 kj6 t181 l0_0 (l0_0.length : Int) (wrap64 (x11_1 + 1)) l0_0 l0_1) = some r := H
                            have A27 := Aside0.mk A270
                            clear A270
                            have H' := Aside0.mk H
                            clear H
                            try go_wp2
                            have n0_ := Aside0.mk (blk_drew BK173.out)
                            have n1_ := Aside0.mk (blk_drew BK175.out)
                            have n2_ := Aside0.mk (below_drew1 HB.out)
                            clear BK173
                            clear BK175
                            clear HB
                            have BK173 := n0_
                            have BK175 := n1_
                            have HB := n2_
                            clear n0_ n1_ n2_
                            have nI_ := Aside0.mk (show BldN w.heap.size gbx _ _ wc.drew from (by repeat (first | (with_reducible first | exact HI.out | apply bldn_alloc | apply bldn_drewN | apply bldn_drew1 | refine bldn_set ?_ GN173.out | refine bldn_set ?_ GN175.out) | exact HI.out)))
                            clear HI
                            have HI := nI_
                            clear nI_
                            refine start_ (n := 11) (S := fun w' => w'.cell? ⟨gb175, 0, none⟩ = some (.string ((rd_T87 l0_0 x11_1).f0)) ∧ w'.cell? ⟨gb175, 1, none⟩ = some (.int .i64 ((rd_T87 l0_0 x11_1).f1))) (ds := []) #[false, false, false, false, false, false, false, false, false, false, false] (by kernel_rfl) rfl rfl ⟨(blk_cell BK175.out 0).trans rfl, (blk_cell BK175.out 1).trans rfl⟩ (fun hHeld => ?_); refine with_tabW impl_ReportText.tab7 impl_ReportText.bits7 (fun HT_ HW_ => ?_)
                            generalize wc.drew = w28 at BK173 BK175 HB HI hHeld ⊢
                            refine pure_ (i := 1) (N := some 30) (v := ?_) (a' := ?_) #[false, true, false, false, false, false, false, false, false, false, false] rfl rfl (any_of HT_.out (by kernel_rfl)) (fun _ _ _ h => h) (Or.inl ⟨by rfl, ?_⟩) ?_ ?_
                            rotate_left
                            · intro w'
                              go_simp
                              with_reducible rfl
                            rotate_left
                            · simp only [Act.put, List.setIfInBounds_toArray, List.set_cons_zero, List.set_cons_succ, i64_w, i32_w]
                              rfl
                            refine pure_ (i := 6) (N := some 35) (v := ?_) (a' := ?_) #[false, true, false, false, false, false, true, false, false, false, false] rfl rfl (any_of HT_.out (by kernel_rfl)) (fun _ _ _ h => h) (Or.inl ⟨by rfl, ?_⟩) ?_ ?_
                            rotate_left
                            · intro w'
                              go_simp
                              with_reducible rfl
                            rotate_left
                            · simp only [Act.put, List.setIfInBounds_toArray, List.set_cons_zero, List.set_cons_succ, i64_w, i32_w]
                              rfl
                            refine take_ (i := 2) (N := some 31) (v := ?_) (a' := ?_) #[false, true, true, false, false, false, true, false, false, false, false] rfl rfl (take_ofW HT_.out HW_.out (by kernel_rfl)) (fun _ _ _ h => h) (Or.inl ⟨by rfl, ?_⟩) hHeld ?_ ?_
                            rotate_left
                            · rintro w' ⟨s0, s1⟩
                              go_simp
                              with_reducible rfl
                            rotate_left
                            · simp only [Act.put, List.setIfInBounds_toArray, List.set_cons_zero, List.set_cons_succ, i64_w, i32_w]
                              rfl
                            refine take_ (i := 7) (N := some 36) (v := ?_) (a' := ?_) #[false, true, true, false, false, false, true, true, false, false, false] rfl rfl (take_ofW HT_.out HW_.out (by kernel_rfl)) (fun _ _ _ h => h) (Or.inl ⟨by rfl, ?_⟩) hHeld ?_ ?_
                            rotate_left
                            · rintro w' ⟨s0, s1⟩
                              go_simp
                              with_reducible rfl
                            rotate_left
                            · simp only [Act.put, List.setIfInBounds_toArray, List.set_cons_zero, List.set_cons_succ, i64_w, i32_w]
                              rfl
                            refine one_ (i := 0) (N := some 29) #[true, true, true, false, false, false, true, true, false, false, false] rfl rfl (one_of HT_.out (by kernel_rfl)) (by decide) (fun K hK => ?_)
                            refine goes_ Try.func76 (by kernel_rfl) rfl #[] (by rfl) rfl rfl (by (try simp only [List.map_toArray, List.map_cons, List.map_nil]); first | done | rfl | (simp only [List.length_drop, List.length_take]; rfl)) ?_
                            with_reducible refine (impl_outcomeWords.calls  t177 _ A21.out).mono ?_
                            rintro e w29 ⟨v178, rfl, ho0, hb⟩
                            refine ⟨_, rfl, ?_⟩
                            have n0_ := Aside0.mk (Kd.R_lower ho0 (below_size (by repeat (first | (with_reducible first | exact HB.out | apply below_alloc | apply pw_below_drewN | apply below_drew1 | refine below_set ?_ GE173.out | refine below_set ?_ GE175.out) | exact HB.out))))
                            have n1_ := Aside0.mk (blk_below (g := gb173) (o := .cells #[.slice (some ad174) l0_0.length c0_0, .slice A0_1 l0_1.length c0_1] 47 (0, 0)) (by (with_reducible repeat (first | refine blk_drewN ?_ _ | refine blk_drew ?_ | refine blk_alloc ?_ _)); exact BK173.out) hb)
                            have n2_ := Aside0.mk (blk_below (g := gb175) (o := .cells #[.string ((rd_T87 l0_0 x11_1).f0), .int .i64 ((rd_T87 l0_0 x11_1).f1)] 87 (0, 0)) (by (with_reducible repeat (first | refine blk_drewN ?_ _ | refine blk_drew ?_ | refine blk_alloc ?_ _)); exact BK175.out) hb)
                            have nI_ := Aside0.mk (bldn_step (by repeat (first | (with_reducible first | exact HI.out | apply bldn_alloc | apply bldn_drewN | apply bldn_drew1 | refine bldn_set ?_ GN173.out | refine bldn_set ?_ GN175.out) | exact HI.out)) hb)
                            clear HI
                            have HI := nI_
                            clear nI_
                            have n3_ := Aside0.mk (below_step (by repeat (first | (with_reducible first | exact HB.out | apply below_alloc | apply pw_below_drewN | apply below_drew1 | refine below_set ?_ GE173.out | refine below_set ?_ GE175.out) | exact HB.out)) hb)
                            clear BK173
                            clear BK175
                            clear HB
                            have HO179 := n0_
                            have BK173 := n1_
                            have BK175 := n2_
                            have HB := n3_
                            clear n0_ n1_ n2_ n3_
                            (try clear hb)
                            (try clear hb2)
                            (try clear hk)
                            (try clear hi)
                            (try clear ho0)
                            obtain ⟨Ao30, co30, eo30⟩ := Kd.R_slice HO179.out
                            (first | subst eo30 | (injection eo30 with f1_ f2_ f3_; have f4_ := f1_.symm; have f5_ := f3_.symm; clear f1_ f2_ f3_; subst f4_; subst f5_))
                            have p180 : 0 ≤ (((rd_T87 l0_0 x11_1).f1) : Int) := of_decide_eq_true (by first | (with_reducible assumption) | assumption)
                            have q180 : ((rd_T87 l0_0 x11_1).f1) < (t177.length : Int) := of_decide_eq_true (by first | (with_reducible assumption) | assumption)
                            obtain ⟨ad180, e180, hx180_0⟩ := Kd.at_string (Kd.R_reads' HO179.out).2.2 ((rd_T87 l0_0 x11_1).f1) p180 q180
                            cases e180
                            replace p180 := eq_true p180
                            replace q180 := eq_true q180
                            refine hK.out _ _ ⟨(blk_cell BK175.out 0).trans rfl, (blk_cell BK175.out 1).trans rfl⟩ (fun hHeld => ?_)
                            clear hK K
                            refine norm_ (a' := ?_) ?_ ?_
                            rotate_left
                            · show Act.put _ (some 29) _ = _
                              simp only [Act.put, List.setIfInBounds_toArray, List.set_cons_zero, List.set_cons_succ, i64_w, i32_w]
                              rfl
                            refine pure_ (i := 3) (N := some 32) (v := ?_) (a' := ?_) #[true, true, true, true, false, false, true, true, false, false, false] rfl rfl (any_of HT_.out (by kernel_rfl)) (fun _ _ _ h => h) (Or.inl ⟨by rfl, ?_⟩) ?_ ?_
                            rotate_left
                            · intro w'
                              go_simp
                              with_reducible rfl
                            rotate_left
                            · simp only [Act.put, List.setIfInBounds_toArray, List.set_cons_zero, List.set_cons_succ, i64_w, i32_w]
                              rfl
                            refine one_ (i := 4) (N := some 33) #[true, true, true, true, true, false, true, true, false, false, false] rfl rfl (one_of HT_.out (by kernel_rfl)) (by decide) (fun K hK => ?_)
                            refine value_ (w1 := ?_) (v := ?_) (by rfl) rfl ?_ ?_
                            rotate_left 2
                            · go_simp
                              constructor
                              · rfl
                              · rfl
                            refine hK.out _ _ ⟨(blk_cell BK175.out 0).trans rfl, (blk_cell BK175.out 1).trans rfl⟩ (fun hHeld => ?_)
                            clear hK K
                            refine norm_ (a' := ?_) ?_ ?_
                            rotate_left
                            · show Act.put _ (some 33) _ = _
                              simp only [Act.put, List.setIfInBounds_toArray, List.set_cons_zero, List.set_cons_succ, i64_w, i32_w]
                              rfl
                            refine pure_ (i := 5) (N := some 34) (v := ?_) (a' := ?_) #[true, true, true, true, true, true, true, true, false, false, false] rfl rfl (any_of HT_.out (by kernel_rfl)) (fun _ _ _ h => h) (Or.inl ⟨by rfl, ?_⟩) ?_ ?_
                            rotate_left
                            · intro w'
                              go_simp
                              with_reducible rfl
                            rotate_left
                            · simp only [Act.put, List.setIfInBounds_toArray, List.set_cons_zero, List.set_cons_succ, i64_w, i32_w]
                              rfl
                            refine pure_ (i := 8) (N := some 37) (v := ?_) (a' := ?_) #[true, true, true, true, true, true, true, true, true, false, false] rfl rfl (any_of HT_.out (by kernel_rfl)) (fun _ _ _ h => h) (Or.inl ⟨by rfl, ?_⟩) ?_ ?_
                            rotate_left
                            · intro w'
                              go_simp
                              with_reducible rfl
                            rotate_left
                            · simp only [Act.put, List.setIfInBounds_toArray, List.set_cons_zero, List.set_cons_succ, i64_w, i32_w]
                              rfl
                            refine pure_ (i := 9) (N := some 38) (v := ?_) (a' := ?_) #[true, true, true, true, true, true, true, true, true, true, false] rfl rfl (any_of HT_.out (by kernel_rfl)) (fun _ _ _ h => h) (Or.inl ⟨by rfl, ?_⟩) ?_ ?_
                            rotate_left
                            · intro w'
                              go_simp
                              with_reducible rfl
                            rotate_left
                            · simp only [Act.put, List.setIfInBounds_toArray, List.set_cons_zero, List.set_cons_succ, i64_w, i32_w]
                              rfl
                            refine one_ (i := 10) (N := _) #[true, true, true, true, true, true, true, true, true, true, true] rfl rfl (one_of HT_.out (by kernel_rfl)) (by decide) (fun K hK => ?_)
                            refine goes_ Try.func60 (by kernel_rfl) rfl #[.pointer (some ⟨gbx, 0, none⟩), .string ((((rdOf ByteArray.empty t177 ((rd_T87 l0_0 x11_1).f1)) ++ (⟨#[32]⟩ : ByteArray)) ++ ((rd_T87 l0_0 x11_1).f0)) ++ (⟨#[10]⟩ : ByteArray))] (by rfl) rfl rfl (by (try simp only [List.map_toArray, List.map_cons, List.map_nil]); first | done | rfl | (simp only [List.length_drop, List.length_take]; rfl)) ?_
                            refine (impl_WS.calls w.heap.size gbx x3_1 ((((rdOf ByteArray.empty t177 ((rd_T87 l0_0 x11_1).f1)) ++ (⟨#[32]⟩ : ByteArray)) ++ ((rd_T87 l0_0 x11_1).f0)) ++ (⟨#[10]⟩ : ByteArray)) t181 _ A27.out (bldn_out (by repeat (first | (with_reducible first | exact HI.out | apply bldn_alloc | apply bldn_drewN | apply bldn_drew1 | refine bldn_set ?_ GN173.out | refine bldn_set ?_ GN175.out) | exact HI.out))) (below_size (by repeat (first | (with_reducible first | exact HB.out | apply below_alloc | apply pw_below_drewN | apply below_drew1 | refine below_set ?_ GE173.out | refine below_set ?_ GE175.out) | exact HB.out)))).mono ?_
                            rintro e w31 ⟨rfl, hi_, hb, hk_⟩
                            refine ⟨_, rfl, ?_⟩
                            have n0_ := Aside0.mk (Kd.R_others (by (with_reducible repeat (first | apply Kd.R_alloc | apply Kd.R_drewN | apply Kd.R_drew)); exact HO179.out) hk_ (bldn_out (by repeat (first | (with_reducible first | exact HI.out | apply bldn_alloc | apply bldn_drewN | apply bldn_drew1 | refine bldn_set ?_ GN173.out | refine bldn_set ?_ GN175.out) | exact HI.out))) (by decide))
                            have n1_ := Aside0.mk (hk_ gb173 (.cells #[.slice (some ad174) l0_0.length c0_0, .slice A0_1 l0_1.length c0_1] 47 (0, 0)) (by (with_reducible repeat (first | refine blk_drewN ?_ _ | refine blk_drew ?_ | refine blk_alloc ?_ _)); exact BK173.out) (bld_ne (bldn_out (by repeat (first | (with_reducible first | exact HI.out | apply bldn_alloc | apply bldn_drewN | apply bldn_drew1 | refine bldn_set ?_ GN173.out | refine bldn_set ?_ GN175.out) | exact HI.out))) (k := gb173) (by (with_reducible repeat (first | refine blk_drewN ?_ _ | refine blk_drew ?_ | refine blk_alloc ?_ _)); exact BK173.out) (by decide)) (by intro c_ fz_ h_; injection h_ with _ h2_ _; exact absurd h2_ (by decide)))
                            have n2_ := Aside0.mk (hk_ gb175 (.cells #[.string ((rd_T87 l0_0 x11_1).f0), .int .i64 ((rd_T87 l0_0 x11_1).f1)] 87 (0, 0)) (by (with_reducible repeat (first | refine blk_drewN ?_ _ | refine blk_drew ?_ | refine blk_alloc ?_ _)); exact BK175.out) (bld_ne (bldn_out (by repeat (first | (with_reducible first | exact HI.out | apply bldn_alloc | apply bldn_drewN | apply bldn_drew1 | refine bldn_set ?_ GN173.out | refine bldn_set ?_ GN175.out) | exact HI.out))) (k := gb175) (by (with_reducible repeat (first | refine blk_drewN ?_ _ | refine blk_drew ?_ | refine blk_alloc ?_ _)); exact BK175.out) (by decide)) (by intro c_ fz_ h_; injection h_ with _ h2_ _; exact absurd h2_ (by decide)))
                            have n3_ := Aside0.mk (Below.trans (by repeat (first | (with_reducible first | exact HB.out | apply below_alloc | apply pw_below_drewN | apply below_drew1 | refine below_set ?_ GE173.out | refine below_set ?_ GE175.out) | exact HB.out)) hb)
                            clear HO179
                            clear BK173
                            clear BK175
                            clear HB
                            have HO179 := n0_
                            have BK173 := n1_
                            have BK175 := n2_
                            have HB := n3_
                            clear n0_ n1_ n2_ n3_
                            clear HI
                            have HI := Aside0.mk (bldn_start hi_)
                            clear hi_ hk_
                            (try clear hb)
                            (try clear hb2)
                            (try clear hk)
                            (try clear hi)
                            refine hK.out _ _ ⟨(blk_cell BK175.out 0).trans rfl, (blk_cell BK175.out 1).trans rfl⟩ (fun hHeld => ?_)
                            clear hK K
                            refine norm_ (a' := ?_) ?_ ?_
                            rotate_left
                            · show Act.put _ _ _ = _
                              simp only [Act.put, List.setIfInBounds_toArray, List.set_cons_zero, List.set_cons_succ, i64_w, i32_w]
                              rfl
                            refine done_ (done_of HT_.out (by kernel_rfl)) ?_
                            try go_wp2
                            go_roundg kj6
                            case measure => have := HK1.out; have := HJ6.out; omega
                            case rel => exact ⟨(t181), (wrap64 (x11_1 + 1)), (by first | rfl | (simp; done) | (simp [*]; done)), H', ⟨by have := HK1.out; have := HJ6.out; omega⟩, ⟨by (with_reducible repeat (first | refine blk_drewN ?_ _ | refine blk_drew ?_ | refine blk_alloc ?_ _)); exact BK173.out⟩, ⟨by repeat (first | (with_reducible first | exact HB.out | apply below_alloc | apply pw_below_drewN | apply below_drew1 | refine below_set ?_ GE173.out | refine below_set ?_ GE175.out) | exact HB.out)⟩, ⟨bldn_out (by repeat (first | (with_reducible first | exact HI.out | apply bldn_alloc | apply bldn_drewN | apply bldn_drew1 | refine bldn_set ?_ GN173.out | refine bldn_set ?_ GN175.out) | exact HI.out))⟩⟩
                          · rw [if_neg c26] at H
                            exact absurd H (by simp)
                        · rw [if_neg c25] at H
                          exact absurd H (by simp)
                      · rw [if_neg c24] at H
                        exact absurd H (by simp)
                    · rw [if_neg c23] at H
                      exact absurd H (by simp)
                  · rw [if_neg c22] at H
                    exact absurd H (by simp)
          · rw [if_neg c6] at H
            exact absurd H (by simp)
        · rw [if_neg c5] at H
          exact absurd H (by simp)
      · rw [if_neg c4] at H
        have c4b0 : decide (x11_1 < (l0_0.length : Int)) = false := decide_eq_false c4
        clear c4
        have H' := Aside0.mk H
        clear H
        have hcz32_0 : wr.cell? ⟨gb173, 0, none⟩ = some (.slice A0_0 l0_0.length c0_0) := (blk_cell BK173.out 0).trans rfl
        have hcz32_1 : wr.cell? ⟨gb173, 1, none⟩ = some (.slice A0_1 l0_1.length c0_1) := (blk_cell BK173.out 1).trans rfl
        have hfz32_0 := blk_frozen BK173.out 0
        have hfz32_1 := blk_frozen BK173.out 1
        go_wp2
        go_loopg [44] k1 (fun kq v44 w' => ∃ (x3_2 : ByteArray) (x44_2 : Int), v44 = .int .i64 x44_2 ∧ Aside0 (impl_ReportText.l1 kq x3_2 l0_1 (l0_1.length : Int) x44_2 = some r) ∧ Aside0 (kq ≤ k1) ∧ Aside0 (w'.heap[gb173]? = some (.cells #[(.slice A0_0 l0_0.length c0_0), (.slice A0_1 l0_1.length c0_1)] 47 (0, 0))) ∧ Aside0 (Below w.heap.size w w') ∧ Aside0 (Bld w.heap.size gbx x3_2 w'))
        case atStart => exact ⟨(x3_1), (0), (by first | rfl | (simp; done) | (simp [*]; done)), H', ⟨Nat.le_refl _⟩, ⟨by (with_reducible repeat (first | refine blk_drewN ?_ _ | refine blk_drew ?_ | refine blk_alloc ?_ _)); exact BK173.out⟩, ⟨by repeat (first | (with_reducible first | exact HB.out | apply below_alloc | apply pw_below_drewN | apply below_drew1 | refine below_set ?_ GE173.out) | exact HB.out)⟩, ⟨bldn_out (by repeat (first | (with_reducible first | exact HI.out | apply bldn_alloc | apply bldn_drewN | apply bldn_drew1 | refine bldn_set ?_ GN173.out | refine bldn_set ?_ GN175.out) | exact HI.out))⟩⟩
        case round =>
          clear H'
          try clear c1
          try clear p1
          try clear q1
          try clear hx1
          try clear c2
          try clear p2
          try clear c3
          try clear c4
          try clear c4b0
          try clear c5
          try clear c5b0
          try clear c6
          try clear c6b0
          try clear p6
          try clear c7
          try clear c9
          try clear c12
          try clear c13
          try clear c13b0
          try clear c14
          try clear c16
          try clear p17
          try clear q17
          try clear hx17
          try clear c18
          try clear p18
          try clear q18
          try clear hx18
          try clear c20
          try clear c22
          try clear c22b0
          try clear c23
          try clear c23b0
          try clear c24
          try clear c24b0
          try clear c24b1
          try clear c24b2
          try clear c25
          try clear c25b0
          try clear c25b1
          try clear c25b2
          try clear c26
          try clear c26b0
          try clear c26b1
          try clear c26b2
          try clear c32
          try clear hcz10_0
          try clear hcz10_1
          try clear hcz15_0
          try clear hcz15_1
          try clear hcz17_0
          try clear hcz17_1
          try clear hcz19_0
          try clear hcz19_1
          try clear hcz32_0
          try clear hcz32_1
          try clear hcz3_0
          try clear hcz3_1
          try clear hfz10_0
          try clear hfz10_1
          try clear hfz15_0
          try clear hfz15_1
          try clear hfz17_0
          try clear hfz17_1
          try clear hfz19_0
          try clear hfz19_1
          try clear hfz32_0
          try clear hfz32_1
          try clear hfz3_0
          try clear hfz3_1
          try clear hx174_0
          try clear hx174_1
          try clear hx180_0
          try clear p1
          try clear p17
          try clear p174
          try clear p180
          try clear p2
          try clear q1
          try clear q17
          try clear q174
          try clear q180
          obtain ⟨x3_2, x44_2, rfl, HA, HK2, BK173, HB, HI⟩ := hrel
          replace HI := Aside0.mk (bldn_start HI.out)
          cases gk with
          | zero => exact absurd HA.out (by simp [impl_ReportText.l1])
          | succ k2 =>
            have H := HA.out
            clear HA
            simp only [impl_ReportText.l1] at H
            by_cases c33 : x44_2 < (l0_1.length : Int)
            · rw [if_pos c33] at H
              have c33b0 : decide (x44_2 < (l0_1.length : Int)) = true := decide_eq_true c33
              clear c33
              by_cases c34 : 0 ≤ x44_2
              · rw [if_pos c34] at H
                have c34b0 : decide (0 ≤ x44_2) = true := decide_eq_true c34
                clear c34
                by_cases c35 : x44_2 < (l0_1.length : Int)
                · rw [if_pos c35] at H
                  have c35b0 : decide (x44_2 < (l0_1.length : Int)) = true := decide_eq_true c35
                  clear c35
                  replace H := Option.bind_eq_some_iff.mp H
                  obtain ⟨t184, A360, H⟩ := H
                  replace H : (if t184 = true then (if 5 + (rdOf ByteArray.empty l0_1 x44_2).size ≤ 9223372036854775807 then (if 5 + (rdOf ByteArray.empty l0_1 x44_2).size + 1 ≤ 9223372036854775807 then ((impl_WS.f x3_2 (((⟨#[100, 111, 119, 110, 32]⟩ : ByteArray) ++ (rdOf ByteArray.empty l0_1 x44_2)) ++ (⟨#[10]⟩ : ByteArray))).bind fun t185 => (impl_ReportText.l1 k2 t185 l0_1 (l0_1.length : Int) (wrap64 (x44_2 + 1)))) else (none)) else (none)) else (some (⟨#[]⟩ : ByteArray))) = some r := H
                  have A36 := Aside0.mk A360
                  clear A360
                  by_cases c37 : t184 = true
                  · subst c37
                    have H1 : (if 5 + (rdOf ByteArray.empty l0_1 x44_2).size ≤ 9223372036854775807 then (if 5 + (rdOf ByteArray.empty l0_1 x44_2).size + 1 ≤ 9223372036854775807 then ((impl_WS.f x3_2 (((⟨#[100, 111, 119, 110, 32]⟩ : ByteArray) ++ (rdOf ByteArray.empty l0_1 x44_2)) ++ (⟨#[10]⟩ : ByteArray))).bind fun t185 => (impl_ReportText.l1 k2 t185 l0_1 (l0_1.length : Int) (wrap64 (x44_2 + 1)))) else (none)) else (none)) = some r := by rw [if_pos rfl] at H; exact H
                    clear H
                    have H := H1
                    clear H1
                    by_cases c38 : 5 + (rdOf ByteArray.empty l0_1 x44_2).size ≤ 9223372036854775807
                    · rw [if_pos c38] at H
                      have c38b0 := eq_true c38
                      have c38b1 : decide (5 + (rdOf ByteArray.empty l0_1 x44_2).size ≤ 9223372036854775807) = true := decide_eq_true c38
                      try have c38b2 : (9223372036854775807 < 5 + (rdOf ByteArray.empty l0_1 x44_2).size) = False := eq_false (Nat.not_lt.2 c38)
                      by_cases c39 : 5 + (rdOf ByteArray.empty l0_1 x44_2).size + 1 ≤ 9223372036854775807
                      · rw [if_pos c39] at H
                        have c39b0 := eq_true c39
                        have c39b1 : decide (5 + (rdOf ByteArray.empty l0_1 x44_2).size + 1 ≤ 9223372036854775807) = true := decide_eq_true c39
                        try have c39b2 : (9223372036854775807 < 5 + (rdOf ByteArray.empty l0_1 x44_2).size + 1) = False := eq_false (Nat.not_lt.2 c39)
                        replace H := Option.bind_eq_some_iff.mp H
                        obtain ⟨t185, A400, H⟩ := H
                        replace H : (impl_ReportText.l1 k2 t185 l0_1 (l0_1.length : Int) (wrap64 (x44_2 + 1))) = some r := H
                        have A40 := Aside0.mk A400
                        clear A400
                        have H' := Aside0.mk H
                        clear H
                        have p183 : 0 ≤ (x44_2 : Int) := of_decide_eq_true (by first | (with_reducible assumption) | assumption)
                        have q183 : x44_2 < (l0_1.length : Int) := of_decide_eq_true (by first | (with_reducible assumption) | assumption)
                        obtain ⟨ad183, e183, hx183_0⟩ := Kd.at_string HR0_1.out x44_2 p183 q183
                        cases e183
                        replace hx183_0 := (HB.out.cell (World.block_lt_of_cell? w _ hx183_0)).trans hx183_0
                        replace p183 := eq_true p183
                        replace q183 := eq_true q183
                        go_wp2_with (first | ((with_reducible refine gate_callee (f := 59) rfl ?_); refine goesL_ (some 49) rfl rfl Try.func59 (by kernel_rfl) rfl #[.string (rdOf ByteArray.empty l0_1 x44_2)] rfl (by (try simp only [List.map_toArray, List.map_cons, List.map_nil]); first | done | rfl | (simp only [List.length_drop, List.length_take]; rfl)) ?_; (with_reducible refine (impl_nameOk.calls k2 (rdOf ByteArray.empty l0_1 x44_2) true _ A36.out).mono ?_); rintro e w' ⟨rfl, ⟨nd, rfl⟩⟩; refine ⟨_, rfl, ?_⟩) | ((with_reducible refine gate_callee (f := 60) rfl ?_); refine goesL_ _ rfl rfl Try.func60 (by kernel_rfl) rfl #[.pointer (some ⟨gbx, 0, none⟩), .string (((⟨#[100, 111, 119, 110, 32]⟩ : ByteArray) ++ (rdOf ByteArray.empty l0_1 x44_2)) ++ (⟨#[10]⟩ : ByteArray))] rfl (by (try simp only [List.map_toArray, List.map_cons, List.map_nil]); first | done | rfl | (simp only [List.length_drop, List.length_take]; rfl)) ?_; refine (impl_WS.calls w.heap.size gbx x3_2 (((⟨#[100, 111, 119, 110, 32]⟩ : ByteArray) ++ (rdOf ByteArray.empty l0_1 x44_2)) ++ (⟨#[10]⟩ : ByteArray)) t185 _ A40.out (bldn_out (by repeat (first | (with_reducible first | exact HI.out | apply bldn_alloc | apply bldn_drewN | apply bldn_drew1 | refine bldn_set ?_ GN173.out | refine bldn_set ?_ GN175.out) | exact HI.out))) (below_size (by repeat (first | (with_reducible first | exact HB.out | apply below_alloc | apply pw_below_drewN | apply below_drew1 | refine below_set ?_ GE173.out | refine below_set ?_ GE175.out) | exact HB.out)))).mono ?_; rintro e w41 ⟨rfl, hi_, hb, hk_⟩; refine ⟨_, rfl, ?_⟩; have n0_ := Aside0.mk (hk_ gb173 (.cells #[.slice A0_0 l0_0.length c0_0, .slice (some ad183) l0_1.length c0_1] 47 (0, 0)) (by (with_reducible repeat (first | refine blk_drewN ?_ _ | refine blk_drew ?_ | refine blk_alloc ?_ _)); exact BK173.out) (bld_ne (bldn_out (by repeat (first | (with_reducible first | exact HI.out | apply bldn_alloc | apply bldn_drewN | apply bldn_drew1 | refine bldn_set ?_ GN173.out | refine bldn_set ?_ GN175.out) | exact HI.out))) (k := gb173) (by (with_reducible repeat (first | refine blk_drewN ?_ _ | refine blk_drew ?_ | refine blk_alloc ?_ _)); exact BK173.out) (by decide)) (by intro c_ fz_ h_; injection h_ with _ h2_ _; exact absurd h2_ (by decide))); have n1_ := Aside0.mk (Below.trans (by repeat (first | (with_reducible first | exact HB.out | apply below_alloc | apply pw_below_drewN | apply below_drew1 | refine below_set ?_ GE173.out) | exact HB.out)) hb); clear BK173; clear HB; have BK173 := n0_; have HB := n1_; clear n0_ n1_; (try clear hb); (try clear hb2); (try clear hk); (try clear hi); clear HI; have HI := Aside0.mk (bldn_start hi_); clear hi_ hk_))
                        go_roundg k2
                        case measure => have := HK1.out; have := HK2.out; omega
                        case rel => exact ⟨(t185), (wrap64 (x44_2 + 1)), (by first | rfl | (simp; done) | (simp [*]; done)), H', ⟨by have := HK1.out; have := HK2.out; omega⟩, ⟨by (with_reducible repeat (first | refine blk_drewN ?_ _ | refine blk_drew ?_ | refine blk_alloc ?_ _)); exact BK173.out⟩, ⟨by repeat (first | (with_reducible first | exact HB.out | apply below_alloc | apply pw_below_drewN | apply below_drew1 | refine below_set ?_ GE173.out) | exact HB.out)⟩, ⟨bldn_out (by repeat (first | (with_reducible first | exact HI.out | apply bldn_alloc | apply bldn_drewN | apply bldn_drew1 | refine bldn_set ?_ GN173.out | refine bldn_set ?_ GN175.out) | exact HI.out))⟩⟩
                      · rw [if_neg c39] at H
                        exact absurd H (by simp)
                    · rw [if_neg c38] at H
                      exact absurd H (by simp)
                  · replace c37 := Bool.eq_false_iff.mpr c37
                    subst c37
                    have H1 : (some (⟨#[]⟩ : ByteArray)) = some r := by rw [if_neg (show ¬ (false = true) by decide)] at H; exact H
                    clear H
                    have H := H1
                    clear H1
                    obtain rfl := Option.some.inj H
                    have p183 : 0 ≤ (x44_2 : Int) := of_decide_eq_true (by first | (with_reducible assumption) | assumption)
                    have q183 : x44_2 < (l0_1.length : Int) := of_decide_eq_true (by first | (with_reducible assumption) | assumption)
                    obtain ⟨ad183, e183, hx183_0⟩ := Kd.at_string HR0_1.out x44_2 p183 q183
                    cases e183
                    replace hx183_0 := (HB.out.cell (World.block_lt_of_cell? w _ hx183_0)).trans hx183_0
                    replace p183 := eq_true p183
                    replace q183 := eq_true q183
                    go_wp2_with (first | ((with_reducible refine gate_callee (f := 59) rfl ?_); refine goesL_ (some 49) rfl rfl Try.func59 (by kernel_rfl) rfl #[.string (rdOf ByteArray.empty l0_1 x44_2)] rfl (by (try simp only [List.map_toArray, List.map_cons, List.map_nil]); first | done | rfl | (simp only [List.length_drop, List.length_take]; rfl)) ?_; (with_reducible refine (impl_nameOk.calls k2 (rdOf ByteArray.empty l0_1 x44_2) false _ A36.out).mono ?_); rintro e w' ⟨rfl, ⟨nd, rfl⟩⟩; refine ⟨_, rfl, ?_⟩))
                    go_ret
                    exact ⟨by first | rfl | (simp [errW_none, errW_some] <;> rfl) | (simp [*, errW_none, errW_some] <;> rfl), by repeat (first | (with_reducible first | exact HB.out | apply below_alloc | apply pw_below_drewN | apply below_drew1 | refine below_set ?_ GE173.out) | exact HB.out)⟩
                · rw [if_neg c35] at H
                  exact absurd H (by simp)
              · rw [if_neg c34] at H
                exact absurd H (by simp)
            · rw [if_neg c33] at H
              have c33b0 : decide (x44_2 < (l0_1.length : Int)) = false := decide_eq_false c33
              clear c33
              replace H := Option.bind_eq_some_iff.mp H
              obtain ⟨t182, A420, H⟩ := H
              replace H : (some t182) = some r := H
              have A42 := Aside0.mk A420
              clear A420
              obtain rfl := Option.some.inj H
              go_wp2_with (first | ((with_reducible refine gate_callee (f := 62) rfl ?_); refine goesL_ _ rfl rfl Try.func62 (by kernel_rfl) rfl #[.pointer (some ⟨gbx, 0, none⟩)] rfl (by (try simp only [List.map_toArray, List.map_cons, List.map_nil]); first | done | rfl | (simp only [List.length_drop, List.length_take]; rfl)) ?_; refine (impl_ST.calls w.heap.size gbx x3_2 t182 _ A42.out (bldn_out (by repeat (first | (with_reducible first | exact HI.out | apply bldn_alloc | apply bldn_drewN | apply bldn_drew1 | refine bldn_set ?_ GN173.out | refine bldn_set ?_ GN175.out) | exact HI.out))) (below_size (by repeat (first | (with_reducible first | exact HB.out | apply below_alloc | apply pw_below_drewN | apply below_drew1 | refine below_set ?_ GE173.out | refine below_set ?_ GE175.out) | exact HB.out)))).mono ?_; rintro e w43 ⟨rfl, hb, hk_⟩; refine ⟨_, rfl, ?_⟩; have n0_ := Aside0.mk (hk_ gb173 (.cells #[.slice A0_0 l0_0.length c0_0, .slice A0_1 l0_1.length c0_1] 47 (0, 0)) (by (with_reducible repeat (first | refine blk_drewN ?_ _ | refine blk_drew ?_ | refine blk_alloc ?_ _)); exact BK173.out) (bld_ne (bldn_out (by repeat (first | (with_reducible first | exact HI.out | apply bldn_alloc | apply bldn_drewN | apply bldn_drew1 | refine bldn_set ?_ GN173.out | refine bldn_set ?_ GN175.out) | exact HI.out))) (k := gb173) (by (with_reducible repeat (first | refine blk_drewN ?_ _ | refine blk_drew ?_ | refine blk_alloc ?_ _)); exact BK173.out) (by decide)) (by intro c_ fz_ h_; injection h_ with _ h2_ _; exact absurd h2_ (by decide))); have n1_ := Aside0.mk (Below.trans (by repeat (first | (with_reducible first | exact HB.out | apply below_alloc | apply pw_below_drewN | apply below_drew1 | refine below_set ?_ GE173.out) | exact HB.out)) hb); clear BK173; clear HB; have BK173 := n0_; have HB := n1_; clear n0_ n1_; (try clear hb); (try clear hb2); (try clear hk); (try clear hi); clear hk_))
              go_ret
              exact ⟨by first | rfl | (simp [errW_none, errW_some] <;> rfl) | (simp [*, errW_none, errW_some] <;> rfl), by repeat (first | (with_reducible first | exact HB.out | apply below_alloc | apply pw_below_drewN | apply below_drew1 | refine below_set ?_ GE173.out) | exact HB.out)⟩

end Go.Proofs.Ytieghkchhjailaa.P
