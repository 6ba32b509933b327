-- WRITTEN by this session's wip/ext.py (the kit's printer, with contracts of this session's own in it): Lean checks it.
import Derived.Test.YtieghkchhjailaaPx0
import Derived.Test.YtieghkchhjailaaPx4
import Derived.Test.YtieghkchhjailaaPx5
namespace Go.Proofs.Ytieghkchhjailaa.P
open Go.RowKit Go.Proofs.YtieghkchhjailaaW.PrintWords Go.Proofs.YtieghkchhjailaaW.PrintLast Go.Proofs.YtieghkchhjailaaW.PrintMore
attribute [local go_sem] max2_int min2_int max_two min_two max_three min_three max_four min_four   -- for this text's walks alone
set_option linter.unusedVariables false
set_option linter.unusedSimpArgs false

/-! ### impl_PlanText: function 16 -/
mutual
def impl_PlanText.l0 : Nat → ByteArray → List (S70) → Int → Int → Option (ByteArray)
  | 0, _, _, _, _ => none
  | k + 1, x3, x6, x7, x8 => if x8 < x7 then (if 0 ≤ x8 then (if x8 < (x6.length : Int) then (if ((rd_T70 x6 x8).f0) = 0 then ((impl_nameOk.f k ((rd_T70 x6 x8).f1)).bind fun t143 => (impl_PlanText.j1 k x3 x6 x7 x8 t143 ((rd_T70 x6 x8).f0) ((rd_T70 x6 x8).f1))) else (impl_PlanText.j1 k x3 x6 x7 x8 false ((rd_T70 x6 x8).f0) ((rd_T70 x6 x8).f1))) else (none)) else (none)) else ((impl_ST.f x3).bind fun t140 => (some t140))
def impl_PlanText.j1 : Nat → ByteArray → List (S70) → Int → Int → Bool → Int → ByteArray → Option (ByteArray)
  | 0, _, _, _, _, _, _, _ => none
  | k + 1, x3, x6, x7, x8, x12, x143000, x143001 => if x12 = true then ((impl_WS.f x3 (⟨#[117, 112, 32]⟩ : ByteArray)).bind fun t144 => (if x143001.size + 1 ≤ 9223372036854775807 then ((impl_WS.f t144 (x143001 ++ (⟨#[10]⟩ : ByteArray))).bind fun t145 => (impl_PlanText.l0 k t145 x6 x7 (wrap64 (x8 + 1)))) else (none))) else (if x143000 = 1 then ((impl_nameOk.f k x143001).bind fun t146 => (impl_PlanText.j2 k x3 x6 x7 x8 t146 x143000 x143001)) else (impl_PlanText.j2 k x3 x6 x7 x8 false x143000 x143001))
def impl_PlanText.j2 : Nat → ByteArray → List (S70) → Int → Int → Bool → Int → ByteArray → Option (ByteArray)
  | 0, _, _, _, _, _, _, _ => none
  | k + 1, x3, x6, x7, x8, x22, x143000, x143001 => if x22 = true then ((impl_WS.f x3 (⟨#[100, 111, 119, 110, 32]⟩ : ByteArray)).bind fun t147 => (if x143001.size + 1 ≤ 9223372036854775807 then ((impl_WS.f t147 (x143001 ++ (⟨#[10]⟩ : ByteArray))).bind fun t148 => (impl_PlanText.l0 k t148 x6 x7 (wrap64 (x8 + 1)))) else (none))) else (if x143000 = 2 then ((impl_idOk.f k x143001).bind fun t149 => (impl_PlanText.j3 k x3 x6 x7 x8 t149 x143000 x143001)) else (impl_PlanText.j3 k x3 x6 x7 x8 false x143000 x143001))
def impl_PlanText.j3 : Nat → ByteArray → List (S70) → Int → Int → Bool → Int → ByteArray → Option (ByteArray)
  | 0, _, _, _, _, _, _, _ => none
  | k + 1, x3, x6, x7, x8, x32, x143000, x143001 => if x32 = true then ((impl_WS.f x3 (⟨#[116, 101, 115, 116, 32]⟩ : ByteArray)).bind fun t150 => (if x143001.size + 1 ≤ 9223372036854775807 then ((impl_WS.f t150 (x143001 ++ (⟨#[10]⟩ : ByteArray))).bind fun t151 => (impl_PlanText.l0 k t151 x6 x7 (wrap64 (x8 + 1)))) else (none))) else (some (⟨#[]⟩ : ByteArray))
end
def impl_PlanText.f (k : Nat) (l0 : List (S70)) : Option (ByteArray) := impl_PlanText.l0 k (⟨#[]⟩ : ByteArray) l0 (l0.length : Int) 0
theorem impl_PlanText.mono_l : ∀ k, (∀ y0 y1 y2 y3, LeO (impl_PlanText.l0 k y0 y1 y2 y3) (impl_PlanText.l0 (k + 1) y0 y1 y2 y3)) ∧ (∀ y0 y1 y2 y3 y4 y5 y6, LeO (impl_PlanText.j1 k y0 y1 y2 y3 y4 y5 y6) (impl_PlanText.j1 (k + 1) y0 y1 y2 y3 y4 y5 y6)) ∧ (∀ y0 y1 y2 y3 y4 y5 y6, LeO (impl_PlanText.j2 k y0 y1 y2 y3 y4 y5 y6) (impl_PlanText.j2 (k + 1) y0 y1 y2 y3 y4 y5 y6)) ∧ (∀ y0 y1 y2 y3 y4 y5 y6, LeO (impl_PlanText.j3 k y0 y1 y2 y3 y4 y5 y6) (impl_PlanText.j3 (k + 1) y0 y1 y2 y3 y4 y5 y6))
  | 0 => ⟨fun _ _ _ _ r h => by simp [impl_PlanText.l0] at h, fun _ _ _ _ _ _ _ r h => by simp [impl_PlanText.j1] at h, fun _ _ _ _ _ _ _ r h => by simp [impl_PlanText.j2] at h, fun _ _ _ _ _ _ _ r h => by simp [impl_PlanText.j3] at h⟩
  | k + 1 => by
    obtain ⟨ih0, ih1, ih2, ih3⟩ := impl_PlanText.mono_l k
    refine ⟨?_, ?_, ?_, ?_⟩
    · intro y0 y1 y2 y3
      unfold impl_PlanText.l0
      repeat' first
      | (with_reducible exact ih0 _ _ _ _)
      | (with_reducible exact ih1 _ _ _ _ _ _ _)
      | (with_reducible exact ih2 _ _ _ _ _ _ _)
      | (with_reducible exact ih3 _ _ _ _ _ _ _)
      | (with_reducible exact impl_idOk.mono _ _)
      | (with_reducible exact impl_nameOk.mono _ _)
      | (with_reducible exact LeO.refl _)
      | (with_reducible exact LeO.none _)
      | (with_reducible refine LeO.ite ?_ ?_)
      | (with_reducible refine LeO.bind ?_ (fun _ => ?_))
      | exact ih0 _ _ _ _
      | exact ih1 _ _ _ _ _ _ _
      | exact ih2 _ _ _ _ _ _ _
      | exact ih3 _ _ _ _ _ _ _
      | exact impl_idOk.mono _ _
      | exact impl_nameOk.mono _ _
      | exact LeO.none _
      | refine LeO.ite ?_ ?_
      | refine LeO.bind ?_ (fun _ => ?_)
    · intro y0 y1 y2 y3 y4 y5 y6
      unfold impl_PlanText.j1
      repeat' first
      | (with_reducible exact ih0 _ _ _ _)
      | (with_reducible exact ih1 _ _ _ _ _ _ _)
      | (with_reducible exact ih2 _ _ _ _ _ _ _)
      | (with_reducible exact ih3 _ _ _ _ _ _ _)
      | (with_reducible exact impl_idOk.mono _ _)
      | (with_reducible exact impl_nameOk.mono _ _)
      | (with_reducible exact LeO.refl _)
      | (with_reducible exact LeO.none _)
      | (with_reducible refine LeO.ite ?_ ?_)
      | (with_reducible refine LeO.bind ?_ (fun _ => ?_))
      | exact ih0 _ _ _ _
      | exact ih1 _ _ _ _ _ _ _
      | exact ih2 _ _ _ _ _ _ _
      | exact ih3 _ _ _ _ _ _ _
      | exact impl_idOk.mono _ _
      | exact impl_nameOk.mono _ _
      | exact LeO.none _
      | refine LeO.ite ?_ ?_
      | refine LeO.bind ?_ (fun _ => ?_)
    · intro y0 y1 y2 y3 y4 y5 y6
      unfold impl_PlanText.j2
      repeat' first
      | (with_reducible exact ih0 _ _ _ _)
      | (with_reducible exact ih1 _ _ _ _ _ _ _)
      | (with_reducible exact ih2 _ _ _ _ _ _ _)
      | (with_reducible exact ih3 _ _ _ _ _ _ _)
      | (with_reducible exact impl_idOk.mono _ _)
      | (with_reducible exact impl_nameOk.mono _ _)
      | (with_reducible exact LeO.refl _)
      | (with_reducible exact LeO.none _)
      | (with_reducible refine LeO.ite ?_ ?_)
      | (with_reducible refine LeO.bind ?_ (fun _ => ?_))
      | exact ih0 _ _ _ _
      | exact ih1 _ _ _ _ _ _ _
      | exact ih2 _ _ _ _ _ _ _
      | exact ih3 _ _ _ _ _ _ _
      | exact impl_idOk.mono _ _
      | exact impl_nameOk.mono _ _
      | exact LeO.none _
      | refine LeO.ite ?_ ?_
      | refine LeO.bind ?_ (fun _ => ?_)
    · intro y0 y1 y2 y3 y4 y5 y6
      unfold impl_PlanText.j3
      repeat' first
      | (with_reducible exact ih0 _ _ _ _)
      | (with_reducible exact ih1 _ _ _ _ _ _ _)
      | (with_reducible exact ih2 _ _ _ _ _ _ _)
      | (with_reducible exact ih3 _ _ _ _ _ _ _)
      | (with_reducible exact impl_idOk.mono _ _)
      | (with_reducible exact impl_nameOk.mono _ _)
      | (with_reducible exact LeO.refl _)
      | (with_reducible exact LeO.none _)
      | (with_reducible refine LeO.ite ?_ ?_)
      | (with_reducible refine LeO.bind ?_ (fun _ => ?_))
      | exact ih0 _ _ _ _
      | exact ih1 _ _ _ _ _ _ _
      | exact ih2 _ _ _ _ _ _ _
      | exact ih3 _ _ _ _ _ _ _
      | exact impl_idOk.mono _ _
      | exact impl_nameOk.mono _ _
      | exact LeO.none _
      | refine LeO.ite ?_ ?_
      | refine LeO.bind ?_ (fun _ => ?_)
theorem impl_PlanText.mono : ∀ a0 k, LeO (impl_PlanText.f k a0) (impl_PlanText.f (k + 1) a0) := by
  intro a0 k
  obtain ⟨ih0, ih1, ih2, ih3⟩ := impl_PlanText.mono_l k
  unfold impl_PlanText.f
  repeat' first
      | (with_reducible exact ih0 _ _ _ _)
      | (with_reducible exact ih1 _ _ _ _ _ _ _)
      | (with_reducible exact ih2 _ _ _ _ _ _ _)
      | (with_reducible exact ih3 _ _ _ _ _ _ _)
      | (with_reducible exact impl_idOk.mono _ _)
      | (with_reducible exact impl_nameOk.mono _ _)
      | (with_reducible exact LeO.refl _)
      | (with_reducible exact LeO.none _)
      | (with_reducible refine LeO.ite ?_ ?_)
      | (with_reducible refine LeO.bind ?_ (fun _ => ?_))
      | exact ih0 _ _ _ _
      | exact ih1 _ _ _ _ _ _ _
      | exact ih2 _ _ _ _ _ _ _
      | exact ih3 _ _ _ _ _ _ _
      | exact impl_idOk.mono _ _
      | exact impl_nameOk.mono _ _
      | exact LeO.none _
      | refine LeO.ite ?_ ?_
      | refine LeO.bind ?_ (fun _ => ?_)
set_option maxHeartbeats 8000000 in
set_option maxRecDepth 100000 in
theorem impl_PlanText.calls (k : Nat) (A0 : Option Addr) (c0 : Nat) (l0 : List (S70)) (r : ByteArray) (w : World) (hr0 : Kd.C k70 w A0 l0.length l0) (hc0 : l0.length ≤ c0) (h : impl_PlanText.f k l0 = some r) :
    Calls Try.prog 16 #[.slice A0 l0.length c0] w fun e w' => e = .returned (.string r) ∧ Below w.heap.size w w' := by
  have hu70 := Try.underlying70
  have HR0 := Aside0.mk hr0
  have HC0 := Aside0.mk hc0
  clear hr0 hc0
  have HB := Aside0.mk (Below.refl w.heap.size w)
  have H : (impl_PlanText.l0 k (⟨#[]⟩ : ByteArray) l0 (l0.length : Int) 0) = some r := h
  clear h
  have H' := Aside0.mk H
  clear H
  go_enter Try.func16, Try.ntmps16
  go_wp2_with (first | ((with_reducible refine gate_dst (N := 3) rfl ?_); refine box_event ?hg (N := 3) ?hd (cs := #[.pointer none, .slice none 0 0]) (t := 79) ?hr ?_; (case hd => rfl); (case hg => rfl); (case hr => first | (go_simp; done) | (go_simp; rfl)); intro gbx hg wbx hbox hb; have nB_ := Aside0.mk (below_step (by repeat (first | (with_reducible first | exact HB.out | apply below_alloc | apply pw_below_drewN | apply below_drew1 | refine below_set ?_ GE142.out) | exact HB.out)) hb); have nI_ := Aside0.mk (bld_fresh (show w.heap.size ≤ gbx by rw [hg]; exact below_size (by repeat (first | (with_reducible first | exact HB.out | apply below_alloc | apply pw_below_drewN | apply below_drew1 | refine below_set ?_ GE142.out) | exact HB.out))) hbox); clear HB; have HB := nB_; have HI := Aside0.mk (bldn_start nI_.out); clear nB_ nI_ hb hbox hg))
  go_loopg [8] k (fun kq v8 w' => ∃ (x3_1 : ByteArray) (x8_1 : Int), v8 = .int .i64 x8_1 ∧ Aside0 (impl_PlanText.l0 kq x3_1 l0 (l0.length : Int) x8_1 = some r) ∧ Aside0 (kq ≤ k) ∧ Aside0 (Below w.heap.size w w') ∧ Aside0 (Bld w.heap.size gbx x3_1 w'))
  case atStart => exact ⟨((⟨#[]⟩ : ByteArray)), (0), (by first | rfl | (simp; done) | (simp [*]; done)), H', ⟨Nat.le_refl _⟩, ⟨by repeat (first | (with_reducible first | exact HB.out | apply below_alloc | apply pw_below_drewN | apply below_drew1) | exact HB.out)⟩, ⟨bldn_out (by repeat (first | (with_reducible first | exact HI.out | apply bldn_alloc | apply bldn_drewN | apply bldn_drew1 | refine bldn_set ?_ GN142.out) | exact HI.out))⟩⟩
  case round =>
    clear H'
    try clear c1
    obtain ⟨x3_1, x8_1, rfl, HA, HK1, HB, HI⟩ := hrel
    replace HI := Aside0.mk (bldn_start HI.out)
    cases gk with
    | zero => exact absurd HA.out (by simp [impl_PlanText.l0])
    | succ k1 =>
      have H := HA.out
      clear HA
      simp only [impl_PlanText.l0] at H
      by_cases c2 : x8_1 < (l0.length : Int)
      · rw [if_pos c2] at H
        have c2b0 : decide (x8_1 < (l0.length : Int)) = true := decide_eq_true c2
        clear c2
        by_cases c3 : 0 ≤ x8_1
        · rw [if_pos c3] at H
          have c3b0 : decide (0 ≤ x8_1) = true := decide_eq_true c3
          clear c3
          by_cases c4 : x8_1 < (l0.length : Int)
          · rw [if_pos c4] at H
            have c4b0 : decide (x8_1 < (l0.length : Int)) = true := decide_eq_true c4
            clear c4
            have HC5 := Aside0.mk H
            clear H
            have p141 : 0 ≤ (x8_1 : Int) := of_decide_eq_true (by first | (with_reducible assumption) | assumption)
            have q141 : x8_1 < (l0.length : Int) := of_decide_eq_true (by first | (with_reducible assumption) | assumption)
            obtain ⟨ad141, e141, hx141_0, hx141_1⟩ := at_T70 HR0.out x8_1 p141 q141
            cases e141
            replace hx141_0 := (HB.out.cell (World.block_lt_of_cell? w _ hx141_0)).trans hx141_0
            replace hx141_1 := (HB.out.cell (World.block_lt_of_cell? w _ hx141_1)).trans hx141_1
            replace p141 := eq_true p141
            replace q141 := eq_true q141
            go_upto_region 6 with (first | ((with_reducible refine gate_dst (N := 5) rfl ?_); refine box_event ?hg (N := 5) ?hd (cs := #[.int .i64 0, .string (⟨#[]⟩ : ByteArray)]) (t := 70) ?hr ?_; (case hd => rfl); (case hg => rfl); (case hr => first | (go_simp; done) | (go_simp; rfl)); intro gb142 hg w6 hbox hb; have nI_ := Aside0.mk (bldn_step (by repeat (first | (with_reducible first | exact HI.out | apply bldn_alloc | apply bldn_drewN | apply bldn_drew1 | refine bldn_set ?_ GN142.out) | exact HI.out)) hb); have nG_ := Aside0.mk (bldn_gt (by repeat (first | (with_reducible first | exact HI.out | apply bldn_alloc | apply bldn_drewN | apply bldn_drew1 | refine bldn_set ?_ GN142.out) | exact HI.out)) hg); clear HI; have HI := nI_; have GN142 := nG_; clear nI_ nG_; have n0_ := Aside0.mk (below_step (by repeat (first | (with_reducible first | exact HB.out | apply below_alloc | apply pw_below_drewN | apply below_drew1) | exact HB.out)) hb); have n1_ := Aside0.mk (hbox); have n2_ := Aside0.mk ((by rw [hg]; exact (below_size (by repeat (first | (with_reducible first | exact HB.out | apply below_alloc | apply pw_below_drewN | apply below_drew1) | exact HB.out))) : w.heap.size ≤ gb142)); have n3_ := Aside0.mk ((by rw [hg]; exact (below_size (by repeat (first | (with_reducible first | exact HB.out | apply below_alloc | apply pw_below_drewN | apply below_drew1) | exact HB.out))) : w.heap.size ≤ gb142)); clear HB; have HB := n0_; have BK142 := n1_; have GW142 := n2_; have GE142 := n3_; clear n0_ n1_ n2_ n3_; clear hb hbox hg; have hcz7_0 : w6.cell? ⟨gb142, 0, none⟩ = some (.int .i64 0) := (blk_cell BK142.out 0).trans rfl; have hcz7_1 : w6.cell? ⟨gb142, 1, none⟩ = some (.string (⟨#[]⟩ : ByteArray)) := (blk_cell BK142.out 1).trans rfl; have hfz7_0 := blk_frozen BK142.out 0; have hfz7_1 := blk_frozen BK142.out 1))
            (try simp only [Act.put, List.setIfInBounds_toArray, List.set_cons_zero, List.set_cons_succ])
            go_cut [12] (fun v12 wc => ∃ (kq : Nat) (x12_4 : Bool), v12 = .bool x12_4 ∧ Aside0 (impl_PlanText.j1 kq x3_1 l0 (l0.length : Int) x8_1 x12_4 ((rd_T70 l0 x8_1).f0) ((rd_T70 l0 x8_1).f1) = some r) ∧ Aside0 (kq ≤ k1) ∧ Aside0 (wc.heap[gb142]? = some (.cells #[.int .i64 ((rd_T70 l0 x8_1).f0), .string ((rd_T70 l0 x8_1).f1)] 70 (0, 0))) ∧ Aside0 (Below w.heap.size w wc) ∧ Aside0 (BldN w.heap.size gbx x3_1 wr.heap.size wc))
            case first =>
              have H := HC5.out
              clear HC5
              by_cases c8 : ((rd_T70 l0 x8_1).f0) = 0
              · rw [if_pos c8] at H
                have c8b0 : (((rd_T70 l0 x8_1).f0) == 0) = true := beq_iff_eq.mpr c8
                have c8b1 : (((rd_T70 l0 x8_1).f0) != 0) = false := bne_eq_false_iff_eq.mpr c8
                clear c8
                (first | rw [c8b0] | (simp only [i64_w, i32_w]; rw [c8b0]) | skip)
                replace H := Option.bind_eq_some_iff.mp H
                obtain ⟨t143, A90, H⟩ := H
                replace H : (impl_PlanText.j1 k1 x3_1 l0 (l0.length : Int) x8_1 t143 ((rd_T70 l0 x8_1).f0) ((rd_T70 l0 x8_1).f1)) = some r := H
                have A9 := Aside0.mk A90
                clear A90
                have H' := Aside0.mk H
                clear H
                have hcz10_0 : w6.cell? ⟨gb142, 0, none⟩ = some (.int .i64 0) := (blk_cell BK142.out 0).trans rfl
                have hcz10_1 : w6.cell? ⟨gb142, 1, none⟩ = some (.string (⟨#[]⟩ : ByteArray)) := (blk_cell BK142.out 1).trans rfl
                have hfz10_0 := blk_frozen BK142.out 0
                have hfz10_1 := blk_frozen BK142.out 1
                go_wp2_with (first | (go_at_call 59; (with_reducible refine (impl_nameOk.calls k1 ((rd_T70 l0 x8_1).f1) t143 _ A9.out).mono ?_); rintro e w' ⟨rfl, ⟨nd, rfl⟩⟩))
                go_meet
                case rel => exact ⟨_, (t143), (by first | rfl | (simp; done) | (simp [*]; done)), H', ⟨by have := HK1.out; first | omega | exact Nat.le_refl _⟩, ⟨by (with_reducible repeat (first | refine blk_drewN ?_ _ | refine blk_drew ?_ | refine blk_alloc ?_ _)); refine blk_put (cs := #[.int .i64 ((rd_T70 l0 x8_1).f0), .string (⟨#[]⟩ : ByteArray)]) ?_ 1 _ rfl; (with_reducible repeat (first | refine blk_drewN ?_ _ | refine blk_drew ?_ | refine blk_alloc ?_ _)); refine blk_put (cs := #[.int .i64 0, .string (⟨#[]⟩ : ByteArray)]) ?_ 0 _ rfl; (with_reducible repeat (first | refine blk_drewN ?_ _ | refine blk_drew ?_ | refine blk_alloc ?_ _)); exact BK142.out⟩, ⟨by repeat (first | (with_reducible first | exact HB.out | apply below_alloc | apply pw_below_drewN | apply below_drew1 | refine below_set ?_ GE142.out) | exact HB.out)⟩, ⟨(by repeat (first | (with_reducible first | exact HI.out | apply bldn_alloc | apply bldn_drewN | apply bldn_drew1 | refine bldn_set ?_ GN142.out) | exact HI.out))⟩⟩
              · rw [if_neg c8] at H
                have c8b0 : (((rd_T70 l0 x8_1).f0) == 0) = false := beq_eq_false_iff_ne.mpr c8
                have c8b1 : (((rd_T70 l0 x8_1).f0) != 0) = true := bne_iff_ne.mpr c8
                (first | rw [c8b0] | (simp only [i64_w, i32_w]; rw [c8b0]) | skip)
                have H' := Aside0.mk H
                clear H
                have hcz11_0 : w6.cell? ⟨gb142, 0, none⟩ = some (.int .i64 0) := (blk_cell BK142.out 0).trans rfl
                have hcz11_1 : w6.cell? ⟨gb142, 1, none⟩ = some (.string (⟨#[]⟩ : ByteArray)) := (blk_cell BK142.out 1).trans rfl
                have hfz11_0 := blk_frozen BK142.out 0
                have hfz11_1 := blk_frozen BK142.out 1
                go_wp2
                go_meet
                case rel => exact ⟨_, (false), (by first | rfl | (simp; done) | (simp [*]; done)), H', ⟨by have := HK1.out; first | omega | exact Nat.le_refl _⟩, ⟨by (with_reducible repeat (first | refine blk_drewN ?_ _ | refine blk_drew ?_ | refine blk_alloc ?_ _)); refine blk_put (cs := #[.int .i64 ((rd_T70 l0 x8_1).f0), .string (⟨#[]⟩ : ByteArray)]) ?_ 1 _ rfl; (with_reducible repeat (first | refine blk_drewN ?_ _ | refine blk_drew ?_ | refine blk_alloc ?_ _)); refine blk_put (cs := #[.int .i64 0, .string (⟨#[]⟩ : ByteArray)]) ?_ 0 _ rfl; (with_reducible repeat (first | refine blk_drewN ?_ _ | refine blk_drew ?_ | refine blk_alloc ?_ _)); exact BK142.out⟩, ⟨by repeat (first | (with_reducible first | exact HB.out | apply below_alloc | apply pw_below_drewN | apply below_drew1 | refine below_set ?_ GE142.out) | exact HB.out)⟩, ⟨(by repeat (first | (with_reducible first | exact HI.out | apply bldn_alloc | apply bldn_drewN | apply bldn_drew1 | refine bldn_set ?_ GN142.out) | exact HI.out))⟩⟩
            case rest =>
              clear HC5
              try clear c1
              try clear p1
              try clear q1
              try clear hx1
              try clear c2
              try clear c2b0
              try clear p2
              try clear c3
              try clear c3b0
              try clear c4
              try clear c4b0
              try clear c8
              try clear c8b0
              try clear c8b1
              try clear hcz10_0
              try clear hcz10_1
              try clear hcz11_0
              try clear hcz11_1
              try clear hcz7_0
              try clear hcz7_1
              try clear hfz10_0
              try clear hfz10_1
              try clear hfz11_0
              try clear hfz11_1
              try clear hfz7_0
              try clear hfz7_1
              try clear hx141_0
              try clear hx141_1
              try clear p141
              try clear q141
              obtain ⟨kq, x12_4, rfl, HA, HJ4, BK142, HB, HI⟩ := hcut
              cases kq with
              | zero => exact absurd HA.out (by simp [impl_PlanText.j1])
              | succ kj4 =>
                have H := HA.out
                clear HA
                simp only [impl_PlanText.j1] at H
                by_cases c12 : x12_4 = true
                · subst c12
                  have H1 : ((impl_WS.f x3_1 (⟨#[117, 112, 32]⟩ : ByteArray)).bind fun t144 => (if ((rd_T70 l0 x8_1).f1).size + 1 ≤ 9223372036854775807 then ((impl_WS.f t144 (((rd_T70 l0 x8_1).f1) ++ (⟨#[10]⟩ : ByteArray))).bind fun t145 => (impl_PlanText.l0 kj4 t145 l0 (l0.length : Int) (wrap64 (x8_1 + 1)))) else (none))) = some r := by rw [if_pos rfl] at H; exact H
                  clear H
                  have H := H1
                  clear H1
                  replace H := Option.bind_eq_some_iff.mp H
                  obtain ⟨t144, A130, H⟩ := H
                  replace H : (if ((rd_T70 l0 x8_1).f1).size + 1 ≤ 9223372036854775807 then ((impl_WS.f t144 (((rd_T70 l0 x8_1).f1) ++ (⟨#[10]⟩ : ByteArray))).bind fun t145 => (impl_PlanText.l0 kj4 t145 l0 (l0.length : Int) (wrap64 (x8_1 + 1)))) else (none)) = some r := H
                  have A13 := Aside0.mk A130
                  clear A130
                  by_cases c14 : ((rd_T70 l0 x8_1).f1).size + 1 ≤ 9223372036854775807
                  · rw [if_pos c14] at H
                    have c14b0 := eq_true c14
                    have c14b1 : decide (((rd_T70 l0 x8_1).f1).size + 1 ≤ 9223372036854775807) = true := decide_eq_true c14
                    try have c14b2 : (9223372036854775807 < ((rd_T70 l0 x8_1).f1).size + 1) = False := eq_false (Nat.not_lt.2 c14)
                    replace H := Option.bind_eq_some_iff.mp H
                    obtain ⟨t145, A150, H⟩ := H
                    replace H : (impl_PlanText.l0 kj4 t145 l0 (l0.length : Int) (wrap64 (x8_1 + 1))) = some r := H
                    have A15 := Aside0.mk A150
                    clear A150
                    have H' := Aside0.mk H
                    clear H
                    go_wp2_with (first | ((with_reducible refine gate_callee (f := 60) rfl ?_); refine goesL_ _ rfl rfl Try.func60 (by kernel_rfl) rfl #[.pointer (some ⟨gbx, 0, none⟩), .string (⟨#[117, 112, 32]⟩ : ByteArray)] rfl (by (try simp only [List.map_toArray, List.map_cons, List.map_nil]); first | done | rfl | (simp only [List.length_drop, List.length_take]; rfl)) ?_; refine (impl_WS.calls w.heap.size gbx x3_1 (⟨#[117, 112, 32]⟩ : ByteArray) t144 _ A13.out (bldn_out (by repeat (first | (with_reducible first | exact HI.out | apply bldn_alloc | apply bldn_drewN | apply bldn_drew1 | refine bldn_set ?_ GN142.out) | exact HI.out))) (below_size (by repeat (first | (with_reducible first | exact HB.out | apply below_alloc | apply pw_below_drewN | apply below_drew1 | refine below_set ?_ GE142.out) | exact HB.out)))).mono ?_; rintro e w16 ⟨rfl, hi_, hb, hk_⟩; refine ⟨_, rfl, ?_⟩; have n0_ := Aside0.mk (hk_ gb142 (.cells #[.int .i64 ((rd_T70 l0 x8_1).f0), .string ((rd_T70 l0 x8_1).f1)] 70 (0, 0)) (by (with_reducible repeat (first | refine blk_drewN ?_ _ | refine blk_drew ?_ | refine blk_alloc ?_ _)); exact BK142.out) (bld_ne (bldn_out (by repeat (first | (with_reducible first | exact HI.out | apply bldn_alloc | apply bldn_drewN | apply bldn_drew1 | refine bldn_set ?_ GN142.out) | exact HI.out))) (k := gb142) (by (with_reducible repeat (first | refine blk_drewN ?_ _ | refine blk_drew ?_ | refine blk_alloc ?_ _)); exact BK142.out) (by decide)) (by intro c_ fz_ h_; injection h_ with _ h2_ _; exact absurd h2_ (by decide))); have n1_ := Aside0.mk (Below.trans (by repeat (first | (with_reducible first | exact HB.out | apply below_alloc | apply pw_below_drewN | apply below_drew1 | refine below_set ?_ GE142.out) | exact HB.out)) hb); clear BK142; clear HB; have BK142 := n0_; have HB := n1_; clear n0_ n1_; (try clear hb); (try clear hb2); (try clear hk); (try clear hi); have hcz17_0 : w16.cell? ⟨gb142, 0, none⟩ = some (.int .i64 ((rd_T70 l0 x8_1).f0)) := (blk_cell BK142.out 0).trans rfl; have hcz17_1 : w16.cell? ⟨gb142, 1, none⟩ = some (.string ((rd_T70 l0 x8_1).f1)) := (blk_cell BK142.out 1).trans rfl; have hfz17_0 := blk_frozen BK142.out 0; have hfz17_1 := blk_frozen BK142.out 1; clear HI; have HI := Aside0.mk (bldn_start hi_); clear hi_ hk_) | ((with_reducible refine gate_callee (f := 60) rfl ?_); refine goesL_ _ rfl rfl Try.func60 (by kernel_rfl) rfl #[.pointer (some ⟨gbx, 0, none⟩), .string (((rd_T70 l0 x8_1).f1) ++ (⟨#[10]⟩ : ByteArray))] rfl (by (try simp only [List.map_toArray, List.map_cons, List.map_nil]); first | done | rfl | (simp only [List.length_drop, List.length_take]; rfl)) ?_; refine (impl_WS.calls w.heap.size gbx t144 (((rd_T70 l0 x8_1).f1) ++ (⟨#[10]⟩ : ByteArray)) t145 _ A15.out (bldn_out (by repeat (first | (with_reducible first | exact HI.out | apply bldn_alloc | apply bldn_drewN | apply bldn_drew1 | refine bldn_set ?_ GN142.out) | exact HI.out))) (below_size (by repeat (first | (with_reducible first | exact HB.out | apply below_alloc | apply pw_below_drewN | apply below_drew1 | refine below_set ?_ GE142.out) | exact HB.out)))).mono ?_; rintro e w18 ⟨rfl, hi_, hb, hk_⟩; refine ⟨_, rfl, ?_⟩; have n0_ := Aside0.mk (hk_ gb142 (.cells #[.int .i64 ((rd_T70 l0 x8_1).f0), .string ((rd_T70 l0 x8_1).f1)] 70 (0, 0)) (by (with_reducible repeat (first | refine blk_drewN ?_ _ | refine blk_drew ?_ | refine blk_alloc ?_ _)); exact BK142.out) (bld_ne (bldn_out (by repeat (first | (with_reducible first | exact HI.out | apply bldn_alloc | apply bldn_drewN | apply bldn_drew1 | refine bldn_set ?_ GN142.out) | exact HI.out))) (k := gb142) (by (with_reducible repeat (first | refine blk_drewN ?_ _ | refine blk_drew ?_ | refine blk_alloc ?_ _)); exact BK142.out) (by decide)) (by intro c_ fz_ h_; injection h_ with _ h2_ _; exact absurd h2_ (by decide))); have n1_ := Aside0.mk (Below.trans (by repeat (first | (with_reducible first | exact HB.out | apply below_alloc | apply pw_below_drewN | apply below_drew1 | refine below_set ?_ GE142.out) | exact HB.out)) hb); clear BK142; clear HB; have BK142 := n0_; have HB := n1_; clear n0_ n1_; (try clear hb); (try clear hb2); (try clear hk); (try clear hi); clear HI; have HI := Aside0.mk (bldn_start hi_); clear hi_ hk_))
                    go_roundg kj4
                    case measure => have := HK1.out; have := HJ4.out; omega
                    case rel => exact ⟨(t145), (wrap64 (x8_1 + 1)), (by first | rfl | (simp; done) | (simp [*]; done)), H', ⟨by have := HK1.out; have := HJ4.out; omega⟩, ⟨by repeat (first | (with_reducible first | exact HB.out | apply below_alloc | apply pw_below_drewN | apply below_drew1 | refine below_set ?_ GE142.out) | exact HB.out)⟩, ⟨bldn_out (by repeat (first | (with_reducible first | exact HI.out | apply bldn_alloc | apply bldn_drewN | apply bldn_drew1 | refine bldn_set ?_ GN142.out) | exact HI.out))⟩⟩
                  · rw [if_neg c14] at H
                    exact absurd H (by simp)
                · replace c12 := Bool.eq_false_iff.mpr c12
                  subst c12
                  have H1 : (if ((rd_T70 l0 x8_1).f0) = 1 then ((impl_nameOk.f kj4 ((rd_T70 l0 x8_1).f1)).bind fun t146 => (impl_PlanText.j2 kj4 x3_1 l0 (l0.length : Int) x8_1 t146 ((rd_T70 l0 x8_1).f0) ((rd_T70 l0 x8_1).f1))) else (impl_PlanText.j2 kj4 x3_1 l0 (l0.length : Int) x8_1 false ((rd_T70 l0 x8_1).f0) ((rd_T70 l0 x8_1).f1))) = some r := by rw [if_neg (show ¬ (false = true) by decide)] at H; exact H
                  clear H
                  have H := H1
                  clear H1
                  have HC19 := Aside0.mk H
                  clear H
                  go_upto_region 8 with (fail)
                  go_cut [22] (fun v22 wc => ∃ (kq : Nat) (x22_18 : Bool), v22 = .bool x22_18 ∧ Aside0 (impl_PlanText.j2 kq x3_1 l0 (l0.length : Int) x8_1 x22_18 ((rd_T70 l0 x8_1).f0) ((rd_T70 l0 x8_1).f1) = some r) ∧ Aside0 (kq ≤ kj4) ∧ Aside0 (wc.heap[gb142]? = some (.cells #[.int .i64 ((rd_T70 l0 x8_1).f0), .string ((rd_T70 l0 x8_1).f1)] 70 (0, 0))) ∧ Aside0 (Below w.heap.size w wc) ∧ Aside0 (BldN w.heap.size gbx x3_1 wr.heap.size wc))
                  case first =>
                    have H := HC19.out
                    clear HC19
                    by_cases c20 : ((rd_T70 l0 x8_1).f0) = 1
                    · rw [if_pos c20] at H
                      have c20b0 : (((rd_T70 l0 x8_1).f0) == 1) = true := beq_iff_eq.mpr c20
                      have c20b1 : (((rd_T70 l0 x8_1).f0) != 1) = false := bne_eq_false_iff_eq.mpr c20
                      clear c20
                      (first | rw [c20b0] | (simp only [i64_w, i32_w]; rw [c20b0]) | skip)
                      replace H := Option.bind_eq_some_iff.mp H
                      obtain ⟨t146, A210, H⟩ := H
                      replace H : (impl_PlanText.j2 kj4 x3_1 l0 (l0.length : Int) x8_1 t146 ((rd_T70 l0 x8_1).f0) ((rd_T70 l0 x8_1).f1)) = some r := H
                      have A21 := Aside0.mk A210
                      clear A210
                      have H' := Aside0.mk H
                      clear H
                      have hcz22_0 : wc.cell? ⟨gb142, 0, none⟩ = some (.int .i64 ((rd_T70 l0 x8_1).f0)) := (blk_cell BK142.out 0).trans rfl
                      have hcz22_1 : wc.cell? ⟨gb142, 1, none⟩ = some (.string ((rd_T70 l0 x8_1).f1)) := (blk_cell BK142.out 1).trans rfl
                      have hfz22_0 := blk_frozen BK142.out 0
                      have hfz22_1 := blk_frozen BK142.out 1
                      go_wp2_with (first | (go_at_call 59; (with_reducible refine (impl_nameOk.calls kj4 ((rd_T70 l0 x8_1).f1) t146 _ A21.out).mono ?_); rintro e w' ⟨rfl, ⟨nd, rfl⟩⟩))
                      go_meet
                      case rel => exact ⟨_, (t146), (by first | rfl | (simp; done) | (simp [*]; done)), H', ⟨by have := HK1.out; have := HJ4.out; first | omega | exact Nat.le_refl _⟩, ⟨by (with_reducible repeat (first | refine blk_drewN ?_ _ | refine blk_drew ?_ | refine blk_alloc ?_ _)); exact BK142.out⟩, ⟨by repeat (first | (with_reducible first | exact HB.out | apply below_alloc | apply pw_below_drewN | apply below_drew1 | refine below_set ?_ GE142.out) | exact HB.out)⟩, ⟨(by repeat (first | (with_reducible first | exact HI.out | apply bldn_alloc | apply bldn_drewN | apply bldn_drew1 | refine bldn_set ?_ GN142.out) | exact HI.out))⟩⟩
                    · rw [if_neg c20] at H
                      have c20b0 : (((rd_T70 l0 x8_1).f0) == 1) = false := beq_eq_false_iff_ne.mpr c20
                      have c20b1 : (((rd_T70 l0 x8_1).f0) != 1) = true := bne_iff_ne.mpr c20
                      (first | rw [c20b0] | (simp only [i64_w, i32_w]; rw [c20b0]) | skip)
                      have H' := Aside0.mk H
                      clear H
                      have hcz23_0 : wc.cell? ⟨gb142, 0, none⟩ = some (.int .i64 ((rd_T70 l0 x8_1).f0)) := (blk_cell BK142.out 0).trans rfl
                      have hcz23_1 : wc.cell? ⟨gb142, 1, none⟩ = some (.string ((rd_T70 l0 x8_1).f1)) := (blk_cell BK142.out 1).trans rfl
                      have hfz23_0 := blk_frozen BK142.out 0
                      have hfz23_1 := blk_frozen BK142.out 1
                      go_wp2
                      go_meet
                      case rel => exact ⟨_, (false), (by first | rfl | (simp; done) | (simp [*]; done)), H', ⟨by have := HK1.out; have := HJ4.out; first | omega | exact Nat.le_refl _⟩, ⟨by (with_reducible repeat (first | refine blk_drewN ?_ _ | refine blk_drew ?_ | refine blk_alloc ?_ _)); exact BK142.out⟩, ⟨by repeat (first | (with_reducible first | exact HB.out | apply below_alloc | apply pw_below_drewN | apply below_drew1 | refine below_set ?_ GE142.out) | exact HB.out)⟩, ⟨(by repeat (first | (with_reducible first | exact HI.out | apply bldn_alloc | apply bldn_drewN | apply bldn_drew1 | refine bldn_set ?_ GN142.out) | exact HI.out))⟩⟩
                  case rest =>
                    clear HC19
                    try clear c1
                    try clear p1
                    try clear q1
                    try clear hx1
                    try clear c2
                    try clear c2b0
                    try clear p2
                    try clear c3
                    try clear c3b0
                    try clear c4
                    try clear c4b0
                    try clear c6
                    try clear p6
                    try clear c8
                    try clear c8b0
                    try clear c8b1
                    try clear c12
                    try clear c14
                    try clear c14b0
                    try clear c14b1
                    try clear c14b2
                    try clear p14
                    try clear q14
                    try clear hx14
                    try clear c16
                    try clear c20
                    try clear c20b0
                    try clear c20b1
                    try clear hcz10_0
                    try clear hcz10_1
                    try clear hcz11_0
                    try clear hcz11_1
                    try clear hcz17_0
                    try clear hcz17_1
                    try clear hcz22_0
                    try clear hcz22_1
                    try clear hcz23_0
                    try clear hcz23_1
                    try clear hcz7_0
                    try clear hcz7_1
                    try clear hfz10_0
                    try clear hfz10_1
                    try clear hfz11_0
                    try clear hfz11_1
                    try clear hfz17_0
                    try clear hfz17_1
                    try clear hfz22_0
                    try clear hfz22_1
                    try clear hfz23_0
                    try clear hfz23_1
                    try clear hfz7_0
                    try clear hfz7_1
                    try clear hx141_0
                    try clear hx141_1
                    try clear p1
                    try clear p141
                    try clear p2
                    try clear q1
                    try clear q141
                    obtain ⟨kq, x22_18, rfl, HA, HJ18, BK142, HB, HI⟩ := hcut
                    cases kq with
                    | zero => exact absurd HA.out (by simp [impl_PlanText.j2])
                    | succ kj18 =>
                      have H := HA.out
                      clear HA
                      simp only [impl_PlanText.j2] at H
                      by_cases c24 : x22_18 = true
                      · subst c24
                        have H1 : ((impl_WS.f x3_1 (⟨#[100, 111, 119, 110, 32]⟩ : ByteArray)).bind fun t147 => (if ((rd_T70 l0 x8_1).f1).size + 1 ≤ 9223372036854775807 then ((impl_WS.f t147 (((rd_T70 l0 x8_1).f1) ++ (⟨#[10]⟩ : ByteArray))).bind fun t148 => (impl_PlanText.l0 kj18 t148 l0 (l0.length : Int) (wrap64 (x8_1 + 1)))) else (none))) = some r := by rw [if_pos rfl] at H; exact H
                        clear H
                        have H := H1
                        clear H1
                        replace H := Option.bind_eq_some_iff.mp H
                        obtain ⟨t147, A250, H⟩ := H
                        replace H : (if ((rd_T70 l0 x8_1).f1).size + 1 ≤ 9223372036854775807 then ((impl_WS.f t147 (((rd_T70 l0 x8_1).f1) ++ (⟨#[10]⟩ : ByteArray))).bind fun t148 => (impl_PlanText.l0 kj18 t148 l0 (l0.length : Int) (wrap64 (x8_1 + 1)))) else (none)) = some r := H
                        have A25 := Aside0.mk A250
                        clear A250
                        by_cases c26 : ((rd_T70 l0 x8_1).f1).size + 1 ≤ 9223372036854775807
                        · rw [if_pos c26] at H
                          have c26b0 := eq_true c26
                          have c26b1 : decide (((rd_T70 l0 x8_1).f1).size + 1 ≤ 9223372036854775807) = true := decide_eq_true c26
                          try have c26b2 : (9223372036854775807 < ((rd_T70 l0 x8_1).f1).size + 1) = False := eq_false (Nat.not_lt.2 c26)
                          replace H := Option.bind_eq_some_iff.mp H
                          obtain ⟨t148, A270, H⟩ := H
                          replace H : (impl_PlanText.l0 kj18 t148 l0 (l0.length : Int) (wrap64 (x8_1 + 1))) = some r := H
                          have A27 := Aside0.mk A270
                          clear A270
                          have H' := Aside0.mk H
                          clear H
                          go_wp2_with (first | ((with_reducible refine gate_callee (f := 60) rfl ?_); refine goesL_ _ rfl rfl Try.func60 (by kernel_rfl) rfl #[.pointer (some ⟨gbx, 0, none⟩), .string (⟨#[100, 111, 119, 110, 32]⟩ : ByteArray)] rfl (by (try simp only [List.map_toArray, List.map_cons, List.map_nil]); first | done | rfl | (simp only [List.length_drop, List.length_take]; rfl)) ?_; refine (impl_WS.calls w.heap.size gbx x3_1 (⟨#[100, 111, 119, 110, 32]⟩ : ByteArray) t147 _ A25.out (bldn_out (by repeat (first | (with_reducible first | exact HI.out | apply bldn_alloc | apply bldn_drewN | apply bldn_drew1 | refine bldn_set ?_ GN142.out) | exact HI.out))) (below_size (by repeat (first | (with_reducible first | exact HB.out | apply below_alloc | apply pw_below_drewN | apply below_drew1 | refine below_set ?_ GE142.out) | exact HB.out)))).mono ?_; rintro e w28 ⟨rfl, hi_, hb, hk_⟩; refine ⟨_, rfl, ?_⟩; have n0_ := Aside0.mk (hk_ gb142 (.cells #[.int .i64 ((rd_T70 l0 x8_1).f0), .string ((rd_T70 l0 x8_1).f1)] 70 (0, 0)) (by (with_reducible repeat (first | refine blk_drewN ?_ _ | refine blk_drew ?_ | refine blk_alloc ?_ _)); exact BK142.out) (bld_ne (bldn_out (by repeat (first | (with_reducible first | exact HI.out | apply bldn_alloc | apply bldn_drewN | apply bldn_drew1 | refine bldn_set ?_ GN142.out) | exact HI.out))) (k := gb142) (by (with_reducible repeat (first | refine blk_drewN ?_ _ | refine blk_drew ?_ | refine blk_alloc ?_ _)); exact BK142.out) (by decide)) (by intro c_ fz_ h_; injection h_ with _ h2_ _; exact absurd h2_ (by decide))); have n1_ := Aside0.mk (Below.trans (by repeat (first | (with_reducible first | exact HB.out | apply below_alloc | apply pw_below_drewN | apply below_drew1 | refine below_set ?_ GE142.out) | exact HB.out)) hb); clear BK142; clear HB; have BK142 := n0_; have HB := n1_; clear n0_ n1_; (try clear hb); (try clear hb2); (try clear hk); (try clear hi); have hcz29_0 : w28.cell? ⟨gb142, 0, none⟩ = some (.int .i64 ((rd_T70 l0 x8_1).f0)) := (blk_cell BK142.out 0).trans rfl; have hcz29_1 : w28.cell? ⟨gb142, 1, none⟩ = some (.string ((rd_T70 l0 x8_1).f1)) := (blk_cell BK142.out 1).trans rfl; have hfz29_0 := blk_frozen BK142.out 0; have hfz29_1 := blk_frozen BK142.out 1; clear HI; have HI := Aside0.mk (bldn_start hi_); clear hi_ hk_) | ((with_reducible refine gate_callee (f := 60) rfl ?_); refine goesL_ _ rfl rfl Try.func60 (by kernel_rfl) rfl #[.pointer (some ⟨gbx, 0, none⟩), .string (((rd_T70 l0 x8_1).f1) ++ (⟨#[10]⟩ : ByteArray))] rfl (by (try simp only [List.map_toArray, List.map_cons, List.map_nil]); first | done | rfl | (simp only [List.length_drop, List.length_take]; rfl)) ?_; refine (impl_WS.calls w.heap.size gbx t147 (((rd_T70 l0 x8_1).f1) ++ (⟨#[10]⟩ : ByteArray)) t148 _ A27.out (bldn_out (by repeat (first | (with_reducible first | exact HI.out | apply bldn_alloc | apply bldn_drewN | apply bldn_drew1 | refine bldn_set ?_ GN142.out) | exact HI.out))) (below_size (by repeat (first | (with_reducible first | exact HB.out | apply below_alloc | apply pw_below_drewN | apply below_drew1 | refine below_set ?_ GE142.out) | exact HB.out)))).mono ?_; rintro e w30 ⟨rfl, hi_, hb, hk_⟩; refine ⟨_, rfl, ?_⟩; have n0_ := Aside0.mk (hk_ gb142 (.cells #[.int .i64 ((rd_T70 l0 x8_1).f0), .string ((rd_T70 l0 x8_1).f1)] 70 (0, 0)) (by (with_reducible repeat (first | refine blk_drewN ?_ _ | refine blk_drew ?_ | refine blk_alloc ?_ _)); exact BK142.out) (bld_ne (bldn_out (by repeat (first | (with_reducible first | exact HI.out | apply bldn_alloc | apply bldn_drewN | apply bldn_drew1 | refine bldn_set ?_ GN142.out) | exact HI.out))) (k := gb142) (by (with_reducible repeat (first | refine blk_drewN ?_ _ | refine blk_drew ?_ | refine blk_alloc ?_ _)); exact BK142.out) (by decide)) (by intro c_ fz_ h_; injection h_ with _ h2_ _; exact absurd h2_ (by decide))); have n1_ := Aside0.mk (Below.trans (by repeat (first | (with_reducible first | exact HB.out | apply below_alloc | apply pw_below_drewN | apply below_drew1 | refine below_set ?_ GE142.out) | exact HB.out)) hb); clear BK142; clear HB; have BK142 := n0_; have HB := n1_; clear n0_ n1_; (try clear hb); (try clear hb2); (try clear hk); (try clear hi); clear HI; have HI := Aside0.mk (bldn_start hi_); clear hi_ hk_))
                          go_roundg kj18
                          case measure => have := HK1.out; have := HJ4.out; have := HJ18.out; omega
                          case rel => exact ⟨(t148), (wrap64 (x8_1 + 1)), (by first | rfl | (simp; done) | (simp [*]; done)), H', ⟨by have := HK1.out; have := HJ4.out; have := HJ18.out; omega⟩, ⟨by repeat (first | (with_reducible first | exact HB.out | apply below_alloc | apply pw_below_drewN | apply below_drew1 | refine below_set ?_ GE142.out) | exact HB.out)⟩, ⟨bldn_out (by repeat (first | (with_reducible first | exact HI.out | apply bldn_alloc | apply bldn_drewN | apply bldn_drew1 | refine bldn_set ?_ GN142.out) | exact HI.out))⟩⟩
                        · rw [if_neg c26] at H
                          exact absurd H (by simp)
                      · replace c24 := Bool.eq_false_iff.mpr c24
                        subst c24
                        have H1 : (if ((rd_T70 l0 x8_1).f0) = 2 then ((impl_idOk.f kj18 ((rd_T70 l0 x8_1).f1)).bind fun t149 => (impl_PlanText.j3 kj18 x3_1 l0 (l0.length : Int) x8_1 t149 ((rd_T70 l0 x8_1).f0) ((rd_T70 l0 x8_1).f1))) else (impl_PlanText.j3 kj18 x3_1 l0 (l0.length : Int) x8_1 false ((rd_T70 l0 x8_1).f0) ((rd_T70 l0 x8_1).f1))) = some r := by rw [if_neg (show ¬ (false = true) by decide)] at H; exact H
                        clear H
                        have H := H1
                        clear H1
                        have HC31 := Aside0.mk H
                        clear H
                        go_upto_region 10 with (fail)
                        go_cut [32] (fun v32 wc => ∃ (kq : Nat) (x32_30 : Bool), v32 = .bool x32_30 ∧ Aside0 (impl_PlanText.j3 kq x3_1 l0 (l0.length : Int) x8_1 x32_30 ((rd_T70 l0 x8_1).f0) ((rd_T70 l0 x8_1).f1) = some r) ∧ Aside0 (kq ≤ kj18) ∧ Aside0 (wc.heap[gb142]? = some (.cells #[.int .i64 ((rd_T70 l0 x8_1).f0), .string ((rd_T70 l0 x8_1).f1)] 70 (0, 0))) ∧ Aside0 (Below w.heap.size w wc) ∧ Aside0 (BldN w.heap.size gbx x3_1 wr.heap.size wc))
                        case first =>
                          have H := HC31.out
                          clear HC31
                          by_cases c32 : ((rd_T70 l0 x8_1).f0) = 2
                          · rw [if_pos c32] at H
                            have c32b0 : (((rd_T70 l0 x8_1).f0) == 2) = true := beq_iff_eq.mpr c32
                            have c32b1 : (((rd_T70 l0 x8_1).f0) != 2) = false := bne_eq_false_iff_eq.mpr c32
                            clear c32
                            (first | rw [c32b0] | (simp only [i64_w, i32_w]; rw [c32b0]) | skip)
                            replace H := Option.bind_eq_some_iff.mp H
                            obtain ⟨t149, A330, H⟩ := H
                            replace H : (impl_PlanText.j3 kj18 x3_1 l0 (l0.length : Int) x8_1 t149 ((rd_T70 l0 x8_1).f0) ((rd_T70 l0 x8_1).f1)) = some r := H
                            have A33 := Aside0.mk A330
                            clear A330
                            have H' := Aside0.mk H
                            clear H
                            have hcz34_0 : wc.cell? ⟨gb142, 0, none⟩ = some (.int .i64 ((rd_T70 l0 x8_1).f0)) := (blk_cell BK142.out 0).trans rfl
                            have hcz34_1 : wc.cell? ⟨gb142, 1, none⟩ = some (.string ((rd_T70 l0 x8_1).f1)) := (blk_cell BK142.out 1).trans rfl
                            have hfz34_0 := blk_frozen BK142.out 0
                            have hfz34_1 := blk_frozen BK142.out 1
                            go_wp2_with (first | (go_at_call 61; (with_reducible refine (impl_idOk.calls kj18 ((rd_T70 l0 x8_1).f1) t149 _ A33.out).mono ?_); rintro e w' ⟨rfl, ⟨nd, rfl⟩⟩))
                            go_meet
                            case rel => exact ⟨_, (t149), (by first | rfl | (simp; done) | (simp [*]; done)), H', ⟨by have := HK1.out; have := HJ4.out; have := HJ18.out; first | omega | exact Nat.le_refl _⟩, ⟨by (with_reducible repeat (first | refine blk_drewN ?_ _ | refine blk_drew ?_ | refine blk_alloc ?_ _)); exact BK142.out⟩, ⟨by repeat (first | (with_reducible first | exact HB.out | apply below_alloc | apply pw_below_drewN | apply below_drew1 | refine below_set ?_ GE142.out) | exact HB.out)⟩, ⟨(by repeat (first | (with_reducible first | exact HI.out | apply bldn_alloc | apply bldn_drewN | apply bldn_drew1 | refine bldn_set ?_ GN142.out) | exact HI.out))⟩⟩
                          · rw [if_neg c32] at H
                            have c32b0 : (((rd_T70 l0 x8_1).f0) == 2) = false := beq_eq_false_iff_ne.mpr c32
                            have c32b1 : (((rd_T70 l0 x8_1).f0) != 2) = true := bne_iff_ne.mpr c32
                            (first | rw [c32b0] | (simp only [i64_w, i32_w]; rw [c32b0]) | skip)
                            have H' := Aside0.mk H
                            clear H
                            have hcz35_0 : wc.cell? ⟨gb142, 0, none⟩ = some (.int .i64 ((rd_T70 l0 x8_1).f0)) := (blk_cell BK142.out 0).trans rfl
                            have hcz35_1 : wc.cell? ⟨gb142, 1, none⟩ = some (.string ((rd_T70 l0 x8_1).f1)) := (blk_cell BK142.out 1).trans rfl
                            have hfz35_0 := blk_frozen BK142.out 0
                            have hfz35_1 := blk_frozen BK142.out 1
                            go_wp2
                            go_meet
                            case rel => exact ⟨_, (false), (by first | rfl | (simp; done) | (simp [*]; done)), H', ⟨by have := HK1.out; have := HJ4.out; have := HJ18.out; first | omega | exact Nat.le_refl _⟩, ⟨by (with_reducible repeat (first | refine blk_drewN ?_ _ | refine blk_drew ?_ | refine blk_alloc ?_ _)); exact BK142.out⟩, ⟨by repeat (first | (with_reducible first | exact HB.out | apply below_alloc | apply pw_below_drewN | apply below_drew1 | refine below_set ?_ GE142.out) | exact HB.out)⟩, ⟨(by repeat (first | (with_reducible first | exact HI.out | apply bldn_alloc | apply bldn_drewN | apply bldn_drew1 | refine bldn_set ?_ GN142.out) | exact HI.out))⟩⟩
                        case rest =>
                          clear HC31
                          try clear c1
                          try clear p1
                          try clear q1
                          try clear hx1
                          try clear c2
                          try clear c2b0
                          try clear p2
                          try clear c3
                          try clear c3b0
                          try clear c4
                          try clear c4b0
                          try clear c6
                          try clear p6
                          try clear c8
                          try clear c8b0
                          try clear c8b1
                          try clear c12
                          try clear c14
                          try clear c14b0
                          try clear c14b1
                          try clear c14b2
                          try clear p14
                          try clear q14
                          try clear hx14
                          try clear c16
                          try clear c20
                          try clear c20b0
                          try clear c20b1
                          try clear c24
                          try clear c26
                          try clear c26b0
                          try clear c26b1
                          try clear c26b2
                          try clear c32
                          try clear c32b0
                          try clear c32b1
                          try clear hcz10_0
                          try clear hcz10_1
                          try clear hcz11_0
                          try clear hcz11_1
                          try clear hcz17_0
                          try clear hcz17_1
                          try clear hcz22_0
                          try clear hcz22_1
                          try clear hcz23_0
                          try clear hcz23_1
                          try clear hcz29_0
                          try clear hcz29_1
                          try clear hcz34_0
                          try clear hcz34_1
                          try clear hcz35_0
                          try clear hcz35_1
                          try clear hcz7_0
                          try clear hcz7_1
                          try clear hfz10_0
                          try clear hfz10_1
                          try clear hfz11_0
                          try clear hfz11_1
                          try clear hfz17_0
                          try clear hfz17_1
                          try clear hfz22_0
                          try clear hfz22_1
                          try clear hfz23_0
                          try clear hfz23_1
                          try clear hfz29_0
                          try clear hfz29_1
                          try clear hfz34_0
                          try clear hfz34_1
                          try clear hfz35_0
                          try clear hfz35_1
                          try clear hfz7_0
                          try clear hfz7_1
                          try clear hx141_0
                          try clear hx141_1
                          try clear p1
                          try clear p14
                          try clear p141
                          try clear p2
                          try clear p6
                          try clear q1
                          try clear q14
                          try clear q141
                          obtain ⟨kq, x32_30, rfl, HA, HJ30, BK142, HB, HI⟩ := hcut
                          cases kq with
                          | zero => exact absurd HA.out (by simp [impl_PlanText.j3])
                          | succ kj30 =>
                            have H := HA.out
                            clear HA
                            simp only [impl_PlanText.j3] at H
                            by_cases c36 : x32_30 = true
                            · subst c36
                              have H1 : ((impl_WS.f x3_1 (⟨#[116, 101, 115, 116, 32]⟩ : ByteArray)).bind fun t150 => (if ((rd_T70 l0 x8_1).f1).size + 1 ≤ 9223372036854775807 then ((impl_WS.f t150 (((rd_T70 l0 x8_1).f1) ++ (⟨#[10]⟩ : ByteArray))).bind fun t151 => (impl_PlanText.l0 kj30 t151 l0 (l0.length : Int) (wrap64 (x8_1 + 1)))) else (none))) = some r := by rw [if_pos rfl] at H; exact H
                              clear H
                              have H := H1
                              clear H1
                              replace H := Option.bind_eq_some_iff.mp H
                              obtain ⟨t150, A370, H⟩ := H
                              replace H : (if ((rd_T70 l0 x8_1).f1).size + 1 ≤ 9223372036854775807 then ((impl_WS.f t150 (((rd_T70 l0 x8_1).f1) ++ (⟨#[10]⟩ : ByteArray))).bind fun t151 => (impl_PlanText.l0 kj30 t151 l0 (l0.length : Int) (wrap64 (x8_1 + 1)))) else (none)) = some r := H
                              have A37 := Aside0.mk A370
                              clear A370
                              by_cases c38 : ((rd_T70 l0 x8_1).f1).size + 1 ≤ 9223372036854775807
                              · rw [if_pos c38] at H
                                have c38b0 := eq_true c38
                                have c38b1 : decide (((rd_T70 l0 x8_1).f1).size + 1 ≤ 9223372036854775807) = true := decide_eq_true c38
                                try have c38b2 : (9223372036854775807 < ((rd_T70 l0 x8_1).f1).size + 1) = False := eq_false (Nat.not_lt.2 c38)
                                replace H := Option.bind_eq_some_iff.mp H
                                obtain ⟨t151, A390, H⟩ := H
                                replace H : (impl_PlanText.l0 kj30 t151 l0 (l0.length : Int) (wrap64 (x8_1 + 1))) = some r := H
                                have A39 := Aside0.mk A390
                                clear A390
                                have H' := Aside0.mk H
                                clear H
                                go_wp2_with (first | ((with_reducible refine gate_callee (f := 60) rfl ?_); refine goesL_ _ rfl rfl Try.func60 (by kernel_rfl) rfl #[.pointer (some ⟨gbx, 0, none⟩), .string (⟨#[116, 101, 115, 116, 32]⟩ : ByteArray)] rfl (by (try simp only [List.map_toArray, List.map_cons, List.map_nil]); first | done | rfl | (simp only [List.length_drop, List.length_take]; rfl)) ?_; refine (impl_WS.calls w.heap.size gbx x3_1 (⟨#[116, 101, 115, 116, 32]⟩ : ByteArray) t150 _ A37.out (bldn_out (by repeat (first | (with_reducible first | exact HI.out | apply bldn_alloc | apply bldn_drewN | apply bldn_drew1 | refine bldn_set ?_ GN142.out) | exact HI.out))) (below_size (by repeat (first | (with_reducible first | exact HB.out | apply below_alloc | apply pw_below_drewN | apply below_drew1 | refine below_set ?_ GE142.out) | exact HB.out)))).mono ?_; rintro e w40 ⟨rfl, hi_, hb, hk_⟩; refine ⟨_, rfl, ?_⟩; have n0_ := Aside0.mk (hk_ gb142 (.cells #[.int .i64 ((rd_T70 l0 x8_1).f0), .string ((rd_T70 l0 x8_1).f1)] 70 (0, 0)) (by (with_reducible repeat (first | refine blk_drewN ?_ _ | refine blk_drew ?_ | refine blk_alloc ?_ _)); exact BK142.out) (bld_ne (bldn_out (by repeat (first | (with_reducible first | exact HI.out | apply bldn_alloc | apply bldn_drewN | apply bldn_drew1 | refine bldn_set ?_ GN142.out) | exact HI.out))) (k := gb142) (by (with_reducible repeat (first | refine blk_drewN ?_ _ | refine blk_drew ?_ | refine blk_alloc ?_ _)); exact BK142.out) (by decide)) (by intro c_ fz_ h_; injection h_ with _ h2_ _; exact absurd h2_ (by decide))); have n1_ := Aside0.mk (Below.trans (by repeat (first | (with_reducible first | exact HB.out | apply below_alloc | apply pw_below_drewN | apply below_drew1 | refine below_set ?_ GE142.out) | exact HB.out)) hb); clear BK142; clear HB; have BK142 := n0_; have HB := n1_; clear n0_ n1_; (try clear hb); (try clear hb2); (try clear hk); (try clear hi); have hcz41_0 : w40.cell? ⟨gb142, 0, none⟩ = some (.int .i64 ((rd_T70 l0 x8_1).f0)) := (blk_cell BK142.out 0).trans rfl; have hcz41_1 : w40.cell? ⟨gb142, 1, none⟩ = some (.string ((rd_T70 l0 x8_1).f1)) := (blk_cell BK142.out 1).trans rfl; have hfz41_0 := blk_frozen BK142.out 0; have hfz41_1 := blk_frozen BK142.out 1; clear HI; have HI := Aside0.mk (bldn_start hi_); clear hi_ hk_) | ((with_reducible refine gate_callee (f := 60) rfl ?_); refine goesL_ _ rfl rfl Try.func60 (by kernel_rfl) rfl #[.pointer (some ⟨gbx, 0, none⟩), .string (((rd_T70 l0 x8_1).f1) ++ (⟨#[10]⟩ : ByteArray))] rfl (by (try simp only [List.map_toArray, List.map_cons, List.map_nil]); first | done | rfl | (simp only [List.length_drop, List.length_take]; rfl)) ?_; refine (impl_WS.calls w.heap.size gbx t150 (((rd_T70 l0 x8_1).f1) ++ (⟨#[10]⟩ : ByteArray)) t151 _ A39.out (bldn_out (by repeat (first | (with_reducible first | exact HI.out | apply bldn_alloc | apply bldn_drewN | apply bldn_drew1 | refine bldn_set ?_ GN142.out) | exact HI.out))) (below_size (by repeat (first | (with_reducible first | exact HB.out | apply below_alloc | apply pw_below_drewN | apply below_drew1 | refine below_set ?_ GE142.out) | exact HB.out)))).mono ?_; rintro e w42 ⟨rfl, hi_, hb, hk_⟩; refine ⟨_, rfl, ?_⟩; have n0_ := Aside0.mk (hk_ gb142 (.cells #[.int .i64 ((rd_T70 l0 x8_1).f0), .string ((rd_T70 l0 x8_1).f1)] 70 (0, 0)) (by (with_reducible repeat (first | refine blk_drewN ?_ _ | refine blk_drew ?_ | refine blk_alloc ?_ _)); exact BK142.out) (bld_ne (bldn_out (by repeat (first | (with_reducible first | exact HI.out | apply bldn_alloc | apply bldn_drewN | apply bldn_drew1 | refine bldn_set ?_ GN142.out) | exact HI.out))) (k := gb142) (by (with_reducible repeat (first | refine blk_drewN ?_ _ | refine blk_drew ?_ | refine blk_alloc ?_ _)); exact BK142.out) (by decide)) (by intro c_ fz_ h_; injection h_ with _ h2_ _; exact absurd h2_ (by decide))); have n1_ := Aside0.mk (Below.trans (by repeat (first | (with_reducible first | exact HB.out | apply below_alloc | apply pw_below_drewN | apply below_drew1 | refine below_set ?_ GE142.out) | exact HB.out)) hb); clear BK142; clear HB; have BK142 := n0_; have HB := n1_; clear n0_ n1_; (try clear hb); (try clear hb2); (try clear hk); (try clear hi); clear HI; have HI := Aside0.mk (bldn_start hi_); clear hi_ hk_))
                                go_roundg kj30
                                case measure => have := HK1.out; have := HJ4.out; have := HJ18.out; have := HJ30.out; omega
                                case rel => exact ⟨(t151), (wrap64 (x8_1 + 1)), (by first | rfl | (simp; done) | (simp [*]; done)), H', ⟨by have := HK1.out; have := HJ4.out; have := HJ18.out; have := HJ30.out; omega⟩, ⟨by repeat (first | (with_reducible first | exact HB.out | apply below_alloc | apply pw_below_drewN | apply below_drew1 | refine below_set ?_ GE142.out) | exact HB.out)⟩, ⟨bldn_out (by repeat (first | (with_reducible first | exact HI.out | apply bldn_alloc | apply bldn_drewN | apply bldn_drew1 | refine bldn_set ?_ GN142.out) | exact HI.out))⟩⟩
                              · rw [if_neg c38] at H
                                exact absurd H (by simp)
                            · replace c36 := Bool.eq_false_iff.mpr c36
                              subst c36
                              have H1 : (some (⟨#[]⟩ : ByteArray)) = some r := by rw [if_neg (show ¬ (false = true) by decide)] at H; exact H
                              clear H
                              have H := H1
                              clear H1
                              obtain rfl := Option.some.inj H
                              go_wp2
                              go_ret
                              exact ⟨by first | rfl | (simp [errW_none, errW_some] <;> rfl) | (simp [*, errW_none, errW_some] <;> rfl), by repeat (first | (with_reducible first | exact HB.out | apply below_alloc | apply pw_below_drewN | apply below_drew1 | refine below_set ?_ GE142.out) | exact HB.out)⟩
          · rw [if_neg c4] at H
            exact absurd H (by simp)
        · rw [if_neg c3] at H
          exact absurd H (by simp)
      · rw [if_neg c2] at H
        have c2b0 : decide (x8_1 < (l0.length : Int)) = false := decide_eq_false c2
        clear c2
        replace H := Option.bind_eq_some_iff.mp H
        obtain ⟨t140, A430, H⟩ := H
        replace H : (some t140) = some r := H
        have A43 := Aside0.mk A430
        clear A430
        obtain rfl := Option.some.inj H
        go_wp2_with (first | ((with_reducible refine gate_callee (f := 62) rfl ?_); refine goesL_ _ rfl rfl Try.func62 (by kernel_rfl) rfl #[.pointer (some ⟨gbx, 0, none⟩)] rfl (by (try simp only [List.map_toArray, List.map_cons, List.map_nil]); first | done | rfl | (simp only [List.length_drop, List.length_take]; rfl)) ?_; refine (impl_ST.calls w.heap.size gbx x3_1 t140 _ A43.out (bldn_out (by repeat (first | (with_reducible first | exact HI.out | apply bldn_alloc | apply bldn_drewN | apply bldn_drew1 | refine bldn_set ?_ GN142.out) | exact HI.out))) (below_size (by repeat (first | (with_reducible first | exact HB.out | apply below_alloc | apply pw_below_drewN | apply below_drew1 | refine below_set ?_ GE142.out) | exact HB.out)))).mono ?_; rintro e w44 ⟨rfl, hb, hk_⟩; refine ⟨_, rfl, ?_⟩; have n0_ := Aside0.mk (Below.trans (by repeat (first | (with_reducible first | exact HB.out | apply below_alloc | apply pw_below_drewN | apply below_drew1) | exact HB.out)) hb); clear HB; have HB := n0_; clear n0_; (try clear hb); (try clear hb2); (try clear hk); (try clear hi); clear hk_))
        go_ret
        exact ⟨by first | rfl | (simp [errW_none, errW_some] <;> rfl) | (simp [*, errW_none, errW_some] <;> rfl), by repeat (first | (with_reducible first | exact HB.out | apply below_alloc | apply pw_below_drewN | apply below_drew1) | exact HB.out)⟩

/-! ### laws_eqEvent: function 63 -/
def laws_eqEvent.f (a0_0 : Int) (a0_1 : ByteArray) (a1_0 : Int) (a1_1 : ByteArray) : Option (Bool) := if a0_0 = a1_0 then (if a0_1.toList = a1_1.toList then (some true) else (some false)) else (some false)
set_option maxHeartbeats 8000000 in
set_option maxRecDepth 100000 in
theorem laws_eqEvent.calls (a0_0 : Int) (a0_1 : ByteArray) (a1_0 : Int) (a1_1 : ByteArray) (r : Bool) (w : World) (h : laws_eqEvent.f a0_0 a0_1 a1_0 a1_1 = some r) :
    Calls Try.prog 63 #[.agg #[.int .i64 a0_0, .string a0_1], .agg #[.int .i64 a1_0, .string a1_1]] w fun e w' => e = .returned (.bool r) ∧ Below w.heap.size w w' := by
  have hu70 := Try.underlying70
  have HB := Aside0.mk (Below.refl w.heap.size w)
  have H : (if a0_0 = a1_0 then (if a0_1.toList = a1_1.toList then (some true) else (some false)) else (some false)) = some r := h
  clear h
  by_cases c3 : a0_0 = a1_0
  · rw [if_pos c3] at H
    have c3b0 : (a0_0 == a1_0) = true := beq_iff_eq.mpr c3
    have c3b1 : (a0_0 != a1_0) = false := bne_eq_false_iff_eq.mpr c3
    clear c3
    by_cases c4 : a0_1.toList = a1_1.toList
    · rw [if_pos c4] at H
      have c4b0 : (a0_1.toList == a1_1.toList) = true := beq_iff_eq.mpr c4
      have c4b1 : (a0_1.toList != a1_1.toList) = false := bne_eq_false_iff_eq.mpr c4
      clear c4
      obtain rfl := Option.some.inj H
      go_enter Try.func63, Try.ntmps63
      go_wp2_with (first | ((with_reducible refine gate_dst (N := 2) rfl ?_); refine box_event ?hg (N := 2) ?hd (cs := #[.int .i64 a0_0, .string a0_1]) (t := 70) ?hr ?_; (case hd => rfl); (case hg => rfl); (case hr => first | (go_simp; done) | (go_simp; rfl)); intro gb140 hg w5 hbox hb; have n0_ := Aside0.mk (below_step (by repeat (first | (with_reducible first | exact HB.out | apply below_alloc | apply pw_below_drewN | apply below_drew1) | exact HB.out)) hb); have n1_ := Aside0.mk (hbox); have n2_ := Aside0.mk ((by rw [hg]; exact (below_size (by repeat (first | (with_reducible first | exact HB.out | apply below_alloc | apply pw_below_drewN | apply below_drew1) | exact HB.out))) : w.heap.size ≤ gb140)); have n3_ := Aside0.mk ((by rw [hg]; exact (below_size (by repeat (first | (with_reducible first | exact HB.out | apply below_alloc | apply pw_below_drewN | apply below_drew1) | exact HB.out))) : w.heap.size ≤ gb140)); clear HB; have HB := n0_; have BK140 := n1_; have GW140 := n2_; have GE140 := n3_; clear n0_ n1_ n2_ n3_; clear hb hbox hg) | ((with_reducible refine gate_dst (N := 3) rfl ?_); refine box_event ?hg (N := 3) ?hd (cs := #[.int .i64 a1_0, .string a1_1]) (t := 70) ?hr ?_; (case hd => rfl); (case hg => rfl); (case hr => first | (go_simp; done) | (go_simp; rfl)); intro gb141 hg w6 hbox hb; have n0_ := Aside0.mk (blk_below (g := gb140) (o := .cells #[.int .i64 a0_0, .string a0_1] 70 (0, 0)) (by (with_reducible repeat (first | refine blk_drewN ?_ _ | refine blk_drew ?_ | refine blk_alloc ?_ _)); exact BK140.out) hb); have n1_ := Aside0.mk (below_step (by repeat (first | (with_reducible first | exact HB.out | apply below_alloc | apply pw_below_drewN | apply below_drew1 | refine below_set ?_ GE140.out) | exact HB.out)) hb); have n2_ := Aside0.mk (hbox); have n3_ := Aside0.mk ((by rw [hg]; exact (below_size (by repeat (first | (with_reducible first | exact HB.out | apply below_alloc | apply pw_below_drewN | apply below_drew1 | refine below_set ?_ GE140.out) | exact HB.out))) : w.heap.size ≤ gb141)); have n4_ := Aside0.mk ((by rw [hg]; exact (below_size (by repeat (first | (with_reducible first | exact HB.out | apply below_alloc | apply pw_below_drewN | apply below_drew1 | refine below_set ?_ GE140.out) | exact HB.out))) : w.heap.size ≤ gb141)); have n5_ := Aside0.mk ((by rw [hg]; exact Nat.ne_of_lt (blk_lt (g := gb140) (o := .cells #[.int .i64 a0_0, .string a0_1] 70 (0, 0)) (by (with_reducible repeat (first | refine blk_drewN ?_ _ | refine blk_drew ?_ | refine blk_alloc ?_ _)); exact BK140.out)) : gb140 ≠ gb141)); have n6_ := Aside0.mk ((by rw [hg]; exact Nat.ne_of_gt (blk_lt (g := gb140) (o := .cells #[.int .i64 a0_0, .string a0_1] 70 (0, 0)) (by (with_reducible repeat (first | refine blk_drewN ?_ _ | refine blk_drew ?_ | refine blk_alloc ?_ _)); exact BK140.out)) : gb141 ≠ gb140)); clear BK140; clear HB; have BK140 := n0_; have HB := n1_; have BK141 := n2_; have GW141 := n3_; have GE141 := n4_; have NB140_141 := n5_; have NB141_140 := n6_; clear n0_ n1_ n2_ n3_ n4_ n5_ n6_; clear hb hbox hg; have hnb7 := NB140_141.out; have hnc7 := NB141_140.out; have hcz8_0 : w6.cell? ⟨gb140, 0, none⟩ = some (.int .i64 a0_0) := (blk_cell BK140.out 0).trans rfl; have hcz8_1 : w6.cell? ⟨gb140, 1, none⟩ = some (.string a0_1) := (blk_cell BK140.out 1).trans rfl; have hfz8_0 := blk_frozen BK140.out 0; have hfz8_1 := blk_frozen BK140.out 1; have hcz9_0 : w6.cell? ⟨gb141, 0, none⟩ = some (.int .i64 a1_0) := (blk_cell BK141.out 0).trans rfl; have hcz9_1 : w6.cell? ⟨gb141, 1, none⟩ = some (.string a1_1) := (blk_cell BK141.out 1).trans rfl; have hfz9_0 := blk_frozen BK141.out 0; have hfz9_1 := blk_frozen BK141.out 1))
      go_ret
      exact ⟨by first | rfl | (simp [errW_none, errW_some] <;> rfl) | (simp [*, errW_none, errW_some] <;> rfl), by repeat (first | (with_reducible first | exact HB.out | apply below_alloc | apply pw_below_drewN | apply below_drew1 | refine below_set ?_ GE140.out | refine below_set ?_ GE141.out) | exact HB.out)⟩
    · rw [if_neg c4] at H
      have c4b0 : (a0_1.toList == a1_1.toList) = false := beq_eq_false_iff_ne.mpr c4
      have c4b1 : (a0_1.toList != a1_1.toList) = true := bne_iff_ne.mpr c4
      obtain rfl := Option.some.inj H
      go_enter Try.func63, Try.ntmps63
      go_wp2_with (first | ((with_reducible refine gate_dst (N := 2) rfl ?_); refine box_event ?hg (N := 2) ?hd (cs := #[.int .i64 a0_0, .string a0_1]) (t := 70) ?hr ?_; (case hd => rfl); (case hg => rfl); (case hr => first | (go_simp; done) | (go_simp; rfl)); intro gb140 hg w10 hbox hb; have n0_ := Aside0.mk (below_step (by repeat (first | (with_reducible first | exact HB.out | apply below_alloc | apply pw_below_drewN | apply below_drew1) | exact HB.out)) hb); have n1_ := Aside0.mk (hbox); have n2_ := Aside0.mk ((by rw [hg]; exact (below_size (by repeat (first | (with_reducible first | exact HB.out | apply below_alloc | apply pw_below_drewN | apply below_drew1) | exact HB.out))) : w.heap.size ≤ gb140)); have n3_ := Aside0.mk ((by rw [hg]; exact (below_size (by repeat (first | (with_reducible first | exact HB.out | apply below_alloc | apply pw_below_drewN | apply below_drew1) | exact HB.out))) : w.heap.size ≤ gb140)); clear HB; have HB := n0_; have BK140 := n1_; have GW140 := n2_; have GE140 := n3_; clear n0_ n1_ n2_ n3_; clear hb hbox hg) | ((with_reducible refine gate_dst (N := 3) rfl ?_); refine box_event ?hg (N := 3) ?hd (cs := #[.int .i64 a1_0, .string a1_1]) (t := 70) ?hr ?_; (case hd => rfl); (case hg => rfl); (case hr => first | (go_simp; done) | (go_simp; rfl)); intro gb141 hg w11 hbox hb; have n0_ := Aside0.mk (blk_below (g := gb140) (o := .cells #[.int .i64 a0_0, .string a0_1] 70 (0, 0)) (by (with_reducible repeat (first | refine blk_drewN ?_ _ | refine blk_drew ?_ | refine blk_alloc ?_ _)); exact BK140.out) hb); have n1_ := Aside0.mk (below_step (by repeat (first | (with_reducible first | exact HB.out | apply below_alloc | apply pw_below_drewN | apply below_drew1 | refine below_set ?_ GE140.out) | exact HB.out)) hb); have n2_ := Aside0.mk (hbox); have n3_ := Aside0.mk ((by rw [hg]; exact (below_size (by repeat (first | (with_reducible first | exact HB.out | apply below_alloc | apply pw_below_drewN | apply below_drew1 | refine below_set ?_ GE140.out) | exact HB.out))) : w.heap.size ≤ gb141)); have n4_ := Aside0.mk ((by rw [hg]; exact (below_size (by repeat (first | (with_reducible first | exact HB.out | apply below_alloc | apply pw_below_drewN | apply below_drew1 | refine below_set ?_ GE140.out) | exact HB.out))) : w.heap.size ≤ gb141)); have n5_ := Aside0.mk ((by rw [hg]; exact Nat.ne_of_lt (blk_lt (g := gb140) (o := .cells #[.int .i64 a0_0, .string a0_1] 70 (0, 0)) (by (with_reducible repeat (first | refine blk_drewN ?_ _ | refine blk_drew ?_ | refine blk_alloc ?_ _)); exact BK140.out)) : gb140 ≠ gb141)); have n6_ := Aside0.mk ((by rw [hg]; exact Nat.ne_of_gt (blk_lt (g := gb140) (o := .cells #[.int .i64 a0_0, .string a0_1] 70 (0, 0)) (by (with_reducible repeat (first | refine blk_drewN ?_ _ | refine blk_drew ?_ | refine blk_alloc ?_ _)); exact BK140.out)) : gb141 ≠ gb140)); clear BK140; clear HB; have BK140 := n0_; have HB := n1_; have BK141 := n2_; have GW141 := n3_; have GE141 := n4_; have NB140_141 := n5_; have NB141_140 := n6_; clear n0_ n1_ n2_ n3_ n4_ n5_ n6_; clear hb hbox hg; have hnb12 := NB140_141.out; have hnc12 := NB141_140.out; have hcz13_0 : w11.cell? ⟨gb140, 0, none⟩ = some (.int .i64 a0_0) := (blk_cell BK140.out 0).trans rfl; have hcz13_1 : w11.cell? ⟨gb140, 1, none⟩ = some (.string a0_1) := (blk_cell BK140.out 1).trans rfl; have hfz13_0 := blk_frozen BK140.out 0; have hfz13_1 := blk_frozen BK140.out 1; have hcz14_0 : w11.cell? ⟨gb141, 0, none⟩ = some (.int .i64 a1_0) := (blk_cell BK141.out 0).trans rfl; have hcz14_1 : w11.cell? ⟨gb141, 1, none⟩ = some (.string a1_1) := (blk_cell BK141.out 1).trans rfl; have hfz14_0 := blk_frozen BK141.out 0; have hfz14_1 := blk_frozen BK141.out 1))
      go_ret
      exact ⟨by first | rfl | (simp [errW_none, errW_some] <;> rfl) | (simp [*, errW_none, errW_some] <;> rfl), by repeat (first | (with_reducible first | exact HB.out | apply below_alloc | apply pw_below_drewN | apply below_drew1 | refine below_set ?_ GE140.out | refine below_set ?_ GE141.out) | exact HB.out)⟩
  · rw [if_neg c3] at H
    have c3b0 : (a0_0 == a1_0) = false := beq_eq_false_iff_ne.mpr c3
    have c3b1 : (a0_0 != a1_0) = true := bne_iff_ne.mpr c3
    obtain rfl := Option.some.inj H
    go_enter Try.func63, Try.ntmps63
    go_wp2_with (first | ((with_reducible refine gate_dst (N := 2) rfl ?_); refine box_event ?hg (N := 2) ?hd (cs := #[.int .i64 a0_0, .string a0_1]) (t := 70) ?hr ?_; (case hd => rfl); (case hg => rfl); (case hr => first | (go_simp; done) | (go_simp; rfl)); intro gb140 hg w15 hbox hb; have n0_ := Aside0.mk (below_step (by repeat (first | (with_reducible first | exact HB.out | apply below_alloc | apply pw_below_drewN | apply below_drew1) | exact HB.out)) hb); have n1_ := Aside0.mk (hbox); have n2_ := Aside0.mk ((by rw [hg]; exact (below_size (by repeat (first | (with_reducible first | exact HB.out | apply below_alloc | apply pw_below_drewN | apply below_drew1) | exact HB.out))) : w.heap.size ≤ gb140)); have n3_ := Aside0.mk ((by rw [hg]; exact (below_size (by repeat (first | (with_reducible first | exact HB.out | apply below_alloc | apply pw_below_drewN | apply below_drew1) | exact HB.out))) : w.heap.size ≤ gb140)); clear HB; have HB := n0_; have BK140 := n1_; have GW140 := n2_; have GE140 := n3_; clear n0_ n1_ n2_ n3_; clear hb hbox hg) | ((with_reducible refine gate_dst (N := 3) rfl ?_); refine box_event ?hg (N := 3) ?hd (cs := #[.int .i64 a1_0, .string a1_1]) (t := 70) ?hr ?_; (case hd => rfl); (case hg => rfl); (case hr => first | (go_simp; done) | (go_simp; rfl)); intro gb141 hg w16 hbox hb; have n0_ := Aside0.mk (blk_below (g := gb140) (o := .cells #[.int .i64 a0_0, .string a0_1] 70 (0, 0)) (by (with_reducible repeat (first | refine blk_drewN ?_ _ | refine blk_drew ?_ | refine blk_alloc ?_ _)); exact BK140.out) hb); have n1_ := Aside0.mk (below_step (by repeat (first | (with_reducible first | exact HB.out | apply below_alloc | apply pw_below_drewN | apply below_drew1 | refine below_set ?_ GE140.out) | exact HB.out)) hb); have n2_ := Aside0.mk (hbox); have n3_ := Aside0.mk ((by rw [hg]; exact (below_size (by repeat (first | (with_reducible first | exact HB.out | apply below_alloc | apply pw_below_drewN | apply below_drew1 | refine below_set ?_ GE140.out) | exact HB.out))) : w.heap.size ≤ gb141)); have n4_ := Aside0.mk ((by rw [hg]; exact (below_size (by repeat (first | (with_reducible first | exact HB.out | apply below_alloc | apply pw_below_drewN | apply below_drew1 | refine below_set ?_ GE140.out) | exact HB.out))) : w.heap.size ≤ gb141)); have n5_ := Aside0.mk ((by rw [hg]; exact Nat.ne_of_lt (blk_lt (g := gb140) (o := .cells #[.int .i64 a0_0, .string a0_1] 70 (0, 0)) (by (with_reducible repeat (first | refine blk_drewN ?_ _ | refine blk_drew ?_ | refine blk_alloc ?_ _)); exact BK140.out)) : gb140 ≠ gb141)); have n6_ := Aside0.mk ((by rw [hg]; exact Nat.ne_of_gt (blk_lt (g := gb140) (o := .cells #[.int .i64 a0_0, .string a0_1] 70 (0, 0)) (by (with_reducible repeat (first | refine blk_drewN ?_ _ | refine blk_drew ?_ | refine blk_alloc ?_ _)); exact BK140.out)) : gb141 ≠ gb140)); clear BK140; clear HB; have BK140 := n0_; have HB := n1_; have BK141 := n2_; have GW141 := n3_; have GE141 := n4_; have NB140_141 := n5_; have NB141_140 := n6_; clear n0_ n1_ n2_ n3_ n4_ n5_ n6_; clear hb hbox hg; have hnb17 := NB140_141.out; have hnc17 := NB141_140.out; have hcz18_0 : w16.cell? ⟨gb140, 0, none⟩ = some (.int .i64 a0_0) := (blk_cell BK140.out 0).trans rfl; have hcz18_1 : w16.cell? ⟨gb140, 1, none⟩ = some (.string a0_1) := (blk_cell BK140.out 1).trans rfl; have hfz18_0 := blk_frozen BK140.out 0; have hfz18_1 := blk_frozen BK140.out 1; have hcz19_0 : w16.cell? ⟨gb141, 0, none⟩ = some (.int .i64 a1_0) := (blk_cell BK141.out 0).trans rfl; have hcz19_1 : w16.cell? ⟨gb141, 1, none⟩ = some (.string a1_1) := (blk_cell BK141.out 1).trans rfl; have hfz19_0 := blk_frozen BK141.out 0; have hfz19_1 := blk_frozen BK141.out 1))
    go_ret
    exact ⟨by first | rfl | (simp [errW_none, errW_some] <;> rfl) | (simp [*, errW_none, errW_some] <;> rfl), by repeat (first | (with_reducible first | exact HB.out | apply below_alloc | apply pw_below_drewN | apply below_drew1 | refine below_set ?_ GE140.out | refine below_set ?_ GE141.out) | exact HB.out)⟩

end Go.Proofs.Ytieghkchhjailaa.P
