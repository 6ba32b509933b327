-- WRITTEN by wip/ext.py
import Derived.Test.YtadhfpbkanobnaaUx0
import Derived.Test.YtadhfpbkanobnaaUx7
namespace Go.Proofs.Ytadhfpbkanobnaa.U
open Go.RowKit Go.Proofs.YtadhfpbkanobnaaW.PrintWords Go.Proofs.YtadhfpbkanobnaaW.PrintLast Go.Proofs.YtadhfpbkanobnaaW.PrintMore
attribute [local go_sem] max2_int min2_int max_two min_two max_three min_three max_four min_four   -- for this text's walks alone
set_option linter.unusedVariables false
set_option linter.unusedSimpArgs false

/-! ### impl_modulesOf: function 43 -/
def impl_modulesOf.l0 : Nat → List ByteArray → List (S31) → Int → Int → Option (List ByteArray)
  | 0, _, _, _, _ => none
  | k + 1, x3, x7, x8, x9 => if x9 < x8 then (if 0 ≤ x9 then (if x9 < (x7.length : Int) then ((slices_Contains_string_string.f k x3 ((rd_T31 x7 x9).f0)).bind fun t259 => (if t259 = true then (impl_modulesOf.l0 k x3 x7 x8 (wrap64 (x9 + 1))) else (if x3.length < 8796093022208 then (impl_modulesOf.l0 k (x3 ++ [(rd_T31 x7 x9).f0]) x7 x8 (wrap64 (x9 + 1))) else (none)))) else (none)) else (none)) else (some x3)
def impl_modulesOf.f (k : Nat) (l0 : List (S31)) : Option (List ByteArray) := impl_modulesOf.l0 k (([] : List ByteArray)) l0 (l0.length : Int) 0
theorem impl_modulesOf.mono_l : ∀ k, (∀ y0 y1 y2 y3, LeO (impl_modulesOf.l0 k y0 y1 y2 y3) (impl_modulesOf.l0 (k + 1) y0 y1 y2 y3))
  | 0 => fun _ _ _ _ r h => by simp [impl_modulesOf.l0] at h
  | k + 1 => by
    have ih0 := impl_modulesOf.mono_l k
    · intro y0 y1 y2 y3
      unfold impl_modulesOf.l0
      repeat' first
      | (with_reducible exact ih0 _ _ _ _)
      | (with_reducible exact slices_Contains_string_string.mono _ _ _)
      | (with_reducible exact LeO.refl _)
      | (with_reducible exact LeO.none _)
      | (with_reducible refine LeO.ite ?_ ?_)
      | (with_reducible refine LeO.bind ?_ (fun _ => ?_))
      | refine LeO.ite ?_ ?_
      | refine LeO.bind ?_ (fun _ => ?_)
theorem impl_modulesOf.mono : ∀ a0 k, LeO (impl_modulesOf.f k a0) (impl_modulesOf.f (k + 1) a0) := by
  intro a0 k
  have ih0 := impl_modulesOf.mono_l k
  unfold impl_modulesOf.f
  repeat' first
      | (with_reducible exact ih0 _ _ _ _)
      | (with_reducible exact slices_Contains_string_string.mono _ _ _)
      | (with_reducible exact LeO.refl _)
      | (with_reducible exact LeO.none _)
      | (with_reducible refine LeO.ite ?_ ?_)
      | (with_reducible refine LeO.bind ?_ (fun _ => ?_))
      | refine LeO.ite ?_ ?_
      | refine LeO.bind ?_ (fun _ => ?_)
set_option maxHeartbeats 8000000 in
set_option maxRecDepth 100000 in
theorem impl_modulesOf.calls (k : Nat) (A0 : Option Addr) (c0 : Nat) (l0 : List (S31)) (r : List ByteArray) (w : World) (hr0 : Kd.C k31 w A0 l0.length l0) (hc0 : l0.length ≤ c0) (h : impl_modulesOf.f k l0 = some r) :
    Calls Try.prog 43 #[.slice A0 l0.length c0] w fun e w' => ∃ v0_ : Value, e = .returned (v0_) ∧ Kd.R Kd.string 9 w' w.heap.size (fun _ => True) v0_ r ∧ Below w.heap.size w w' := by
  have hu31 := Try.underlying31; have HR0 := Aside0.mk hr0; have HC0 := Aside0.mk hc0; clear hr0 hc0; have HB := Aside0.mk (Below.refl w.heap.size w)
  have H : (impl_modulesOf.l0 k (([] : List ByteArray)) l0 (l0.length : Int) 0) = some r := h
  clear h
  obtain ⟨y254, hy254⟩ : ∃ y_ : List ByteArray, y_ = (([] : List ByteArray)) := ⟨_, rfl⟩
  replace H : (impl_modulesOf.l0 k y254 l0 (l0.length : Int) 0) = some r := by first | (rw [hy254]; with_reducible exact H) | (have H2_ := (Option.bind_some _ _).symm.trans H; rw [hy254]; with_reducible exact H2_) | (have H2_ := (Option.bind_some _ _).symm.trans H; with_reducible exact H2_) | with_reducible exact H | (rw [hy254]; exact H) | exact H
  have Ny254 := Aside0.mk hy254; clear hy254; have H' := Aside0.mk H; clear H
  go_enter Try.func43, Try.ntmps43
  go_wp2_with (first | ((with_reducible refine gate_dst (N := 6) rfl ?_); refine Kd.R_lit Kd.string _ 9 ?hg (N := 6) ?hd (xs := ([] : List ByteArray)) (inner := []) (ok := fun _ => True) (okp := fun _ => True) ?hr ?hp (fun _ hk => hk) trivial (Below.refl _ _) (Nat.le_refl _) (by simp) ?_; (case hd => rfl); (case hg => rfl); (case hr => first | (go_simp; done) | (go_simp; rfl)); (case hp => exact (Reps.none _ _)); intro v255 w2 ho3 hb hg_ hnew_; clear hg_ hnew_; (first | rw [← Ny254.out] at ho3 | (simp only [Int.reduceToNat] at ho3; rw [← Ny254.out] at ho3)); have HO256 := Aside0.mk (Kd.R_lower ho3 (below_size (by repeat first | (with_reducible first | exact HB.out | apply below_alloc | apply pw_below_drewN | apply below_drew1) | exact HB.out))); replace HB := Aside0.mk (below_step (by repeat first | (with_reducible first | exact HB.out | apply below_alloc | apply pw_below_drewN | apply below_drew1) | exact HB.out) hb); clear hb ho3))
  go_loopg [3, 9] k (fun kq v3 v9 w' => ∃ (x3_1 : List ByteArray) (x9_1 : Int), v9 = .int .i64 x9_1 ∧ Aside0 (impl_modulesOf.l0 kq x3_1 l0 (l0.length : Int) x9_1 = some r) ∧ Aside0 (kq ≤ k) ∧ Aside0 (Kd.R Kd.string 9 w' w.heap.size (fun _ => True) v3 x3_1) ∧ Aside0 (Below w.heap.size w w'))
  case atStart => exact ⟨(y254), (0), (by first | rfl | (simp; done) | (simp [*]; done)), H', ⟨Nat.le_refl _⟩, ⟨by (with_reducible repeat first | apply Kd.R_alloc | apply Kd.R_drewN | apply Kd.R_drew); exact HO256.out⟩, ⟨by repeat (first | (with_reducible first | exact HB.out | apply below_alloc | apply pw_below_drewN | apply below_drew1) | exact HB.out)⟩⟩
  case round =>
    clear H'; try clear p2
    obtain ⟨x3_1, x9_1, rfl, HA, HK1, HO_3, HB⟩ := hrel
    cases gk with
    | zero => exact absurd HA.out (by simp [impl_modulesOf.l0])
    | succ k1 =>
      have H := HA.out; clear HA
      simp only [impl_modulesOf.l0] at H
      by_cases c4 : x9_1 < (l0.length : Int)
      · rw [if_pos c4] at H
        have c4b0 : decide (x9_1 < (l0.length : Int)) = true := decide_eq_true c4
        clear c4
        by_cases c5 : 0 ≤ x9_1
        · rw [if_pos c5] at H
          have c5b0 : decide (0 ≤ x9_1) = true := decide_eq_true c5
          clear c5
          by_cases c6 : x9_1 < (l0.length : Int)
          · rw [if_pos c6] at H
            have c6b0 : decide (x9_1 < (l0.length : Int)) = true := decide_eq_true c6
            clear c6
            replace H := Option.bind_eq_some_iff.mp H
            obtain ⟨t259, A70, H⟩ := H
            replace H : (if t259 = true then (impl_modulesOf.l0 k1 x3_1 l0 (l0.length : Int) (wrap64 (x9_1 + 1))) else (if x3_1.length < 8796093022208 then (impl_modulesOf.l0 k1 (x3_1 ++ [(rd_T31 l0 x9_1).f0]) l0 (l0.length : Int) (wrap64 (x9_1 + 1))) else (none))) = some r := H
            have A7 := Aside0.mk A70; clear A70
            by_cases c8 : t259 = true
            · subst c8
              have H1 : (impl_modulesOf.l0 k1 x3_1 l0 (l0.length : Int) (wrap64 (x9_1 + 1))) = some r := by rw [if_pos rfl] at H; exact H
              clear H; have H := H1; clear H1; have H' := Aside0.mk H; clear H
              have p257 : 0 ≤ (x9_1 : Int) := of_decide_eq_true (by first | (with_reducible assumption) | assumption)
              have q257 : x9_1 < (l0.length : Int) := of_decide_eq_true (by first | (with_reducible assumption) | assumption)
              obtain ⟨ad257, A257_2, c257_2, A257_3, c257_3, e257, hx257_0, hx257_1, hx257_2, hx257_3, hl257_2, hi257_2, hl257_3, hi257_3⟩ := at_T31 HR0.out x9_1 p257 q257
              cases e257
              replace hx257_0 := cup_ HB.out hx257_0; replace hx257_1 := cup_ HB.out hx257_1; replace hx257_2 := cup_ HB.out hx257_2; replace hx257_3 := cup_ HB.out hx257_3
              have HR257_2 := Aside0.mk hi257_2; have HC257_2 := Aside0.mk hl257_2; clear hi257_2 hl257_2; have HR257_3 := Aside0.mk hi257_3; have HC257_3 := Aside0.mk hl257_3; clear hi257_3 hl257_3
              replace p257 := eq_true p257
              replace q257 := eq_true q257
              go_wp2_with (first | ((with_reducible refine gate_dst (N := 5) rfl ?_); refine box_event ?hg (N := 5) ?hd (cs := #[.string (⟨#[]⟩ : ByteArray), .string (⟨#[]⟩ : ByteArray), .slice none 0 0, .slice none 0 0]) (t := 31) ?hr ?_; (case hd => rfl); (case hg => rfl); (case hr => first | (go_simp; done) | (go_simp; rfl)); intro gb258 hg w9 hbox hb; replace HO_3 := Aside0.mk (Kd.R_below (by (with_reducible repeat first | apply Kd.R_alloc | apply Kd.R_drewN | apply Kd.R_drew); exact HO_3.out) hb); have BK258 := Aside0.mk (hbox); have GW258 := Aside0.mk ((by rw [hg]; exact (below_size (by repeat first | (with_reducible first | exact HB.out | apply below_alloc | apply pw_below_drewN | apply below_drew1) | exact HB.out)) : w.heap.size ≤ gb258)); have GE258 := Aside0.mk ((by rw [hg]; exact (below_size (by repeat first | (with_reducible first | exact HB.out | apply below_alloc | apply pw_below_drewN | apply below_drew1) | exact HB.out)) : w.heap.size ≤ gb258)); replace HB := Aside0.mk (below_step (by repeat first | (with_reducible first | exact HB.out | apply below_alloc | apply pw_below_drewN | apply below_drew1) | exact HB.out) hb); clear hb hbox hg; have hcz10_0 : w9.cell? ⟨gb258, 0, none⟩ = some (.string (⟨#[]⟩ : ByteArray)) := (blk_cell BK258.out 0).trans rfl; have hcz10_1 : w9.cell? ⟨gb258, 1, none⟩ = some (.string (⟨#[]⟩ : ByteArray)) := (blk_cell BK258.out 1).trans rfl; have hcz10_2 : w9.cell? ⟨gb258, 2, none⟩ = some (.slice none 0 0) := (blk_cell BK258.out 2).trans rfl; have hcz10_3 : w9.cell? ⟨gb258, 3, none⟩ = some (.slice none 0 0) := (blk_cell BK258.out 3).trans rfl; have hfz10_0 := blk_frozen BK258.out 0; have hfz10_1 := blk_frozen BK258.out 1; have hfz10_2 := blk_frozen BK258.out 2; have hfz10_3 := blk_frozen BK258.out 3; obtain ⟨Ao11, co11, eo11⟩ := Kd.R_slice HO_3.out; subst eo11) | ((with_reducible refine gate_callee (f := 36) rfl ?_); refine goesL_ (some 16) rfl rfl Try.func36 (by kernel_rfl) rfl #[.slice Ao11 x3_1.length co11, .string ((rd_T31 l0 x9_1).f0)] rfl (by (try simp only [List.map_toArray, List.map_cons, List.map_nil]); first | done | rfl) ?_; (with_reducible refine (slices_Contains_string_string.calls k1 _ _ x3_1 ((rd_T31 l0 x9_1).f0) true _ ?side1 ?side2 A7.out).mono ?_); (case side1 => refine (Kd.R_reads' (e := 9) (base := w.heap.size) (ok := fun k_ => True) (n := x3_1.length) (c := co11) ?_).2.2; exact (by (with_reducible repeat first | apply Kd.R_alloc | apply Kd.R_drewN | apply Kd.R_drew); exact (Kd.R_mono (Kd.R_far (p := ⟨gb258, 3, none⟩) (Kd.R_far (p := ⟨gb258, 2, none⟩) (Kd.R_far (p := ⟨gb258, 1, none⟩) (Kd.R_far (p := ⟨gb258, 0, none⟩) (Kd.R_types HO_3.out BK258.out (by decide)) (fun _ hk => hk.2) (.string ((rd_T31 l0 x9_1).f0))) (fun _ hk => hk.2) (.string ((rd_T31 l0 x9_1).f1))) (fun _ hk => hk.2) (.slice A257_2 ((rd_T31 l0 x9_1).f2).length c257_2)) (fun _ hk => hk.2) (.slice A257_3 ((rd_T31 l0 x9_1).f3).length c257_3)) (fun _ h_ => h_.1)))); (case side2 => exact (Kd.R_reads' HO_3.out).2.1); rintro e w' ⟨rfl, ⟨nd, rfl⟩⟩; refine ⟨_, rfl, ?_⟩))
              go_roundg k1
              case measure => have := HK1.out; omega
              case rel => exact ⟨(x3_1), (wrap64 (x9_1 + 1)), (by first | rfl | (simp; done) | (simp [*]; done)), H', ⟨by have := HK1.out; omega⟩, ⟨by (with_reducible repeat first | apply Kd.R_alloc | apply Kd.R_drewN | apply Kd.R_drew); exact Kd.R_mono (Kd.R_far (p := ⟨gb258, 3, none⟩) (Kd.R_far (p := ⟨gb258, 2, none⟩) (Kd.R_far (p := ⟨gb258, 1, none⟩) (Kd.R_far (p := ⟨gb258, 0, none⟩) (Kd.R_types HO_3.out BK258.out (by decide)) (fun _ hk => hk.2) (.string ((rd_T31 l0 x9_1).f0))) (fun _ hk => hk.2) (.string ((rd_T31 l0 x9_1).f1))) (fun _ hk => hk.2) (.slice A257_2 ((rd_T31 l0 x9_1).f2).length c257_2)) (fun _ hk => hk.2) (.slice A257_3 ((rd_T31 l0 x9_1).f3).length c257_3)) (fun _ hk => trivial)⟩, ⟨by repeat (first | (with_reducible first | exact HB.out | apply below_alloc | apply pw_below_drewN | apply below_drew1 | refine below_set ?_ GE258.out) | exact HB.out)⟩⟩
            · replace c8 := Bool.eq_false_iff.mpr c8
              subst c8
              have H1 : (if x3_1.length < 8796093022208 then (impl_modulesOf.l0 k1 (x3_1 ++ [(rd_T31 l0 x9_1).f0]) l0 (l0.length : Int) (wrap64 (x9_1 + 1))) else (none)) = some r := by rw [if_neg (show ¬ (false = true) by decide)] at H; exact H
              clear H; have H := H1; clear H1
              by_cases c12 : x3_1.length < 8796093022208
              · rw [if_pos c12] at H
                have LMc12 := Aside0.mk c12; clear c12
                obtain ⟨y260, hy260⟩ : ∃ y_ : List ByteArray, y_ = (x3_1 ++ [(rd_T31 l0 x9_1).f0]) := ⟨_, rfl⟩
                replace H : (impl_modulesOf.l0 k1 y260 l0 (l0.length : Int) (wrap64 (x9_1 + 1))) = some r := by first | (rw [hy260]; with_reducible exact H) | (have H2_ := (Option.bind_some _ _).symm.trans H; rw [hy260]; with_reducible exact H2_) | (have H2_ := (Option.bind_some _ _).symm.trans H; with_reducible exact H2_) | with_reducible exact H | (rw [hy260]; exact H) | exact H
                have Ny260 := Aside0.mk hy260; clear hy260; have H' := Aside0.mk H; clear H
                have p257 : 0 ≤ (x9_1 : Int) := of_decide_eq_true (by first | (with_reducible assumption) | assumption)
                have q257 : x9_1 < (l0.length : Int) := of_decide_eq_true (by first | (with_reducible assumption) | assumption)
                obtain ⟨ad257, A257_2, c257_2, A257_3, c257_3, e257, hx257_0, hx257_1, hx257_2, hx257_3, hl257_2, hi257_2, hl257_3, hi257_3⟩ := at_T31 HR0.out x9_1 p257 q257
                cases e257
                replace hx257_0 := cup_ HB.out hx257_0; replace hx257_1 := cup_ HB.out hx257_1; replace hx257_2 := cup_ HB.out hx257_2; replace hx257_3 := cup_ HB.out hx257_3
                have HR257_2 := Aside0.mk hi257_2; have HC257_2 := Aside0.mk hl257_2; clear hi257_2 hl257_2; have HR257_3 := Aside0.mk hi257_3; have HC257_3 := Aside0.mk hl257_3; clear hi257_3 hl257_3
                replace p257 := eq_true p257
                replace q257 := eq_true q257
                go_wp2_with (first | ((with_reducible refine gate_dst (N := 5) rfl ?_); refine box_event ?hg (N := 5) ?hd (cs := #[.string (⟨#[]⟩ : ByteArray), .string (⟨#[]⟩ : ByteArray), .slice none 0 0, .slice none 0 0]) (t := 31) ?hr ?_; (case hd => rfl); (case hg => rfl); (case hr => first | (go_simp; done) | (go_simp; rfl)); intro gb258 hg w13 hbox hb; replace HO_3 := Aside0.mk (Kd.R_below (by (with_reducible repeat first | apply Kd.R_alloc | apply Kd.R_drewN | apply Kd.R_drew); exact HO_3.out) hb); have BK258 := Aside0.mk (hbox); have GW258 := Aside0.mk ((by rw [hg]; exact (below_size (by repeat first | (with_reducible first | exact HB.out | apply below_alloc | apply pw_below_drewN | apply below_drew1) | exact HB.out)) : w.heap.size ≤ gb258)); have GE258 := Aside0.mk ((by rw [hg]; exact (below_size (by repeat first | (with_reducible first | exact HB.out | apply below_alloc | apply pw_below_drewN | apply below_drew1) | exact HB.out)) : w.heap.size ≤ gb258)); replace HB := Aside0.mk (below_step (by repeat first | (with_reducible first | exact HB.out | apply below_alloc | apply pw_below_drewN | apply below_drew1) | exact HB.out) hb); clear hb hbox hg; have hcz14_0 : w13.cell? ⟨gb258, 0, none⟩ = some (.string (⟨#[]⟩ : ByteArray)) := (blk_cell BK258.out 0).trans rfl; have hcz14_1 : w13.cell? ⟨gb258, 1, none⟩ = some (.string (⟨#[]⟩ : ByteArray)) := (blk_cell BK258.out 1).trans rfl; have hcz14_2 : w13.cell? ⟨gb258, 2, none⟩ = some (.slice none 0 0) := (blk_cell BK258.out 2).trans rfl; have hcz14_3 : w13.cell? ⟨gb258, 3, none⟩ = some (.slice none 0 0) := (blk_cell BK258.out 3).trans rfl; have hfz14_0 := blk_frozen BK258.out 0; have hfz14_1 := blk_frozen BK258.out 1; have hfz14_2 := blk_frozen BK258.out 2; have hfz14_3 := blk_frozen BK258.out 3; obtain ⟨Ao15, co15, eo15⟩ := Kd.R_slice HO_3.out; subst eo15) | ((with_reducible refine gate_callee (f := 36) rfl ?_); refine goesL_ (some 16) rfl rfl Try.func36 (by kernel_rfl) rfl #[.slice Ao15 x3_1.length co15, .string ((rd_T31 l0 x9_1).f0)] rfl (by (try simp only [List.map_toArray, List.map_cons, List.map_nil]); first | done | rfl) ?_; (with_reducible refine (slices_Contains_string_string.calls k1 _ _ x3_1 ((rd_T31 l0 x9_1).f0) false _ ?side1 ?side2 A7.out).mono ?_); (case side1 => refine (Kd.R_reads' (e := 9) (base := w.heap.size) (ok := fun k_ => True) (n := x3_1.length) (c := co15) ?_).2.2; exact (by (with_reducible repeat first | apply Kd.R_alloc | apply Kd.R_drewN | apply Kd.R_drew); exact (Kd.R_mono (Kd.R_far (p := ⟨gb258, 3, none⟩) (Kd.R_far (p := ⟨gb258, 2, none⟩) (Kd.R_far (p := ⟨gb258, 1, none⟩) (Kd.R_far (p := ⟨gb258, 0, none⟩) (Kd.R_types HO_3.out BK258.out (by decide)) (fun _ hk => hk.2) (.string ((rd_T31 l0 x9_1).f0))) (fun _ hk => hk.2) (.string ((rd_T31 l0 x9_1).f1))) (fun _ hk => hk.2) (.slice A257_2 ((rd_T31 l0 x9_1).f2).length c257_2)) (fun _ hk => hk.2) (.slice A257_3 ((rd_T31 l0 x9_1).f3).length c257_3)) (fun _ h_ => h_.1)))); (case side2 => exact (Kd.R_reads' HO_3.out).2.1); rintro e w' ⟨rfl, ⟨nd, rfl⟩⟩; refine ⟨_, rfl, ?_⟩) | ((with_reducible refine gate_builtin (b := .append) (xs := #[.tmp 18, .tmp 21]) rfl ?_); at_builtin; refine Kd.R_append Kd.string (w0 := w) w.heap.size rfl (.tmp 18) (.tmp 21) 29 9 (.string ⟨#[]⟩) 16 rfl Try.underlying29 info9 rfl (by decide) (by omega) (.slice Ao15 x3_1.length co15) x3_1 ((rd_T31 l0 x9_1).f0) [.string ((rd_T31 l0 x9_1).f0)] (fun _ => True) (fun _ => False) rfl (by first | (go_simp; done) | (go_simp; rfl)) ?aP (fun _ hk => hk.elim) ?aF ?aO ?aB ?aS ?aL ?_; (case aP => exact rfl); (case aB => exact (by repeat first | (with_reducible first | exact HB.out | apply below_alloc | apply pw_below_drewN | apply below_drew1 | refine below_set ?_ GE258.out) | exact HB.out)); (case aF => exact (fun _ _ => trivial)); (case aO => exact (by (with_reducible repeat first | apply Kd.R_alloc | apply Kd.R_drewN | apply Kd.R_drew); exact Kd.R_mono (Kd.R_far (p := ⟨gb258, 3, none⟩) (Kd.R_far (p := ⟨gb258, 2, none⟩) (Kd.R_far (p := ⟨gb258, 1, none⟩) (Kd.R_far (p := ⟨gb258, 0, none⟩) (Kd.R_types HO_3.out BK258.out (by decide)) (fun _ hk => hk.2) (.string ((rd_T31 l0 x9_1).f0))) (fun _ hk => hk.2) (.string ((rd_T31 l0 x9_1).f1))) (fun _ hk => hk.2) (.slice A257_2 ((rd_T31 l0 x9_1).f2).length c257_2)) (fun _ hk => hk.2) (.slice A257_3 ((rd_T31 l0 x9_1).f3).length c257_3)) (fun _ hk => trivial))); (case aS => exact (below_size (by repeat first | (with_reducible first | exact HB.out | apply below_alloc | apply pw_below_drewN | apply below_drew1 | refine below_set ?_ GE258.out) | exact HB.out))); (case aL => have := LMc12.out; omega); intro v261 w16 ho hb hg hat; rw [← Ny260.out] at ho; replace BK258 := Aside0.mk (blk_grown (g := gb258) (o := .cells #[.string ((rd_T31 l0 x9_1).f0), .string ((rd_T31 l0 x9_1).f1), .slice A257_2 ((rd_T31 l0 x9_1).f2).length c257_2, .slice A257_3 ((rd_T31 l0 x9_1).f3).length c257_3] 31 (0, 0)) (by (with_reducible repeat first | apply blk_drewN | apply blk_drew | apply blk_alloc); refine blk_put (cs := #[.string ((rd_T31 l0 x9_1).f0), .string ((rd_T31 l0 x9_1).f1), .slice A257_2 ((rd_T31 l0 x9_1).f2).length c257_2, .slice none 0 0]) ?_ 3 _ rfl; (with_reducible repeat first | apply blk_drewN | apply blk_drew | apply blk_alloc); refine blk_put (cs := #[.string ((rd_T31 l0 x9_1).f0), .string ((rd_T31 l0 x9_1).f1), .slice none 0 0, .slice none 0 0]) ?_ 2 _ rfl; (with_reducible repeat first | apply blk_drewN | apply blk_drew | apply blk_alloc); refine blk_put (cs := #[.string ((rd_T31 l0 x9_1).f0), .string (⟨#[]⟩ : ByteArray), .slice none 0 0, .slice none 0 0]) ?_ 1 _ rfl; (with_reducible repeat first | apply blk_drewN | apply blk_drew | apply blk_alloc); refine blk_put (cs := #[.string (⟨#[]⟩ : ByteArray), .string (⟨#[]⟩ : ByteArray), .slice none 0 0, .slice none 0 0]) ?_ 0 _ rfl; (with_reducible repeat first | apply blk_drewN | apply blk_drew | apply blk_alloc); exact BK258.out) hg (Kd.R_ne HO_3.out BK258.out (by decide))); replace HB := Aside0.mk (hb); have HO262 := Aside0.mk (ho); clear HO_3; clear ho hb hg hat))
                go_roundg k1
                case measure => have := HK1.out; omega
                case rel => exact ⟨(y260), (wrap64 (x9_1 + 1)), (by first | rfl | (simp; done) | (simp [*]; done)), H', ⟨by have := HK1.out; omega⟩, ⟨by (with_reducible repeat first | apply Kd.R_alloc | apply Kd.R_drewN | apply Kd.R_drew); exact HO262.out⟩, ⟨by repeat (first | (with_reducible first | exact HB.out | apply below_alloc | apply pw_below_drewN | apply below_drew1 | refine below_set ?_ GE258.out) | exact HB.out)⟩⟩
              · rw [if_neg c12] at H
                exact absurd H (by simp)
          · rw [if_neg c6] at H
            exact absurd H (by simp)
        · rw [if_neg c5] at H
          exact absurd H (by simp)
      · rw [if_neg c4] at H
        have c4b0 : decide (x9_1 < (l0.length : Int)) = false := decide_eq_false c4
        clear c4
        obtain rfl := Option.some.inj H
        go_wp2
        go_ret
        exact ⟨_, by first | rfl | (simp [errW_none, errW_some] <;> rfl) | (simp [*, errW_none, errW_some] <;> rfl), by (with_reducible repeat first | apply Kd.R_alloc | apply Kd.R_drewN | apply Kd.R_drew); exact HO_3.out, by repeat (first | (with_reducible first | exact HB.out | apply below_alloc | apply pw_below_drewN | apply below_drew1) | exact HB.out)⟩

/-! ### slices_Clone_string_string: function 58 -/
def slices_Clone_string_string.f (l0 : List ByteArray) : Option (List ByteArray) := (some (([] : List ByteArray) : List ByteArray)).bind fun y263 => (if y263.length + l0.length < 8796093022208 then (some (y263 ++ l0)) else (none))
set_option maxHeartbeats 8000000 in
set_option maxRecDepth 100000 in
theorem slices_Clone_string_string.calls (A0 : Option Addr) (c0 : Nat) (l0 : List ByteArray) (r : List ByteArray) (w : World) (hr0 : Kd.C Kd.string w A0 l0.length l0) (hc0 : l0.length ≤ c0) (h : slices_Clone_string_string.f l0 = some r) :
    Calls Try.prog 58 #[.slice A0 l0.length c0] w fun e w' => ∃ v0_ : Value, e = .returned (v0_) ∧ Kd.R Kd.string 9 w' w.heap.size (fun _ => True) v0_ r ∧ Below w.heap.size w w' := by
  have qnil : ∀ (w : World) (a : Option Addr) (n c n' c' : Nat), (binOp .eql 29 (.slice a n c) (.slice none n' c')).run Try.prog w = .ok (.bool a.isNone) w := fun w a n c n' c' => Lib.run_eql_slice_nil w _ _ a n c n' c' Try.underlying29
  cases A0 with
  | none =>
    have hl0 : l0 = [] := by
      cases l0 with
      | nil => rfl
      | cons a t => obtain ⟨ad, e, _⟩ := hr0.2.2 (by simp); cases e
    subst hl0
    have hr1 : r = [] := by
      have h1 := h
      simp [slices_Clone_string_string.f] at h1
      exact h1
    subst hr1; clear hr0 hc0 h
    go_enter Try.func58, Try.ntmps58
    go_wp2
    go_ret
    exact ⟨_, rfl, Kd.R_nil _ _ _ _ _, Below.refl _ _⟩
  | some A0 =>
    have HR0 := Aside0.mk hr0; have HC0 := Aside0.mk hc0; clear hr0 hc0; have HB := Aside0.mk (Below.refl w.heap.size w)
    have H : ((some (([] : List ByteArray) : List ByteArray)).bind fun y263 => (if y263.length + l0.length < 8796093022208 then (some (y263 ++ l0)) else (none))) = some r := h
    clear h
    obtain ⟨y263, hy263⟩ : ∃ y_ : List ByteArray, y_ = (([] : List ByteArray)) := ⟨_, rfl⟩
    replace H : (if y263.length + l0.length < 8796093022208 then (some (y263 ++ l0)) else (none)) = some r := by first | (rw [hy263]; with_reducible exact H) | (have H2_ := (Option.bind_some _ _).symm.trans H; rw [hy263]; with_reducible exact H2_) | (have H2_ := (Option.bind_some _ _).symm.trans H; with_reducible exact H2_) | with_reducible exact H | (rw [hy263]; exact H) | exact H
    have Ny263 := Aside0.mk hy263; clear hy263
    by_cases c2 : y263.length + l0.length < 8796093022208
    · rw [if_pos c2] at H
      have LMc2 := Aside0.mk c2; clear c2
      obtain ⟨y266, hy266⟩ : ∃ y_ : List ByteArray, y_ = (y263 ++ l0) := ⟨_, rfl⟩
      replace H : (some y266) = some r := by first | (rw [hy266]; with_reducible exact H) | (have H2_ := (Option.bind_some _ _).symm.trans H; rw [hy266]; with_reducible exact H2_) | (have H2_ := (Option.bind_some _ _).symm.trans H; with_reducible exact H2_) | with_reducible exact H | (rw [hy266]; exact H) | exact H
      have Ny266 := Aside0.mk hy266; clear hy266
      obtain rfl := Option.some.inj H
      go_enter Try.func58, Try.ntmps58
      go_wp2_with (first | ((with_reducible refine gate_dst (N := 5) rfl ?_); refine Kd.R_lit Kd.string _ 9 ?hg (N := 5) ?hd (xs := ([] : List ByteArray)) (inner := []) (ok := fun _ => True) (okp := fun _ => True) ?hr ?hp (fun _ hk => hk) trivial (Below.refl _ _) (Nat.le_refl _) (by simp) ?_; (case hd => rfl); (case hg => rfl); (case hr => first | (go_simp; done) | (go_simp; rfl)); (case hp => exact (Reps.none _ _)); intro v264 w3 ho4 hb hg_ hnew_; clear hg_ hnew_; (first | rw [← Ny263.out] at ho4 | (simp only [Int.reduceToNat] at ho4; rw [← Ny263.out] at ho4)); have HO265 := Aside0.mk (Kd.R_lower ho4 (below_size (by repeat first | (with_reducible first | exact HB.out | apply below_alloc | apply pw_below_drewN | apply below_drew1) | exact HB.out))); replace HB := Aside0.mk (below_step (by repeat first | (with_reducible first | exact HB.out | apply below_alloc | apply pw_below_drewN | apply below_drew1) | exact HB.out) hb); clear hb ho4) | ((with_reducible refine gate_builtin (b := .append) (xs := #[.tmp 5, .tmp 6]) rfl ?_); at_builtin; refine Kd.R_append_rows Kd.string (w0 := w) w.heap.size rfl (.tmp 5) (.tmp 6) 29 9 (.string ⟨#[]⟩) 16 rfl Try.underlying29 info9 rfl (by decide) (by omega) v264 y263 l0 _ _ _ (fun _ => True) (fun _ => False) rfl rfl ?aO ?aR (fun _ _ h => h) (fun _ h => h.elim) ?aF ?aB ?aS ?aL ?_; (case aR => repeat (first | exact (Kd.C_below HR0.out HB.out) | with_reducible first | apply Kd.C_alloc | apply Kd.C_drewN | apply Kd.C_drew)); (case aB => exact (by repeat first | (with_reducible first | exact HB.out | apply below_alloc | apply pw_below_drewN | apply below_drew1) | exact HB.out)); (case aF => exact (fun _ _ => trivial)); (case aO => exact (by (with_reducible repeat first | apply Kd.R_alloc | apply Kd.R_drewN | apply Kd.R_drew); exact HO265.out)); (case aS => exact (below_size (by repeat first | (with_reducible first | exact HB.out | apply below_alloc | apply pw_below_drewN | apply below_drew1) | exact HB.out))); (case aL => have := LMc2.out; omega); intro v267 w5 ho hb hg hat; rw [← Ny266.out] at ho; replace HB := Aside0.mk (hb); have HO268 := Aside0.mk (ho); clear HO265; clear ho hb hg hat))
      go_ret
      exact ⟨_, by first | rfl | (simp [errW_none, errW_some] <;> rfl) | (simp [*, errW_none, errW_some] <;> rfl), by (with_reducible repeat first | apply Kd.R_alloc | apply Kd.R_drewN | apply Kd.R_drew); exact HO268.out, by repeat (first | (with_reducible first | exact HB.out | apply below_alloc | apply pw_below_drewN | apply below_drew1) | exact HB.out)⟩
    · rw [if_neg c2] at H
      exact absurd H (by simp)

/-! ### impl_copyTests: function 45 -/
/-- Two parts that lead to nothing in common. -/
def Kd.split {α β : Type} (a : Kd α) (b : Kd β) : Kd (α × β) where
  sz := (Kd.pair a b).sz
  E := (Kd.pair a b).E
  K := (Kd.pair a b).K
  M := fun w base ok x cs => ∃ f : Nat → Bool, ∃ c0 c1, cs = c0 ++ c1 ∧ a.M w base (fun k => ok k ∧ f k = true) x.1 c0 ∧ b.M w base (fun k => ok k ∧ f k = false) x.2 c1
  K_len := (Kd.pair a b).K_len
  K_one := (Kd.pair a b).K_one
  K_below := (Kd.pair a b).K_below
  K_of_M := by
    rintro w base ok x cs ⟨f, c0, c1, rfl, h0, h1⟩
    exact ⟨c0, c1, rfl, a.K_of_M h0, b.K_of_M h1⟩
  M_mono := by
    rintro w base ok ok' x cs hok ⟨f, c0, c1, rfl, h0, h1⟩
    exact ⟨f, c0, c1, rfl, a.M_mono (fun k hk => ⟨hok k hk.1, hk.2⟩) h0, b.M_mono (fun k hk => ⟨hok k hk.1, hk.2⟩) h1⟩
  M_bound := by
    rintro w base ok x cs ⟨f, c0, c1, rfl, h0, h1⟩
    refine ⟨f, c0, c1, rfl, a.M_mono ?_ (a.M_bound h0), b.M_mono ?_ (b.M_bound h1)⟩
    · rintro k ⟨⟨h2, h5⟩, h3, h4, q, hq, hc⟩
      exact ⟨⟨h2, h3, h4, q, List.mem_append_left _ hq, hc⟩, h5⟩
    · rintro k ⟨⟨h2, h5⟩, h3, h4, q, hq, hc⟩
      exact ⟨⟨h2, h3, h4, q, List.mem_append_right _ hq, hc⟩, h5⟩
  M_move := by
    rintro w w1 base ok x cs hm ⟨f, c0, c1, rfl, h0, h1⟩
    exact ⟨f, c0, c1, rfl, a.M_move (fun k hk => hm k hk.1) h0, b.M_move (fun k hk => hm k hk.1) h1⟩
  M_lower := by
    rintro w base base' ok x cs hb ⟨f, c0, c1, rfl, h0, h1⟩
    exact ⟨f, c0, c1, rfl, a.M_lower hb h0, b.M_lower hb h1⟩
/-- A test whose marks and needs lie apart. -/
def kA31 : Kd S31 := Kd.iso (Kd.pair Kd.string (Kd.pair Kd.string (Kd.split (Kd.slice 9 Kd.string) (Kd.slice 9 Kd.string)))) (fun x : S31 => (x.f0, x.f1, x.f2, x.f3))
theorem kA31_openM {w : World} {base : Nat} {ok : Nat → Prop} {x : S31} {cs : List Value} (h : kA31.M w base ok x cs) : ∃ (v2 v3 : Value) (f : Nat → Bool), cs = [.string x.f0, .string x.f1, v2, v3] ∧ Kd.string.R 9 w base (fun k => ok k ∧ f k = true) v2 x.f2 ∧ Kd.string.R 9 w base (fun k => ok k ∧ f k = false) v3 x.f3 := by
  obtain ⟨_, _, rfl, rfl, ⟨_, _, rfl, rfl, ⟨f, _, _, rfl, ⟨v2, rfl, g2⟩, ⟨v3, rfl, g3⟩⟩⟩⟩ := h
  exact ⟨v2, v3, f, rfl, g2, g3⟩
theorem kA31_mkF (w : World) (base : Nat) (ok : Nat → Prop) (x : S31) (f : Nat → Bool) {v2 : Value} (g2 : Kd.string.R 9 w base (fun k => ok k ∧ f k = true) v2 x.f2) {v3 : Value} (g3 : Kd.string.R 9 w base (fun k => ok k ∧ f k = false) v3 x.f3) : kA31.M w base ok x [.string x.f0, .string x.f1, v2, v3] := ⟨[.string x.f0], [.string x.f1, v2, v3], rfl, rfl, ⟨[.string x.f1], [v2, v3], rfl, rfl, ⟨f, [v2], [v3], rfl, ⟨v2, rfl, g2⟩, ⟨v3, rfl, g3⟩⟩⟩⟩
theorem kA31_mkM (w : World) (base : Nat) (ok : Nat → Prop) (x : S31) {v2 : Value} (g2 : Kd.string.R 9 w base ok v2 x.f2) {v3 : Value} (g3 : Kd.string.R 9 w base ok v3 x.f3) (hne : ∀ k, v2.ownBlock = some k → some k ≠ v3.ownBlock) : kA31.M w base ok x [.string x.f0, .string x.f1, v2, v3] :=
  kA31_mkF w base ok x (fun k => decide (some k = v2.ownBlock)) (Kd.R_reok (d := Kd.string) rfl g2 (fun k hk => ⟨g2.1 k hk, decide_eq_true hk.symm⟩)) (Kd.R_reok (d := Kd.string) rfl g3 (fun k hk => ⟨g3.1 k hk, decide_eq_false (fun h => hne k h.symm hk.symm)⟩))
theorem kA31_C {w : World} {A : Option Addr} {n : Nat} {xs : List S31} (h : Kd.C kA31 w A n xs) : Kd.C k31 w A n xs := h
def impl_copyTests.l0 : Nat → List (S31) → List (S31) → Int → Int → Option ((List (S31)))
 | 0, _, _, _, _ => none
 | k + 1, x3, x7, x8, x9 => if x9 < x8 then (if 0 ≤ x9 then (if x9 < (x7.length : Int) then ((slices_Clone_string_string.f ((rd_T31 x7 x9).f2)).bind fun t274 => ((slices_Clone_string_string.f ((rd_T31 x7 x9).f3)).bind fun t277 => (if x3.length < 1759218604441 then (impl_copyTests.l0 k (x3 ++ [(⟨(rd_T31 x7 x9).f0, (rd_T31 x7 x9).f1, t274, t277⟩ : S31)]) x7 x8 (wrap64 (x9 + 1))) else (none)))) else (none)) else (none)) else (some x3)
def impl_copyTests.f (k : Nat) (l0 : List (S31)) : Option ((List (S31))) := impl_copyTests.l0 k (([] : List (S31))) l0 (l0.length : Int) 0
theorem impl_copyTests.mono_l : ∀ k, (∀ y0 y1 y2 y3, LeO (impl_copyTests.l0 k y0 y1 y2 y3) (impl_copyTests.l0 (k + 1) y0 y1 y2 y3))
 | 0 => fun _ _ _ _ r h => by simp [impl_copyTests.l0] at h
 | k + 1 => by
  have ih0 := impl_copyTests.mono_l k
  ·intro y0 y1 y2 y3
   unfold impl_copyTests.l0
   repeat' first
   | (with_reducible exact ih0 _ _ _ _)
   | (with_reducible exact LeO.refl _)
   | (with_reducible exact LeO.none _)
   | (with_reducible refine LeO.ite ?_ ?_)
   | (with_reducible refine LeO.bind ?_ (fun _ => ?_))
   | refine LeO.ite ?_ ?_
   | refine LeO.bind ?_ (fun _ => ?_)
theorem impl_copyTests.mono : ∀ a0 k, LeO (impl_copyTests.f k a0) (impl_copyTests.f (k + 1) a0) := by
 intro a0 k
 have ih0 := impl_copyTests.mono_l k
 unfold impl_copyTests.f
 repeat' first
   | (with_reducible exact ih0 _ _ _ _)
   | (with_reducible exact LeO.refl _)
   | (with_reducible exact LeO.none _)
   | (with_reducible refine LeO.ite ?_ ?_)
   | (with_reducible refine LeO.bind ?_ (fun _ => ?_))
   | refine LeO.ite ?_ ?_
   | refine LeO.bind ?_ (fun _ => ?_)
def impl_copyTests.T5 : Bool × List (List Nat × List Nat) := (true, [([], []), ([0], [0]), ([1], [1]), ([], []), ([3], [3]), ([4, 2], [4]), ([0, 1, 2, 3, 4], []), ([6, 2, 5, 0, 1, 2, 3, 4], [2, 6]), ([0, 1, 2, 3, 4, 5, 6, 7], []), ([8, 5, 7, 0, 1, 2, 3, 4, 5, 6, 7], [5, 8])])
def impl_copyTests.B5 : List Nat := [0, 1, 3, 0, 8, 31, 31, 127, 255, 511]
theorem impl_copyTests.tab5 : rtab .any (opsOf Try.f45 5) = impl_copyTests.T5 := by kernel_rfl
theorem impl_copyTests.bits5 : waitsOk impl_copyTests.T5.2 impl_copyTests.B5 = true := by kernel_rfl
set_option maxHeartbeats 8000000 in
set_option maxRecDepth 100000 in
theorem impl_copyTests.calls (k : Nat) (A0 : Option Addr) (c0 : Nat) (l0 : List (S31)) (r : List (S31)) (w : World) (hr0 : Kd.C k31 w A0 l0.length l0) (hc0 : l0.length ≤ c0) (h : impl_copyTests.f k l0 = some r) :
  Calls Try.prog 45 #[.slice A0 l0.length c0] w fun e w' => ∃ v0_ : Value, e = .returned (v0_) ∧ Kd.S kA31 31 w' w.heap.size (fun _ => True) v0_ r ∧ Below w.heap.size w w' := by
 have hu31 := Try.underlying31; have HR0 := Aside0.mk hr0; have HC0 := Aside0.mk hc0; clear hr0 hc0; have HB := Aside0.mk (Below.refl w.heap.size w)
 have H : (impl_copyTests.l0 k (([] : List (S31))) l0 (l0.length : Int) 0) = some r := h
 clear h
 obtain ⟨y269, hy269⟩ : ∃ y_ : List (S31), y_ = (([] : List (S31))) := ⟨_, rfl⟩
 replace H : (impl_copyTests.l0 k y269 l0 (l0.length : Int) 0) = some r := by first | (rw [hy269]; with_reducible exact H) | (have H2_ := (Option.bind_some _ _).symm.trans H; rw [hy269]; with_reducible exact H2_) | (have H2_ := (Option.bind_some _ _).symm.trans H; with_reducible exact H2_) | with_reducible exact H | (rw [hy269]; exact H) | exact H
 have Ny269 := Aside0.mk hy269; clear hy269; have H' := Aside0.mk H; clear H
 go_enter Try.func45, Try.ntmps45
 go_wp2_with (first | ((with_reducible refine gate_dst (N := 6) rfl ?_); refine Kd.S_lit kA31 _ 31 ?hg (N := 6) ?hd (xs := ([] : List (S31))) (inner := []) (ok := fun _ => True) (okp := fun _ => True) ?hr ?hp (fun _ hk => hk) trivial (Below.refl _ _) (Nat.le_refl _) (by simp) ?_; (case hd => rfl); (case hg => rfl); (case hr => first | (go_simp; done) | (go_simp; rfl)); (case hp => exact (Reps.none _ _)); intro v270 w2 ho3 hb hg_ hnew_; clear hg_ hnew_; (first | rw [← Ny269.out] at ho3 | (simp only [Int.reduceToNat] at ho3; rw [← Ny269.out] at ho3)); have HO271 := Aside0.mk (Kd.S_lower ho3 (below_size (by repeat first | (with_reducible first | exact HB.out | apply below_alloc | apply pw_below_drewN | apply below_drew1) | exact HB.out))); replace HB := Aside0.mk (below_step (by repeat first | (with_reducible first | exact HB.out | apply below_alloc | apply pw_below_drewN | apply below_drew1) | exact HB.out) hb); clear hb ho3))
 go_loopg [3, 9] k (fun kq v3 v9 w' => ∃ (x3_1 : List (S31)) (x9_1 : Int), v9 = .int .i64 x9_1 ∧ Aside0 (impl_copyTests.l0 kq x3_1 l0 (l0.length : Int) x9_1 = some r) ∧ Aside0 (kq ≤ k) ∧ Aside0 (Kd.S kA31 31 w' w.heap.size (fun _ => True) v3 x3_1) ∧ Aside0 (Below w.heap.size w w'))
 case atStart => exact ⟨(y269), (0), (by first | rfl | (simp; done) | (simp [*]; done)), H', ⟨Nat.le_refl _⟩, ⟨by (with_reducible repeat first | apply Kd.S_alloc | apply Kd.S_drewN | apply Kd.S_drew); exact HO271.out⟩, ⟨by repeat (first | (with_reducible first | exact HB.out | apply below_alloc | apply pw_below_drewN | apply below_drew1) | exact HB.out)⟩⟩
 case round =>
  clear H'; try clear p2
  obtain ⟨x3_1, x9_1, rfl, HA, HK1, HO_3, HB⟩ := hrel
  cases gk with
  | zero => exact absurd HA.out (by simp [impl_copyTests.l0])
  | succ k1 =>
   have H := HA.out; clear HA
   simp only [impl_copyTests.l0] at H
   by_cases c4 : x9_1 < (l0.length : Int)
   ·rw [if_pos c4] at H
    have c4b0 : decide (x9_1 < (l0.length : Int)) = true := decide_eq_true c4
    clear c4
    by_cases c5 : 0 ≤ x9_1
    ·rw [if_pos c5] at H
     have c5b0 : decide (0 ≤ x9_1) = true := decide_eq_true c5
     clear c5
     by_cases c6 : x9_1 < (l0.length : Int)
     ·rw [if_pos c6] at H
      have c6b0 : decide (x9_1 < (l0.length : Int)) = true := decide_eq_true c6
      clear c6
      replace H := Option.bind_eq_some_iff.mp H
      obtain ⟨t274, A70, H⟩ := H
      replace H : ((slices_Clone_string_string.f ((rd_T31 l0 x9_1).f3)).bind fun t277 => (if x3_1.length < 1759218604441 then (impl_copyTests.l0 k1 (x3_1 ++ [(⟨(rd_T31 l0 x9_1).f0, (rd_T31 l0 x9_1).f1, t274, t277⟩ : S31)]) l0 (l0.length : Int) (wrap64 (x9_1 + 1))) else (none))) = some r := H
      have A7 := Aside0.mk A70; clear A70
      replace H := Option.bind_eq_some_iff.mp H
      obtain ⟨t277, A80, H⟩ := H
      replace H : (if x3_1.length < 1759218604441 then (impl_copyTests.l0 k1 (x3_1 ++ [(⟨(rd_T31 l0 x9_1).f0, (rd_T31 l0 x9_1).f1, t274, t277⟩ : S31)]) l0 (l0.length : Int) (wrap64 (x9_1 + 1))) else (none)) = some r := H
      have A8 := Aside0.mk A80; clear A80
      by_cases c9 : x3_1.length < 1759218604441
      ·rw [if_pos c9] at H
       have LMc9 := Aside0.mk c9; clear c9
       obtain ⟨y280, hy280⟩ : ∃ y_ : List (S31), y_ = (x3_1 ++ [(⟨(rd_T31 l0 x9_1).f0, (rd_T31 l0 x9_1).f1, t274, t277⟩ : S31)]) := ⟨_, rfl⟩
       replace H : (impl_copyTests.l0 k1 y280 l0 (l0.length : Int) (wrap64 (x9_1 + 1))) = some r := by first | (rw [hy280]; with_reducible exact H) | (have H2_ := (Option.bind_some _ _).symm.trans H; rw [hy280]; with_reducible exact H2_) | (have H2_ := (Option.bind_some _ _).symm.trans H; with_reducible exact H2_) | with_reducible exact H | (rw [hy280]; exact H) | exact H
       have Ny280 := Aside0.mk hy280; clear hy280; have H' := Aside0.mk H; clear H
       have p272 : 0 ≤ (x9_1 : Int) := of_decide_eq_true (by first | (with_reducible assumption) | assumption)
       have q272 : x9_1 < (l0.length : Int) := of_decide_eq_true (by first | (with_reducible assumption) | assumption)
       obtain ⟨ad272, A272_2, c272_2, A272_3, c272_3, e272, hx272_0, hx272_1, hx272_2, hx272_3, hl272_2, hi272_2, hl272_3, hi272_3⟩ := at_T31 HR0.out x9_1 p272 q272
       cases e272
       replace hx272_0 := cup_ HB.out hx272_0; replace hx272_1 := cup_ HB.out hx272_1; replace hx272_2 := cup_ HB.out hx272_2; replace hx272_3 := cup_ HB.out hx272_3
       have HR272_2 := Aside0.mk hi272_2; have HC272_2 := Aside0.mk hl272_2; clear hi272_2 hl272_2; have HR272_3 := Aside0.mk hi272_3; have HC272_3 := Aside0.mk hl272_3; clear hi272_3 hl272_3
       replace p272 := eq_true p272
       replace q272 := eq_true q272
       try go_wp2_with (first | ((with_reducible refine gate_dst (N := 5) rfl ?_); refine box_event ?hg (N := 5) ?hd (cs := #[.string (⟨#[]⟩ : ByteArray), .string (⟨#[]⟩ : ByteArray), .slice none 0 0, .slice none 0 0]) (t := 31) ?hr ?_; (case hd => rfl); (case hg => rfl); (case hr => first | (go_simp; done) | (go_simp; rfl)); intro gb273 hg w10 hbox hb; replace HO_3 := Aside0.mk (Kd.S_below (Kd.S_elderB (by (with_reducible repeat first | apply Kd.S_alloc | apply Kd.S_drewN | apply Kd.S_drew); exact HO_3.out) gb273 (Nat.le_of_eq hg.symm)) hb); have BK273 := Aside0.mk (hbox); have GW273 := Aside0.mk ((by rw [hg]; exact (below_size (by repeat first | (with_reducible first | exact HB.out | apply below_alloc | apply pw_below_drewN | apply below_drew1) | exact HB.out)) : w.heap.size ≤ gb273)); have GE273 := Aside0.mk ((by rw [hg]; exact (below_size (by repeat first | (with_reducible first | exact HB.out | apply below_alloc | apply pw_below_drewN | apply below_drew1) | exact HB.out)) : w.heap.size ≤ gb273)); replace HB := Aside0.mk (below_step (by repeat first | (with_reducible first | exact HB.out | apply below_alloc | apply pw_below_drewN | apply below_drew1) | exact HB.out) hb); clear hb hbox hg; have hcz11_0 : w10.cell? ⟨gb273, 0, none⟩ = some (.string (⟨#[]⟩ : ByteArray)) := (blk_cell BK273.out 0).trans rfl; have hcz11_1 : w10.cell? ⟨gb273, 1, none⟩ = some (.string (⟨#[]⟩ : ByteArray)) := (blk_cell BK273.out 1).trans rfl; have hcz11_2 : w10.cell? ⟨gb273, 2, none⟩ = some (.slice none 0 0) := (blk_cell BK273.out 2).trans rfl; have hcz11_3 : w10.cell? ⟨gb273, 3, none⟩ = some (.slice none 0 0) := (blk_cell BK273.out 3).trans rfl; have hfz11_0 := blk_frozen BK273.out 0; have hfz11_1 := blk_frozen BK273.out 1; have hfz11_2 := blk_frozen BK273.out 2; have hfz11_3 := blk_frozen BK273.out 3))
       have n0_ : Aside0 (Kd.S kA31 31 ((((w10.setCell ⟨gb273, 0, none⟩ (.string ((rd_T31 l0 x9_1).f0))).setCell ⟨gb273, 1, none⟩ (.string ((rd_T31 l0 x9_1).f1))).setCell ⟨gb273, 2, none⟩ (.slice A272_2 ((rd_T31 l0 x9_1).f2).length c272_2)).setCell ⟨gb273, 3, none⟩ (.slice A272_3 ((rd_T31 l0 x9_1).f3).length c272_3)) w.heap.size (fun k_ => k_ ≠ gb273) u3 x3_1) := ⟨by (with_reducible repeat first | apply Kd.S_alloc | apply Kd.S_drewN | apply Kd.S_drew); exact Kd.S_mono (Kd.S_far (p := ⟨gb273, 3, none⟩) (Kd.S_far (p := ⟨gb273, 2, none⟩) (Kd.S_far (p := ⟨gb273, 1, none⟩) (Kd.S_far (p := ⟨gb273, 0, none⟩) (Kd.S_mono HO_3.out (fun k_ hk => (⟨hk, hk.2⟩ : _ ∧ k_ ≠ gb273))) (fun _ hk => hk.2) (.string ((rd_T31 l0 x9_1).f0))) (fun _ hk => hk.2) (.string ((rd_T31 l0 x9_1).f1))) (fun _ hk => hk.2) (.slice A272_2 ((rd_T31 l0 x9_1).f2).length c272_2)) (fun _ hk => hk.2) (.slice A272_3 ((rd_T31 l0 x9_1).f3).length c272_3)) (fun _ hk => hk.1.2)⟩
       have n1_ : Aside0 (((((w10.setCell ⟨gb273, 0, none⟩ (.string ((rd_T31 l0 x9_1).f0))).setCell ⟨gb273, 1, none⟩ (.string ((rd_T31 l0 x9_1).f1))).setCell ⟨gb273, 2, none⟩ (.slice A272_2 ((rd_T31 l0 x9_1).f2).length c272_2)).setCell ⟨gb273, 3, none⟩ (.slice A272_3 ((rd_T31 l0 x9_1).f3).length c272_3)).heap[gb273]? = some (.cells #[.string ((rd_T31 l0 x9_1).f0), .string ((rd_T31 l0 x9_1).f1), .slice A272_2 ((rd_T31 l0 x9_1).f2).length c272_2, .slice A272_3 ((rd_T31 l0 x9_1).f3).length c272_3] 31 (0, 0))) := ⟨by (with_reducible repeat first | apply blk_drewN | apply blk_drew | apply blk_alloc); refine blk_put (cs := #[.string ((rd_T31 l0 x9_1).f0), .string ((rd_T31 l0 x9_1).f1), .slice A272_2 ((rd_T31 l0 x9_1).f2).length c272_2, .slice none 0 0]) ?_ 3 _ rfl; (with_reducible repeat first | apply blk_drewN | apply blk_drew | apply blk_alloc); refine blk_put (cs := #[.string ((rd_T31 l0 x9_1).f0), .string ((rd_T31 l0 x9_1).f1), .slice none 0 0, .slice none 0 0]) ?_ 2 _ rfl; (with_reducible repeat first | apply blk_drewN | apply blk_drew | apply blk_alloc); refine blk_put (cs := #[.string ((rd_T31 l0 x9_1).f0), .string (⟨#[]⟩ : ByteArray), .slice none 0 0, .slice none 0 0]) ?_ 1 _ rfl; (with_reducible repeat first | apply blk_drewN | apply blk_drew | apply blk_alloc); refine blk_put (cs := #[.string (⟨#[]⟩ : ByteArray), .string (⟨#[]⟩ : ByteArray), .slice none 0 0, .slice none 0 0]) ?_ 0 _ rfl; (with_reducible repeat first | apply blk_drewN | apply blk_drew | apply blk_alloc); exact BK273.out⟩
       have n2_ : Aside0 (Below w.heap.size w ((((w10.setCell ⟨gb273, 0, none⟩ (.string ((rd_T31 l0 x9_1).f0))).setCell ⟨gb273, 1, none⟩ (.string ((rd_T31 l0 x9_1).f1))).setCell ⟨gb273, 2, none⟩ (.slice A272_2 ((rd_T31 l0 x9_1).f2).length c272_2)).setCell ⟨gb273, 3, none⟩ (.slice A272_3 ((rd_T31 l0 x9_1).f3).length c272_3))) := ⟨by repeat (first | (with_reducible first | exact HB.out | apply below_alloc | apply pw_below_drewN | apply below_drew1 | refine below_set ?_ GE273.out) | exact HB.out)⟩
       (try clear HO_3)
       (try clear BK273)
       (try clear HB)
       generalize ((((w10.setCell ⟨gb273, 0, none⟩ (.string ((rd_T31 l0 x9_1).f0))).setCell ⟨gb273, 1, none⟩ (.string ((rd_T31 l0 x9_1).f1))).setCell ⟨gb273, 2, none⟩ (.slice A272_2 ((rd_T31 l0 x9_1).f2).length c272_2)).setCell ⟨gb273, 3, none⟩ (.slice A272_3 ((rd_T31 l0 x9_1).f3).length c272_3)) = w12 at n0_ n1_ n2_ ⊢
       have HO_3 := n0_; have BK273 := n1_; have HB := n2_; clear n0_ n1_ n2_; replace HO_3 := Aside0.mk (Kd.S_drew HO_3.out); replace BK273 := Aside0.mk (blk_drew BK273.out); replace HB := Aside0.mk (below_drew1 HB.out)
       refine start_ (n := 10) (S := fun w' => w'.cell? ⟨gb273, 0, none⟩ = some (.string ((rd_T31 l0 x9_1).f0)) ∧ w'.cell? ⟨gb273, 1, none⟩ = some (.string ((rd_T31 l0 x9_1).f1)) ∧ w'.cell? ⟨gb273, 2, none⟩ = some (.slice A272_2 ((rd_T31 l0 x9_1).f2).length c272_2) ∧ w'.cell? ⟨gb273, 3, none⟩ = some (.slice A272_3 ((rd_T31 l0 x9_1).f3).length c272_3)) (ds := [7, 9]) #[ff,ff,ff,ff,ff,ff,ff,ff,ff,ff] (by kernel_rfl) rfl rfl ⟨(blk_cell BK273.out 0).trans rfl, (blk_cell BK273.out 1).trans rfl, (blk_cell BK273.out 2).trans rfl, (blk_cell BK273.out 3).trans rfl⟩ (fun hHeld => ?_); refine with_tabW impl_copyTests.tab5 impl_copyTests.bits5 (fun HT_ HW_ => ?_)
       generalize w12.drew = w13 at HO_3 BK273 HB hHeld ⊢
       refine pu_ 0 (some 13) (v := ?_) (a' := ?_) #[tt,ff,ff,ff,ff,ff,ff,ff,ff,ff] HT_.out rfl rfl (by kernel_rfl) (fun _ _ _ h => h) (Or.inl ⟨by rfl, ?_⟩) ?_ ?_
       rotate_left
       ·intro w'
        go_simp
        with_reducible rfl
       rotate_left
       ·simp only [Act.put, ps_]
        rfl
       refine pu_ 3 (some 16) (v := ?_) (a' := ?_) #[tt,ff,ff,tt,ff,ff,ff,ff,ff,ff] HT_.out rfl rfl (by kernel_rfl) (fun _ _ _ h => h) (Or.inl ⟨by rfl, ?_⟩) ?_ ?_
       rotate_left
       ·intro w'
        go_simp
        with_reducible rfl
       rotate_left
       ·simp only [Act.put, ps_]
        rfl
       refine take_ (i := 1) (N := some 14) (v := ?_) (a' := ?_) #[tt,tt,ff,tt,ff,ff,ff,ff,ff,ff] rfl rfl (take_ofW HT_.out HW_.out (by kernel_rfl)) (fun _ _ _ h => h) (Or.inl ⟨by rfl, ?_⟩) hHeld ?_ ?_
       rotate_left
       ·rintro w' ⟨s0, s1, s2, s3⟩
        go_simp
        with_reducible rfl
       rotate_left
       ·simp only [Act.put, ps_]
        rfl
       refine take_ (i := 4) (N := some 17) (v := ?_) (a' := ?_) #[tt,tt,ff,tt,tt,ff,ff,ff,ff,ff] rfl rfl (take_ofW HT_.out HW_.out (by kernel_rfl)) (fun _ _ _ h => h) (Or.inl ⟨by rfl, ?_⟩) hHeld ?_ ?_
       rotate_left
       ·rintro w' ⟨s0, s1, s2, s3⟩
        go_simp
        with_reducible rfl
       rotate_left
       ·simp only [Act.put, ps_]
        rfl
       refine one_ (i := 2) (N := some 15) #[tt,tt,tt,tt,tt,ff,ff,ff,ff,ff] rfl rfl (one_of HT_.out (by kernel_rfl)) (by decide) (fun K hK => ?_)
       refine goes_ Try.func58 (by kernel_rfl) rfl #[.slice A272_2 ((rd_T31 l0 x9_1).f2).length c272_2] (by rfl) rfl rfl (by (try simp only [List.map_toArray, List.map_cons, List.map_nil]); first | done | rfl) ?_
       with_reducible refine (slices_Clone_string_string.calls _ _ ((rd_T31 l0 x9_1).f2) t274 _ ?side1 ?side2 A7.out).mono ?_
       (case side1 => repeat (first | exact (Kd.C_below HR272_2.out HB.out) | with_reducible first | apply Kd.C_alloc | apply Kd.C_drewN | apply Kd.C_drew))
       (case side2 => exact HC272_2.out)
       rintro e w14 ⟨v275, rfl, ho0, hb⟩
       refine ⟨_, rfl, ?_⟩
       have n0_ := Aside0.mk (Kd.S_elder' (by (with_reducible repeat first | apply Kd.S_alloc | apply Kd.S_drewN | apply Kd.S_drew); exact HO_3.out) (Kd.R_base ho0) hb)
       have n1_ := Aside0.mk (Kd.R_lower ho0 (below_size (by repeat first | (with_reducible first | exact HB.out | apply below_alloc | apply pw_below_drewN | apply below_drew1 | refine below_set ?_ GE273.out) | exact HB.out)))
       have n2_ := Aside0.mk (blk_below (g := gb273) (o := .cells #[.string ((rd_T31 l0 x9_1).f0), .string ((rd_T31 l0 x9_1).f1), .slice A272_2 ((rd_T31 l0 x9_1).f2).length c272_2, .slice A272_3 ((rd_T31 l0 x9_1).f3).length c272_3] 31 (0, 0)) (by (with_reducible repeat first | apply blk_drewN | apply blk_drew | apply blk_alloc); exact BK273.out) hb)
       have n3_ := Aside0.mk (below_step (by repeat first | (with_reducible first | exact HB.out | apply below_alloc | apply pw_below_drewN | apply below_drew1 | refine below_set ?_ GE273.out) | exact HB.out) hb); clear HO_3 BK273 HB; have HO_3 := n0_; have HO276 := n1_; have BK273 := n2_; have HB := n3_; clear n0_ n1_ n2_ n3_
       (try clear hb)
       (try clear hb2)
       (try clear hk)
       (try clear hi)
       (try clear ho0)
       refine hK.out _ _ ⟨(blk_cell BK273.out 0).trans rfl, (blk_cell BK273.out 1).trans rfl, (blk_cell BK273.out 2).trans rfl, (blk_cell BK273.out 3).trans rfl⟩ (fun hHeld => ?_)
       clear hK K
       refine norm_ (a' := ?_) ?_ ?_
       rotate_left
       ·show Act.put _ (some 15) _ = _
        simp only [Act.put, ps_]
        rfl
       refine pu_ 6 (some 19) (v := ?_) (a' := ?_) #[tt,tt,tt,tt,tt,ff,tt,ff,ff,ff] HT_.out rfl rfl (by kernel_rfl) (fun _ _ _ h => h) (Or.inl ⟨by rfl, ?_⟩) ?_ ?_
       rotate_left
       ·intro w'
        go_simp
        with_reducible rfl
       rotate_left
       ·simp only [Act.put, ps_]
        rfl
       refine one_ (i := 5) (N := some 18) #[tt,tt,tt,tt,tt,tt,tt,ff,ff,ff] rfl rfl (one_of HT_.out (by kernel_rfl)) (by decide) (fun K hK => ?_)
       refine goes_ Try.func58 (by kernel_rfl) rfl #[.slice A272_3 ((rd_T31 l0 x9_1).f3).length c272_3] (by rfl) rfl rfl (by (try simp only [List.map_toArray, List.map_cons, List.map_nil]); first | done | rfl) ?_
       with_reducible refine (slices_Clone_string_string.calls _ _ ((rd_T31 l0 x9_1).f3) t277 _ ?side1 ?side2 A8.out).mono ?_
       (case side1 => repeat (first | exact (Kd.C_below HR272_3.out HB.out) | with_reducible first | apply Kd.C_alloc | apply Kd.C_drewN | apply Kd.C_drew))
       (case side2 => exact HC272_3.out)
       rintro e w15 ⟨v278, rfl, ho0, hb⟩
       refine ⟨_, rfl, ?_⟩
       have n0_ := Aside0.mk (Kd.S_elder' (by (with_reducible repeat first | apply Kd.S_alloc | apply Kd.S_drewN | apply Kd.S_drew); exact HO_3.out) (Kd.R_base ho0) hb)
       have n1_ := Aside0.mk (Kd.R_elder' (by (with_reducible repeat first | apply Kd.R_alloc | apply Kd.R_drewN | apply Kd.R_drew); exact HO276.out) (Kd.R_base ho0) hb)
       have n2_ := Aside0.mk (Kd.R_lower (Kd.R_new' ho0 (Kd.R_lt (by (with_reducible repeat first | apply Kd.R_alloc | apply Kd.R_drewN | apply Kd.R_drew); exact HO276.out))) (below_size (by repeat first | (with_reducible first | exact HB.out | apply below_alloc | apply pw_below_drewN | apply below_drew1 | refine below_set ?_ GE273.out) | exact HB.out)))
       have n3_ := Aside0.mk (blk_below (g := gb273) (o := .cells #[.string ((rd_T31 l0 x9_1).f0), .string ((rd_T31 l0 x9_1).f1), .slice A272_2 ((rd_T31 l0 x9_1).f2).length c272_2, .slice A272_3 ((rd_T31 l0 x9_1).f3).length c272_3] 31 (0, 0)) (by (with_reducible repeat first | apply blk_drewN | apply blk_drew | apply blk_alloc); exact BK273.out) hb)
       have n4_ := Aside0.mk (below_step (by repeat first | (with_reducible first | exact HB.out | apply below_alloc | apply pw_below_drewN | apply below_drew1 | refine below_set ?_ GE273.out) | exact HB.out) hb); clear HO_3 HO276 BK273 HB; have HO_3 := n0_; have HO276 := n1_; have HO279 := n2_; have BK273 := n3_; have HB := n4_; clear n0_ n1_ n2_ n3_ n4_
       (try clear hb)
       (try clear hb2)
       (try clear hk)
       (try clear hi)
       (try clear ho0)
       obtain ⟨Ao16, co16, eo16⟩ := Kd.R_slice HO276.out
       (first | subst eo16 | (injection eo16 with f1_ f2_ f3_; have f4_ := f1_.symm; have f5_ := f3_.symm; clear f1_ f2_ f3_; subst f4_; subst f5_))
       obtain ⟨Ao18, co18, eo18⟩ := Kd.R_slice HO279.out
       (first | subst eo18 | (injection eo18 with f1_ f2_ f3_; have f4_ := f1_.symm; have f5_ := f3_.symm; clear f1_ f2_ f3_; subst f4_; subst f5_))
       refine hK.out _ _ ⟨(blk_cell BK273.out 0).trans rfl, (blk_cell BK273.out 1).trans rfl, (blk_cell BK273.out 2).trans rfl, (blk_cell BK273.out 3).trans rfl⟩ (fun hHeld => ?_)
       clear hK K
       refine norm_ (a' := ?_) ?_ ?_
       rotate_left
       ·show Act.put _ (some 18) _ = _
        simp only [Act.put, ps_]
        rfl
       refine last_ (i := 7) (N := none) #[tt,tt,tt,tt,tt,tt,tt,tt,ff,ff] rfl rfl (one_of HT_.out (by kernel_rfl)) (by decide) (fun K hK => ?_)
       have hs17 : w15.cell? ⟨gb273, 2, none⟩ = some (.slice A272_2 ((rd_T31 l0 x9_1).f2).length c272_2) := (blk_cell BK273.out 2).trans rfl
       have hfs17 := blk_frozen BK273.out 2
       refine skip_ (w1 := ?_) (by rfl) rfl ?_ ?_
       rotate_left
       ·go_simp
        rfl
       refine hK.out _ _ ?_
       clear hK K
       refine pu_ 8 (some 20) (v := ?_) (a' := ?_) #[tt,tt,tt,tt,tt,tt,tt,tt,tt,ff] HT_.out rfl rfl (by kernel_rfl) (fun _ _ _ h => h) (Or.inl ⟨by rfl, ?_⟩) ?_ ?_
       rotate_left
       ·intro w'
        go_simp
        with_reducible rfl
       rotate_left
       ·simp only [Act.put, ps_]
        rfl
       refine last_ (i := 9) (N := none) #[tt,tt,tt,tt,tt,tt,tt,tt,tt,tt] rfl rfl (one_of HT_.out (by kernel_rfl)) (by decide) (fun K hK => ?_)
       have hs19 : w15.cell? ⟨gb273, 3, none⟩ = some (.slice A272_3 ((rd_T31 l0 x9_1).f3).length c272_3) := (blk_cell BK273.out 3).trans rfl
       have hfs19 := blk_frozen BK273.out 3
       refine skip_ (w1 := ?_) (by rfl) rfl ?_ ?_
       rotate_left
       ·go_simp
        rfl
       refine hK.out _ _ ?_
       clear hK K
       refine done_ (done_of HT_.out (by kernel_rfl)) ?_
       have n0_ : Aside0 (Kd.S kA31 31 ((w15.setCell ⟨gb273, 2, none⟩ (.slice Ao16 t274.length co16)).setCell ⟨gb273, 3, none⟩ (.slice Ao18 t277.length co18)) w.heap.size (fun k_ => some k_ ≠ (.slice Ao16 t274.length co16 : Value).ownBlock ∧ some k_ ≠ (.slice Ao18 t277.length co18 : Value).ownBlock ∧ k_ ≠ gb273) u3 x3_1) := ⟨by (with_reducible repeat first | apply Kd.S_alloc | apply Kd.S_drewN | apply Kd.S_drew); exact Kd.S_mono (Kd.S_far (p := ⟨gb273, 3, none⟩) (Kd.S_far (p := ⟨gb273, 2, none⟩) (Kd.S_mono HO_3.out (fun k_ hk => (⟨hk, hk.1.1⟩ : _ ∧ k_ ≠ gb273))) (fun _ hk => hk.2) (.slice Ao16 t274.length co16)) (fun _ hk => hk.2) (.slice Ao18 t277.length co18)) (fun _ hk => ⟨hk.1.1.2, ⟨hk.1.2, hk.1.1.1⟩⟩)⟩
       have n1_ : Aside0 (Kd.R Kd.string 9 ((w15.setCell ⟨gb273, 2, none⟩ (.slice Ao16 t274.length co16)).setCell ⟨gb273, 3, none⟩ (.slice Ao18 t277.length co18)) w.heap.size (fun k_ => some k_ ≠ (.slice Ao18 t277.length co18 : Value).ownBlock) (.slice Ao16 t274.length co16) t274) := ⟨by (with_reducible repeat first | apply Kd.R_alloc | apply Kd.R_drewN | apply Kd.R_drew); exact Kd.R_mono (Kd.R_far (p := ⟨gb273, 3, none⟩) (Kd.R_far (p := ⟨gb273, 2, none⟩) (Kd.R_types HO276.out BK273.out (by decide)) (fun _ hk => hk.2) (.slice Ao16 t274.length co16)) (fun _ hk => hk.2) (.slice Ao18 t277.length co18)) (fun _ hk => hk.1.2)⟩
       have n2_ : Aside0 (Kd.R Kd.string 9 ((w15.setCell ⟨gb273, 2, none⟩ (.slice Ao16 t274.length co16)).setCell ⟨gb273, 3, none⟩ (.slice Ao18 t277.length co18)) w.heap.size (fun k_ => some k_ ≠ (.slice Ao16 t274.length co16 : Value).ownBlock) (.slice Ao18 t277.length co18) t277) := ⟨by (with_reducible repeat first | apply Kd.R_alloc | apply Kd.R_drewN | apply Kd.R_drew); exact Kd.R_mono (Kd.R_far (p := ⟨gb273, 3, none⟩) (Kd.R_far (p := ⟨gb273, 2, none⟩) (Kd.R_types HO279.out BK273.out (by decide)) (fun _ hk => hk.2) (.slice Ao16 t274.length co16)) (fun _ hk => hk.2) (.slice Ao18 t277.length co18)) (fun _ hk => hk.1.2)⟩
       have n3_ : Aside0 (((w15.setCell ⟨gb273, 2, none⟩ (.slice Ao16 t274.length co16)).setCell ⟨gb273, 3, none⟩ (.slice Ao18 t277.length co18)).heap[gb273]? = some (.cells #[.string ((rd_T31 l0 x9_1).f0), .string ((rd_T31 l0 x9_1).f1), .slice Ao16 t274.length co16, .slice Ao18 t277.length co18] 31 (0, 0))) := ⟨by (with_reducible repeat first | apply blk_drewN | apply blk_drew | apply blk_alloc); refine blk_put (cs := #[.string ((rd_T31 l0 x9_1).f0), .string ((rd_T31 l0 x9_1).f1), .slice Ao16 t274.length co16, .slice A272_3 ((rd_T31 l0 x9_1).f3).length c272_3]) ?_ 3 _ rfl; (with_reducible repeat first | apply blk_drewN | apply blk_drew | apply blk_alloc); refine blk_put (cs := #[.string ((rd_T31 l0 x9_1).f0), .string ((rd_T31 l0 x9_1).f1), .slice A272_2 ((rd_T31 l0 x9_1).f2).length c272_2, .slice A272_3 ((rd_T31 l0 x9_1).f3).length c272_3]) ?_ 2 _ rfl; (with_reducible repeat first | apply blk_drewN | apply blk_drew | apply blk_alloc); exact BK273.out⟩
       have n4_ : Aside0 (Below w.heap.size w ((w15.setCell ⟨gb273, 2, none⟩ (.slice Ao16 t274.length co16)).setCell ⟨gb273, 3, none⟩ (.slice Ao18 t277.length co18))) := ⟨by repeat (first | (with_reducible first | exact HB.out | apply below_alloc | apply pw_below_drewN | apply below_drew1 | refine below_set ?_ GE273.out) | exact HB.out)⟩
       (try clear HO_3)
       (try clear HO276)
       (try clear HO279)
       (try clear BK273)
       (try clear HB)
       generalize ((w15.setCell ⟨gb273, 2, none⟩ (.slice Ao16 t274.length co16)).setCell ⟨gb273, 3, none⟩ (.slice Ao18 t277.length co18)) = w20 at n0_ n1_ n2_ n3_ n4_ ⊢
       have HO_3 := n0_; have HO276 := n1_; have HO279 := n2_; have BK273 := n3_; have HB := n4_; clear n0_ n1_ n2_ n3_ n4_
       have hcz21_0 : w20.cell? ⟨gb273, 0, none⟩ = some (.string ((rd_T31 l0 x9_1).f0)) := (blk_cell BK273.out 0).trans rfl
       have hcz21_1 : w20.cell? ⟨gb273, 1, none⟩ = some (.string ((rd_T31 l0 x9_1).f1)) := (blk_cell BK273.out 1).trans rfl
       have hcz21_2 : w20.cell? ⟨gb273, 2, none⟩ = some (.slice Ao16 t274.length co16) := (blk_cell BK273.out 2).trans rfl
       have hcz21_3 : w20.cell? ⟨gb273, 3, none⟩ = some (.slice Ao18 t277.length co18) := (blk_cell BK273.out 3).trans rfl
       have hfz21_0 := blk_frozen BK273.out 0; have hfz21_1 := blk_frozen BK273.out 1; have hfz21_2 := blk_frozen BK273.out 2; have hfz21_3 := blk_frozen BK273.out 3
       try go_wp2_with (first | ((with_reducible refine gate_builtin (b := .append) (xs := #[.tmp 21, .tmp 23]) rfl ?_); at_builtin; refine Kd.S_append kA31 (w0 := w) w.heap.size rfl (.tmp 21) (.tmp 23) 23 31 (.agg #[(.string ⟨#[]⟩), (.string ⟨#[]⟩), (.slice none 0 0), (.slice none 0 0)]) 80 rfl Try.underlying23 info31 rfl (by decide) (by omega) u3 x3_1 (⟨(rd_T31 l0 x9_1).f0, (rd_T31 l0 x9_1).f1, t274, t277⟩ : S31) [.string ((rd_T31 l0 x9_1).f0), .string ((rd_T31 l0 x9_1).f1), .slice Ao16 t274.length co16, .slice Ao18 t277.length co18] (fun k_ => k_ ≠ gb273) (fun k_ => some k_ = (.slice Ao16 t274.length co16 : Value).ownBlock ∨ some k_ = (.slice Ao18 t277.length co18 : Value).ownBlock) rfl rfl ?aP (fun k_ hk_ => hk_.elim (fun h_ => ((Kd.R_mono (ok' := fun k_ => ((fun k_ => k_ ≠ gb273)) k_ ∧ some k_ ≠ (u3 : Value).ownBlock) (Kd.R_types (Kd.R_apart' (HO276.out) (Kd.S_typed HO_3.out) (by decide)) BK273.out (by decide)) (fun k_ hk => ⟨hk.2, hk.1.2⟩))).1 k_ h_.symm) (fun h_ => ((Kd.R_mono (ok' := fun k_ => ((fun k_ => k_ ≠ gb273)) k_ ∧ some k_ ≠ (u3 : Value).ownBlock) (Kd.R_types (Kd.R_apart' (HO279.out) (Kd.S_typed HO_3.out) (by decide)) BK273.out (by decide)) (fun k_ hk => ⟨hk.2, hk.1.2⟩))).1 k_ h_.symm)) ?aF ?aO ?aB ?aS ?aL ?_; (case aP => exact kA31_mkM _ _ _ (⟨(rd_T31 l0 x9_1).f0, (rd_T31 l0 x9_1).f1, t274, t277⟩ : S31) (Kd.R_mono (Kd.R_tight rfl (Kd.R_mono (ok' := fun k_ => ((fun k_ => k_ ≠ gb273)) k_ ∧ some k_ ≠ (u3 : Value).ownBlock) (Kd.R_types (Kd.R_apart' (HO276.out) (Kd.S_typed HO_3.out) (by decide)) BK273.out (by decide)) (fun k_ hk => ⟨hk.2, hk.1.2⟩))) (fun _ h_ => Or.inl h_)) (Kd.R_mono (Kd.R_tight rfl (Kd.R_mono (ok' := fun k_ => ((fun k_ => k_ ≠ gb273)) k_ ∧ some k_ ≠ (u3 : Value).ownBlock) (Kd.R_types (Kd.R_apart' (HO279.out) (Kd.S_typed HO_3.out) (by decide)) BK273.out (by decide)) (fun k_ hk => ⟨hk.2, hk.1.2⟩))) (fun _ h_ => Or.inr (h_))) (fun k_ hk_ => (HO276.out).1 k_ hk_)); (case aB => exact (by repeat first | (with_reducible first | exact HB.out | apply below_alloc | apply pw_below_drewN | apply below_drew1 | refine below_set ?_ GE273.out) | exact HB.out)); (case aF => exact (fun k_ hk => Kd.freshB (g := gb273) (o := .cells #[.string ((rd_T31 l0 x9_1).f0), .string ((rd_T31 l0 x9_1).f1), .slice Ao16 t274.length co16, .slice Ao18 t277.length co18] 31 (0, 0)) (by (with_reducible repeat first | apply blk_drewN | apply blk_drew | apply blk_alloc); exact BK273.out) k_ hk)); (case aO => exact (by (with_reducible repeat first | apply Kd.S_alloc | apply Kd.S_drewN | apply Kd.S_drew); exact Kd.S_mono HO_3.out (fun k_ hk => ⟨hk.2.2, fun e_ => e_.elim (fun h_ => hk.1 h_) (fun h_ => hk.2.1 h_)⟩))); (case aS => exact (below_size (by repeat first | (with_reducible first | exact HB.out | apply below_alloc | apply pw_below_drewN | apply below_drew1 | refine below_set ?_ GE273.out) | exact HB.out))); (case aL => have := LMc9.out; omega); intro v281 w22 ho hb hg hat; rw [← Ny280.out] at ho; replace BK273 := Aside0.mk (blk_grown (g := gb273) (o := .cells #[.string ((rd_T31 l0 x9_1).f0), .string ((rd_T31 l0 x9_1).f1), .slice Ao16 t274.length co16, .slice Ao18 t277.length co18] 31 (0, 0)) (by (with_reducible repeat first | apply blk_drewN | apply blk_drew | apply blk_alloc); exact BK273.out) hg (Kd.S_away HO_3.out (fun _ hk => hk.2.2))); replace HB := Aside0.mk (hb); have HO282 := Aside0.mk (ho); clear HO_3 HO276 HO279; clear ho hb hg hat))
       go_roundg k1
       case measure => have := HK1.out; omega
       case rel => exact ⟨(y280), (wrap64 (x9_1 + 1)), (by first | rfl | (simp; done) | (simp [*]; done)), H', ⟨by have := HK1.out; omega⟩, ⟨by (with_reducible repeat first | apply Kd.S_alloc | apply Kd.S_drewN | apply Kd.S_drew); exact Kd.S_mono HO282.out (fun _ hk => trivial)⟩, ⟨by repeat (first | (with_reducible first | exact HB.out | apply below_alloc | apply pw_below_drewN | apply below_drew1 | refine below_set ?_ GE273.out) | exact HB.out)⟩⟩
      ·rw [if_neg c9] at H
       exact absurd H (by simp)
     ·rw [if_neg c6] at H
      exact absurd H (by simp)
    ·rw [if_neg c5] at H
     exact absurd H (by simp)
   ·rw [if_neg c4] at H
    have c4b0 : decide (x9_1 < (l0.length : Int)) = false := decide_eq_false c4
    clear c4
    obtain rfl := Option.some.inj H
    go_wp2
    go_ret
    exact ⟨_, by first | rfl | (simp [errW_none, errW_some] <;> rfl) | (simp [*, errW_none, errW_some] <;> rfl), by (with_reducible repeat first | apply Kd.S_alloc | apply Kd.S_drewN | apply Kd.S_drew); exact HO_3.out, by repeat (first | (with_reducible first | exact HB.out | apply below_alloc | apply pw_below_drewN | apply below_drew1) | exact HB.out)⟩


end Go.Proofs.Ytadhfpbkanobnaa.U
