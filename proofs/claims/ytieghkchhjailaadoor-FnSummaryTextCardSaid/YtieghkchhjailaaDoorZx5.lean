-- WRITTEN by wip/ext.py
import Derived.Test.YtieghkchhjailaaDoorZx0
import Derived.Test.YtieghkchhjailaaDoorZx3
import Derived.Test.YtieghkchhjailaaDoorZx4
namespace Go.Proofs.YtieghkchhjailaaDoor.Z
open Go.RowKit Go.Proofs.YtieghkchhjailaaDoorW.PrintWords Go.Proofs.YtieghkchhjailaaDoorW.PrintLast Go.Proofs.YtieghkchhjailaaDoorW.PrintMore
attribute [local go_sem] max2_int min2_int max_two min_two max_three min_three max_four min_four   -- for this text's walks alone
set_option linter.unusedVariables false
set_option linter.unusedSimpArgs false

/-! ### laws_FnSummaryText: function 3 -/
def laws_FnSummaryText.l0 : Nat → ByteArray → Int → Int → List (S30) → List ByteArray → List (S30) → List ByteArray → Option (Bool)
 | 0, _, _, _, _, _, _, _ => none
 | k + 1, x4, x6, x7, x245000, x245001, x248000, x248001 => if x7 ≥ 0 then (if 0 ≤ x7 then (if x7 < (x245000.length : Int) then (if x248000.length < 5864062014805 then ((some (x248000 ++ [(⟨(rd_T30 x245000 x7).f0, (rd_T30 x245000 x7).f1⟩ : S30)] : List (S30))).bind fun y249 => (if ((rd_T30 x245000 x7).f1) ≥ 0 then (if ((rd_T30 x245000 x7).f1) ≤ 5 then (laws_FnSummaryText.l0 k x4 (wrap64 (x6 + 1)) (wrap64 (x7 - 1)) x245000 x245001 y249 x248001) else (laws_FnSummaryText.l0 k x4 x6 (wrap64 (x7 - 1)) x245000 x245001 y249 x248001)) else (laws_FnSummaryText.l0 k x4 x6 (wrap64 (x7 - 1)) x245000 x245001 y249 x248001))) else (none)) else (none)) else (none)) else ((impl_SummaryText.f k x248000 x248001).bind fun t254 => (if t254.toList = x4.toList then (if x6 = 0 then (some ((x4.toList == ([110, 111, 116, 104, 105, 110, 103] : List UInt8)) == ((x245001.length : Int) == 0))) else (some ((x4.toList == ([110, 111, 116, 104, 105, 110, 103] : List UInt8)) == false))) else (some false)))
def laws_FnSummaryText.f (k : Nat) (l0 : List Int) : Option (Bool) := if (l0.length : Int) > 1048576 then (some true) else ((spec_DrawSummaryText.f k l0).bind fun bt238 => ((impl_SummaryText.f k bt238.1 bt238.2).bind fun t245 => ((spec_SummaryText.f k bt238.1 bt238.2).bind fun t246 => (if t245.toList = t246.toList then (laws_FnSummaryText.l0 k t245 0 (wrap64 ((bt238.1.length : Int) - 1)) bt238.1 bt238.2 ([] : List (S30)) bt238.2) else ((spec_SummaryText.f k bt238.1 bt238.2).bind fun t255 => (some (t245.toList == t255.toList)))))))
theorem laws_FnSummaryText.mono_l : ∀ k, (∀ y0 y1 y2 y3 y4 y5 y6, LeO (laws_FnSummaryText.l0 k y0 y1 y2 y3 y4 y5 y6) (laws_FnSummaryText.l0 (k + 1) y0 y1 y2 y3 y4 y5 y6))
 | 0 => fun _ _ _ _ _ _ _ r h => by simp [laws_FnSummaryText.l0] at h
 | k + 1 => by
  have ih0 := laws_FnSummaryText.mono_l k
  ·intro y0 y1 y2 y3 y4 y5 y6
   unfold laws_FnSummaryText.l0
   repeat' first
   | (with_reducible exact ih0 _ _ _ _ _ _ _)
   | (with_reducible exact impl_SummaryText.mono _ _ _)
   | (with_reducible exact spec_DrawSummaryText.mono _ _)
   | (with_reducible exact spec_SummaryText.mono _ _ _)
   | (with_reducible exact LeO.refl _)
   | (with_reducible exact LeO.none _)
   | (with_reducible refine LeO.ite ?_ ?_)
   | (with_reducible refine LeO.bind ?_ (fun _ => ?_))
   | refine LeO.ite ?_ ?_
   | refine LeO.bind ?_ (fun _ => ?_)
theorem laws_FnSummaryText.mono : ∀ a0 k, LeO (laws_FnSummaryText.f k a0) (laws_FnSummaryText.f (k + 1) a0) := by
 intro a0 k
 have ih0 := laws_FnSummaryText.mono_l k
 unfold laws_FnSummaryText.f
 repeat' first
   | (with_reducible exact ih0 _ _ _ _ _ _ _)
   | (with_reducible exact impl_SummaryText.mono _ _ _)
   | (with_reducible exact spec_DrawSummaryText.mono _ _)
   | (with_reducible exact spec_SummaryText.mono _ _ _)
   | (with_reducible exact LeO.refl _)
   | (with_reducible exact LeO.none _)
   | (with_reducible refine LeO.ite ?_ ?_)
   | (with_reducible refine LeO.bind ?_ (fun _ => ?_))
   | refine LeO.ite ?_ ?_
   | refine LeO.bind ?_ (fun _ => ?_)
def laws_FnSummaryText.T12 : Bool × List (List Nat × List Nat) := (true, [([], []), ([0], [0]), ([], []), ([2], [2]), ([], []), ([3, 4], [3, 4]), ([5], [5]), ([6], [6]), ([1, 7], [1, 7]), ([0, 1, 2, 3, 4, 5, 6, 7, 8], []), ([9, 8, 8, 0, 1, 2, 3, 4, 5, 6, 7, 8], [8, 9])])
def laws_FnSummaryText.B12 : List Nat := [0, 1, 0, 4, 0, 28, 60, 124, 255, 511, 1023]
theorem laws_FnSummaryText.tab12 : rtab .any (opsOf Tryd.f3 12) = laws_FnSummaryText.T12 := by kernel_rfl
theorem laws_FnSummaryText.bits12 : waitsOk laws_FnSummaryText.T12.2 laws_FnSummaryText.B12 = true := by kernel_rfl
set_option maxHeartbeats 8000000 in
set_option maxRecDepth 100000 in
theorem laws_FnSummaryText.calls (k : Nat) (A0 : Option Addr) (c0 : Nat) (l0 : List Int) (r : Bool) (w : World) (hr0 : Kd.C (Kd.int .u8) w A0 l0.length l0) (hc0 : l0.length ≤ c0) (h : laws_FnSummaryText.f k l0 = some r) :
  Calls Tryd.prog 3 #[.slice A0 l0.length c0] w fun e w' => e = .returned (.bool r) ∧ Below w.heap.size w w' := by
 have hu26 := Tryd.underlying26; have hu30 := Tryd.underlying30; have HR0 := Aside0.mk hr0; have HC0 := Aside0.mk hc0; clear hr0 hc0; have HB := Aside0.mk (Below.refl w.heap.size w)
 have H : (if (l0.length : Int) > 1048576 then (some true) else ((spec_DrawSummaryText.f k l0).bind fun bt238 => ((impl_SummaryText.f k bt238.1 bt238.2).bind fun t245 => ((spec_SummaryText.f k bt238.1 bt238.2).bind fun t246 => (if t245.toList = t246.toList then (laws_FnSummaryText.l0 k t245 0 (wrap64 ((bt238.1.length : Int) - 1)) bt238.1 bt238.2 ([] : List (S30)) bt238.2) else ((spec_SummaryText.f k bt238.1 bt238.2).bind fun t255 => (some (t245.toList == t255.toList)))))))) = some r := h
 clear h
 by_cases c2 : (l0.length : Int) > 1048576
 ·rw [if_pos c2] at H
  have c2b0 : decide (1048576 < (l0.length : Int)) = true := decide_eq_true c2
  have c2b1 : decide (1048576 < l0.length) = true := decide_eq_true (by omega)
  clear c2
  obtain rfl := Option.some.inj H
  go_enter Tryd.func3, Tryd.ntmps3
  go_wp2
  go_ret
  exact ⟨by first | rfl | (simp [errW_none, errW_some] <;> rfl) | (simp [*, errW_none, errW_some] <;> rfl), by repeat (first | (with_reducible first | exact HB.out | apply below_alloc | apply pw_below_drewN | apply below_drew1) | exact HB.out)⟩
 ·rw [if_neg c2] at H
  have c2b0 : decide (1048576 < (l0.length : Int)) = false := decide_eq_false c2
  have c2b1 : decide (1048576 < l0.length) = false := decide_eq_false (by omega)
  clear c2
  replace H := Option.bind_eq_some_iff.mp H
  obtain ⟨⟨t238, t241⟩, A30, H⟩ := H
  replace H : ((impl_SummaryText.f k t238 t241).bind fun t245 => ((spec_SummaryText.f k t238 t241).bind fun t246 => (if t245.toList = t246.toList then (laws_FnSummaryText.l0 k t245 0 (wrap64 ((t238.length : Int) - 1)) t238 t241 ([] : List (S30)) t241) else ((spec_SummaryText.f k t238 t241).bind fun t255 => (some (t245.toList == t255.toList)))))) = some r := H
  have A3 := Aside0.mk A30; clear A30
  replace H := Option.bind_eq_some_iff.mp H
  obtain ⟨t245, A40, H⟩ := H
  replace H : ((spec_SummaryText.f k t238 t241).bind fun t246 => (if t245.toList = t246.toList then (laws_FnSummaryText.l0 k t245 0 (wrap64 ((t238.length : Int) - 1)) t238 t241 ([] : List (S30)) t241) else ((spec_SummaryText.f k t238 t241).bind fun t255 => (some (t245.toList == t255.toList))))) = some r := H
  have A4 := Aside0.mk A40; clear A40
  replace H := Option.bind_eq_some_iff.mp H
  obtain ⟨t246, A50, H⟩ := H
  replace H : (if t245.toList = t246.toList then (laws_FnSummaryText.l0 k t245 0 (wrap64 ((t238.length : Int) - 1)) t238 t241 ([] : List (S30)) t241) else ((spec_SummaryText.f k t238 t241).bind fun t255 => (some (t245.toList == t255.toList)))) = some r := H
  have A5 := Aside0.mk A50; clear A50
  by_cases c6 : t245.toList = t246.toList
  ·rw [if_pos c6] at H
   have c6b0 : (t245.toList == t246.toList) = true := beq_iff_eq.mpr c6
   have c6b1 : (t245.toList != t246.toList) = false := bne_eq_false_iff_eq.mpr c6
   clear c6; have H' := Aside0.mk H; clear H
   go_enter Tryd.func3, Tryd.ntmps3
   go_wp2_with (first | ((with_reducible refine gate_callee (f := 4) rfl ?_); refine goesL_ (some 12) rfl rfl Tryd.func4 (by kernel_rfl) rfl #[.slice A0 l0.length c0] rfl (by (try simp only [List.map_toArray, List.map_cons, List.map_nil]); first | done | rfl) ?_; (with_reducible refine (spec_DrawSummaryText.calls k _ _ l0 t238 t241 _ ?side1 ?side2 A3.out).mono ?_); (case side1 => repeat (first | exact HR0.out | with_reducible first | apply Kd.C_alloc | apply Kd.C_drewN | apply Kd.C_drew)); (case side2 => exact HC0.out); rintro e w7 ⟨v239, v242, rfl, ho0, ho1, hb⟩; refine ⟨_, rfl, ?_⟩; have HO240 := Aside0.mk (Kd.R_lower ho0 (below_size (by repeat first | (with_reducible first | exact HB.out | apply below_alloc | apply pw_below_drewN | apply below_drew1) | exact HB.out))); have HO243 := Aside0.mk (Kd.R_lower ho1 (below_size (by repeat first | (with_reducible first | exact HB.out | apply below_alloc | apply pw_below_drewN | apply below_drew1) | exact HB.out))); replace HB := Aside0.mk (below_step (by repeat first | (with_reducible first | exact HB.out | apply below_alloc | apply pw_below_drewN | apply below_drew1) | exact HB.out) hb); (try clear hb); (try clear ho0); (try clear ho1)) | ((with_reducible refine gate_dst (N := 3) rfl ?_); (try (refine gate_guard (by rfl) ?_; dsimp only)); refine box_event ?hg (N := 3) ?hd (cs := #[.slice none 0 0, .slice none 0 0]) (t := 26) ?hr ?_; (case hd => rfl); (case hg => rfl); (case hr => first | (go_simp; done) | (go_simp; rfl)); intro gb244 hg w8 hbox hb; replace HO240 := Aside0.mk (Kd.R_below (by (with_reducible repeat first | apply Kd.R_alloc | apply Kd.R_drewN | apply Kd.R_drew); exact HO240.out) hb); replace HO243 := Aside0.mk (Kd.R_below (by (with_reducible repeat first | apply Kd.R_alloc | apply Kd.R_drewN | apply Kd.R_drew); exact HO243.out) hb); have BK244 := Aside0.mk (hbox); have GW244 := Aside0.mk ((by rw [hg]; exact (below_size (by repeat first | (with_reducible first | exact HB.out | apply below_alloc | apply pw_below_drewN | apply below_drew1) | exact HB.out)) : w.heap.size ≤ gb244)); have GE244 := Aside0.mk ((by rw [hg]; exact (below_size (by repeat first | (with_reducible first | exact HB.out | apply below_alloc | apply pw_below_drewN | apply below_drew1) | exact HB.out)) : w.heap.size ≤ gb244)); replace HB := Aside0.mk (below_step (by repeat first | (with_reducible first | exact HB.out | apply below_alloc | apply pw_below_drewN | apply below_drew1) | exact HB.out) hb); clear hb hbox hg; obtain ⟨Ao9, co9, eo9⟩ := Kd.R_slice HO240.out; subst eo9; have hcz10_0 : w8.cell? ⟨gb244, 0, none⟩ = some (.slice none 0 0) := (blk_cell BK244.out 0).trans rfl; have hcz10_1 : w8.cell? ⟨gb244, 1, none⟩ = some (.slice none 0 0) := (blk_cell BK244.out 1).trans rfl; have hfz10_0 := blk_frozen BK244.out 0; have hfz10_1 := blk_frozen BK244.out 1; obtain ⟨Ao11, co11, eo11⟩ := Kd.R_slice HO243.out; subst eo11) | ((with_reducible refine gate_callee (f := 5) rfl ?_); refine goesL_ (some 14) rfl rfl Tryd.func5 (by kernel_rfl) rfl #[.agg #[.slice Ao9 t238.length co9, .slice Ao11 t241.length co11]] rfl (by (try simp only [List.map_toArray, List.map_cons, List.map_nil]); first | done | rfl) ?_; (with_reducible refine (impl_SummaryText.calls k _ _ t238 _ _ t241 t245 _ ?side1 ?side2 ?side3 ?side4 A4.out).mono ?_); (case side1 => refine (Kd.R_reads' (e := 30) (base := w.heap.size) (ok := fun k_ => True) (n := t238.length) (c := co9) ?_).2.2; exact (by (with_reducible repeat first | apply Kd.R_alloc | apply Kd.R_drewN | apply Kd.R_drew); exact (Kd.R_mono (Kd.R_far (p := ⟨gb244, 1, none⟩) (Kd.R_far (p := ⟨gb244, 0, none⟩) (Kd.R_types HO240.out BK244.out (by decide)) (fun _ hk => hk.2) (.slice Ao9 t238.length co9)) (fun _ hk => hk.2) (.slice Ao11 t241.length co11)) (fun _ h_ => h_.1)))); (case side2 => exact (Kd.R_reads' HO240.out).2.1); (case side3 => refine (Kd.R_reads' (e := 9) (base := w.heap.size) (ok := fun k_ => True) (n := t241.length) (c := co11) ?_).2.2; exact (by (with_reducible repeat first | apply Kd.R_alloc | apply Kd.R_drewN | apply Kd.R_drew); exact (Kd.R_mono (Kd.R_far (p := ⟨gb244, 1, none⟩) (Kd.R_far (p := ⟨gb244, 0, none⟩) (Kd.R_types HO243.out BK244.out (by decide)) (fun _ hk => hk.2) (.slice Ao9 t238.length co9)) (fun _ hk => hk.2) (.slice Ao11 t241.length co11)) (fun _ h_ => h_.1)))); (case side4 => exact (Kd.R_reads' HO243.out).2.1); rintro e w12 ⟨rfl, hb⟩; refine ⟨_, rfl, ?_⟩; replace HO240 := Aside0.mk (Kd.R_below (by (with_reducible repeat first | apply Kd.R_alloc | apply Kd.R_drewN | apply Kd.R_drew); exact (Kd.R_mono (Kd.R_far (p := ⟨gb244, 1, none⟩) (Kd.R_far (p := ⟨gb244, 0, none⟩) (Kd.R_types HO240.out BK244.out (by decide)) (fun _ hk => hk.2) (.slice Ao9 t238.length co9)) (fun _ hk => hk.2) (.slice Ao11 t241.length co11)) (fun _ h_ => h_.1))) hb); replace HO243 := Aside0.mk (Kd.R_below (by (with_reducible repeat first | apply Kd.R_alloc | apply Kd.R_drewN | apply Kd.R_drew); exact (Kd.R_mono (Kd.R_far (p := ⟨gb244, 1, none⟩) (Kd.R_far (p := ⟨gb244, 0, none⟩) (Kd.R_types HO243.out BK244.out (by decide)) (fun _ hk => hk.2) (.slice Ao9 t238.length co9)) (fun _ hk => hk.2) (.slice Ao11 t241.length co11)) (fun _ h_ => h_.1))) hb); replace BK244 := Aside0.mk (blk_below (g := gb244) (o := .cells #[.slice Ao9 t238.length co9, .slice Ao11 t241.length co11] 26 (0, 0)) (by (with_reducible repeat first | apply blk_drewN | apply blk_drew | apply blk_alloc); refine blk_put (cs := #[.slice Ao9 t238.length co9, .slice none 0 0]) ?_ 1 _ rfl; (with_reducible repeat first | apply blk_drewN | apply blk_drew | apply blk_alloc); refine blk_put (cs := #[.slice none 0 0, .slice none 0 0]) ?_ 0 _ rfl; (with_reducible repeat first | apply blk_drewN | apply blk_drew | apply blk_alloc); exact BK244.out) hb); replace HB := Aside0.mk (below_step (by repeat first | (with_reducible first | exact HB.out | apply below_alloc | apply pw_below_drewN | apply below_drew1 | refine below_set ?_ GE244.out) | exact HB.out) hb); (try clear hb); have hcz13_0 : w12.cell? ⟨gb244, 0, none⟩ = some (.slice Ao9 t238.length co9) := (blk_cell BK244.out 0).trans rfl; have hcz13_1 : w12.cell? ⟨gb244, 1, none⟩ = some (.slice Ao11 t241.length co11) := (blk_cell BK244.out 1).trans rfl; have hfz13_0 := blk_frozen BK244.out 0; have hfz13_1 := blk_frozen BK244.out 1) | ((with_reducible refine gate_callee (f := 6) rfl ?_); refine goesL_ (some 17) rfl rfl Tryd.func6 (by kernel_rfl) rfl #[.agg #[.slice Ao9 t238.length co9, .slice Ao11 t241.length co11]] rfl (by (try simp only [List.map_toArray, List.map_cons, List.map_nil]); first | done | rfl) ?_; (with_reducible refine (spec_SummaryText.calls k _ _ t238 _ _ t241 t246 _ ?side1 ?side2 ?side3 ?side4 A5.out).mono ?_); (case side1 => repeat (first | exact (Kd.R_reads' HO240.out).2.2 | with_reducible first | apply Kd.C_alloc | apply Kd.C_drewN | apply Kd.C_drew)); (case side2 => exact (Kd.R_reads' HO240.out).2.1); (case side3 => repeat (first | exact (Kd.R_reads' HO243.out).2.2 | with_reducible first | apply Kd.C_alloc | apply Kd.C_drewN | apply Kd.C_drew)); (case side4 => exact (Kd.R_reads' HO243.out).2.1); rintro e w14 ⟨rfl, hb⟩; refine ⟨_, rfl, ?_⟩; replace HO240 := Aside0.mk (Kd.R_below (by (with_reducible repeat first | apply Kd.R_alloc | apply Kd.R_drewN | apply Kd.R_drew); exact HO240.out) hb); replace HO243 := Aside0.mk (Kd.R_below (by (with_reducible repeat first | apply Kd.R_alloc | apply Kd.R_drewN | apply Kd.R_drew); exact HO243.out) hb); replace BK244 := Aside0.mk (blk_below (g := gb244) (o := .cells #[.slice Ao9 t238.length co9, .slice Ao11 t241.length co11] 26 (0, 0)) (by (with_reducible repeat first | apply blk_drewN | apply blk_drew | apply blk_alloc); exact BK244.out) hb); replace HB := Aside0.mk (below_step (by repeat first | (with_reducible first | exact HB.out | apply below_alloc | apply pw_below_drewN | apply below_drew1 | refine below_set ?_ GE244.out) | exact HB.out) hb); (try clear hb); have hcz15_0 : w14.cell? ⟨gb244, 0, none⟩ = some (.slice Ao9 t238.length co9) := (blk_cell BK244.out 0).trans rfl; have hcz15_1 : w14.cell? ⟨gb244, 1, none⟩ = some (.slice Ao11 t241.length co11) := (blk_cell BK244.out 1).trans rfl; have hfz15_0 := blk_frozen BK244.out 0; have hfz15_1 := blk_frozen BK244.out 1) | ((with_reducible refine gate_dst (N := 5) rfl ?_); (try (refine gate_guard (by rfl) ?_; dsimp only)); refine box_event ?hg (N := 5) ?hd (cs := #[.slice none 0 0, .slice none 0 0]) (t := 26) ?hr ?_; (case hd => rfl); (case hg => rfl); (case hr => first | (go_simp; done) | (go_simp; rfl)); intro gb247 hg w16 hbox hb; replace HO240 := Aside0.mk (Kd.R_below (by (with_reducible repeat first | apply Kd.R_alloc | apply Kd.R_drewN | apply Kd.R_drew); exact HO240.out) hb); replace HO243 := Aside0.mk (Kd.R_below (by (with_reducible repeat first | apply Kd.R_alloc | apply Kd.R_drewN | apply Kd.R_drew); exact HO243.out) hb); have BK247 := Aside0.mk (hbox); have GW247 := Aside0.mk ((by rw [hg]; exact (below_size (by repeat first | (with_reducible first | exact HB.out | apply below_alloc | apply pw_below_drewN | apply below_drew1 | refine below_set ?_ GE244.out) | exact HB.out)) : w.heap.size ≤ gb247)); have GE247 := Aside0.mk ((by rw [hg]; exact (below_size (by repeat first | (with_reducible first | exact HB.out | apply below_alloc | apply pw_below_drewN | apply below_drew1 | refine below_set ?_ GE244.out) | exact HB.out)) : w.heap.size ≤ gb247)); replace HB := Aside0.mk (below_step (by repeat first | (with_reducible first | exact HB.out | apply below_alloc | apply pw_below_drewN | apply below_drew1 | refine below_set ?_ GE244.out) | exact HB.out) hb); have NB244_247 := Aside0.mk ((by rw [hg]; exact Nat.ne_of_lt (blk_lt (g := gb244) (o := .cells #[.slice Ao9 t238.length co9, .slice Ao11 t241.length co11] 26 (0, 0)) (by (with_reducible repeat first | apply blk_drewN | apply blk_drew | apply blk_alloc); exact BK244.out)) : gb244 ≠ gb247)); have NB247_244 := Aside0.mk ((by rw [hg]; exact Nat.ne_of_gt (blk_lt (g := gb244) (o := .cells #[.slice Ao9 t238.length co9, .slice Ao11 t241.length co11] 26 (0, 0)) (by (with_reducible repeat first | apply blk_drewN | apply blk_drew | apply blk_alloc); exact BK244.out)) : gb247 ≠ gb244)); replace BK244 := Aside0.mk (blk_below (g := gb244) (o := .cells #[.slice Ao9 t238.length co9, .slice Ao11 t241.length co11] 26 (0, 0)) (by (with_reducible repeat first | apply blk_drewN | apply blk_drew | apply blk_alloc); exact BK244.out) hb); clear hb hbox hg; have hnb17 := NB247_244.out; have hnc17 := NB244_247.out; have hcz18_0 : w16.cell? ⟨gb247, 0, none⟩ = some (.slice none 0 0) := (blk_cell BK247.out 0).trans rfl; have hcz18_1 : w16.cell? ⟨gb247, 1, none⟩ = some (.slice none 0 0) := (blk_cell BK247.out 1).trans rfl; have hfz18_0 := blk_frozen BK247.out 0; have hfz18_1 := blk_frozen BK247.out 1; have hcz19_0 : w16.cell? ⟨gb244, 0, none⟩ = some (.slice Ao9 t238.length co9) := (blk_cell BK244.out 0).trans rfl; have hcz19_1 : w16.cell? ⟨gb244, 1, none⟩ = some (.slice Ao11 t241.length co11) := (blk_cell BK244.out 1).trans rfl; have hfz19_0 := blk_frozen BK244.out 0; have hfz19_1 := blk_frozen BK244.out 1))
   go_loopg [6, 7] k (fun kq v6 v7 w' => ∃ (x6_1 : Int) (x7_1 : Int) (x248000_1 : List (S30)) (u248000 : Value), v6 = .int .i64 x6_1 ∧ v7 = .int .i64 x7_1 ∧ Aside0 (laws_FnSummaryText.l0 kq t245 x6_1 x7_1 t238 t241 x248000_1 t241 = some r) ∧ Aside0 (kq ≤ k) ∧ Aside0 (Kd.R k30 30 w' w.heap.size (fun k_ => some k_ ≠ (u248000 : Value).ownBlock) (.slice Ao9 t238.length co9) t238) ∧ Aside0 (Kd.R Kd.string 9 w' w.heap.size (fun _ => True) (.slice Ao11 t241.length co11) t241) ∧ Aside0 (Kd.R k30 30 w' w.heap.size (fun k_ => some k_ ≠ ((.slice Ao9 t238.length co9) : Value).ownBlock) u248000 x248000_1) ∧ Aside0 (Kd.R Kd.string 9 w' w.heap.size (fun _ => True) (.slice Ao11 t241.length co11) t241) ∧ Aside0 (w'.heap[gb244]? = some (.cells #[(.slice Ao9 t238.length co9), (.slice Ao11 t241.length co11)] 26 (0, 0))) ∧ Aside0 (w'.heap[gb247]? = some (.cells #[u248000, (.slice Ao11 t241.length co11)] 26 (0, 0))) ∧ Aside0 (Below w.heap.size w w'))
   case atStart => exact ⟨(0), (wrap64 ((t238.length : Int) - 1)), (([] : List (S30))), (.slice none 0 0), (by first | rfl | (simp; done) | (simp [*]; done)), (by first | rfl | (simp; done) | (simp [*]; done)), H', ⟨Nat.le_refl _⟩, ⟨by (with_reducible repeat first | apply Kd.R_alloc | apply Kd.R_drewN | apply Kd.R_drew); exact Kd.R_mono (Kd.R_far (p := ⟨gb247, 1, none⟩) (Kd.R_far (p := ⟨gb247, 0, none⟩) (Kd.R_types HO240.out BK247.out (by decide)) (fun _ hk => hk.2) (.slice none 0 0)) (fun _ hk => hk.2) (.slice Ao11 t241.length co11)) (fun _ hk => (by simp [Value.ownBlock]))⟩, ⟨by (with_reducible repeat first | apply Kd.R_alloc | apply Kd.R_drewN | apply Kd.R_drew); exact Kd.R_mono (Kd.R_far (p := ⟨gb247, 1, none⟩) (Kd.R_far (p := ⟨gb247, 0, none⟩) (Kd.R_types HO243.out BK247.out (by decide)) (fun _ hk => hk.2) (.slice none 0 0)) (fun _ hk => hk.2) (.slice Ao11 t241.length co11)) (fun _ hk => trivial)⟩, ⟨by first | exact Kd.R_nil _ _ _ _ _ | exact Kd.N_nil _ _ _ _ _ | exact Kd.V_nil _ _ _ _ _ | exact Kd.Q_nil _ _ _ _ _ | exact Kd.S_nil _ _ _ _ _⟩, ⟨by (with_reducible repeat first | apply Kd.R_alloc | apply Kd.R_drewN | apply Kd.R_drew); exact Kd.R_mono (Kd.R_far (p := ⟨gb247, 1, none⟩) (Kd.R_far (p := ⟨gb247, 0, none⟩) (Kd.R_types HO243.out BK247.out (by decide)) (fun _ hk => hk.2) (.slice none 0 0)) (fun _ hk => hk.2) (.slice Ao11 t241.length co11)) (fun _ hk => trivial)⟩, ⟨by (with_reducible repeat first | apply blk_drewN | apply blk_drew | apply blk_alloc); refine blk_far ?_ NB244_247.out _; (with_reducible repeat first | apply blk_drewN | apply blk_drew | apply blk_alloc); refine blk_far ?_ NB244_247.out _; (with_reducible repeat first | apply blk_drewN | apply blk_drew | apply blk_alloc); exact BK244.out⟩, ⟨by (with_reducible repeat first | apply blk_drewN | apply blk_drew | apply blk_alloc); refine blk_put (cs := #[.slice none 0 0, .slice none 0 0]) ?_ 1 _ rfl; (with_reducible repeat first | apply blk_drewN | apply blk_drew | apply blk_alloc); refine blk_put (cs := #[.slice none 0 0, .slice none 0 0]) ?_ 0 _ rfl; (with_reducible repeat first | apply blk_drewN | apply blk_drew | apply blk_alloc); exact BK247.out⟩, ⟨by repeat (first | (with_reducible first | exact HB.out | apply below_alloc | apply pw_below_drewN | apply below_drew1 | refine below_set ?_ GE244.out | refine below_set ?_ GE247.out) | exact HB.out)⟩⟩
   case round =>
    clear H'; try clear c1; try clear c2; try clear c2b0; try clear c2b1; try clear p2; try clear c3; try clear c4; try clear c5; try clear c6; try clear c6b0; try clear c6b1; try clear p6; try clear c17; try clear hcz10_0; try clear hcz10_1; try clear hcz13_0; try clear hcz13_1; try clear hcz15_0; try clear hcz15_1; try clear hcz18_0; try clear hcz18_1; try clear hcz19_0; try clear hcz19_1; try clear hfz10_0; try clear hfz10_1; try clear hfz13_0; try clear hfz13_1; try clear hfz15_0; try clear hfz15_1; try clear hfz18_0; try clear hfz18_1; try clear hfz19_0; try clear hfz19_1
    obtain ⟨x6_1, x7_1, x248000_1, u248000, rfl, rfl, HA, HK1, HO_245000, HO_245001, HO_248000, HO_248001, BK244, BK247, HB⟩ := hrel
    cases gk with
    | zero => exact absurd HA.out (by simp [laws_FnSummaryText.l0])
    | succ k1 =>
     have H := HA.out; clear HA
     simp only [laws_FnSummaryText.l0] at H
     by_cases c20 : x7_1 ≥ 0
     ·rw [if_pos c20] at H
      have c20b0 : decide (0 ≤ x7_1) = true := decide_eq_true c20
      clear c20
      by_cases c21 : 0 ≤ x7_1
      ·rw [if_pos c21] at H
       have c21b0 : decide (0 ≤ x7_1) = true := decide_eq_true c21
       clear c21
       by_cases c22 : x7_1 < (t238.length : Int)
       ·rw [if_pos c22] at H
        have c22b0 : decide (x7_1 < (t238.length : Int)) = true := decide_eq_true c22
        clear c22
        by_cases c23 : x248000_1.length < 5864062014805
        ·rw [if_pos c23] at H
         have LMc23 := Aside0.mk c23; clear c23
         obtain ⟨y249, hy249⟩ : ∃ y_ : List (S30), y_ = (x248000_1 ++ [(⟨(rd_T30 t238 x7_1).f0, (rd_T30 t238 x7_1).f1⟩ : S30)]) := ⟨_, rfl⟩
         replace H : (if ((rd_T30 t238 x7_1).f1) ≥ 0 then (if ((rd_T30 t238 x7_1).f1) ≤ 5 then (laws_FnSummaryText.l0 k1 t245 (wrap64 (x6_1 + 1)) (wrap64 (x7_1 - 1)) t238 t241 y249 t241) else (laws_FnSummaryText.l0 k1 t245 x6_1 (wrap64 (x7_1 - 1)) t238 t241 y249 t241)) else (laws_FnSummaryText.l0 k1 t245 x6_1 (wrap64 (x7_1 - 1)) t238 t241 y249 t241)) = some r := by first | (rw [hy249]; with_reducible exact H) | (have H2_ := (Option.bind_some _ _).symm.trans H; rw [hy249]; with_reducible exact H2_) | (have H2_ := (Option.bind_some _ _).symm.trans H; with_reducible exact H2_) | with_reducible exact H | (rw [hy249]; exact H) | exact H
         have Ny249 := Aside0.mk hy249; clear hy249
         by_cases c24 : ((rd_T30 t238 x7_1).f1) ≥ 0
         ·rw [if_pos c24] at H
          have c24b0 : decide (0 ≤ ((rd_T30 t238 x7_1).f1)) = true := decide_eq_true c24
          clear c24
          by_cases c25 : ((rd_T30 t238 x7_1).f1) ≤ 5
          ·rw [if_pos c25] at H
           have c25b0 : decide (((rd_T30 t238 x7_1).f1) ≤ 5) = true := decide_eq_true c25
           clear c25; have H' := Aside0.mk H; clear H; try go_wp2; replace HO_245000 := Aside0.mk (Kd.R_drew HO_245000.out); replace HO_245001 := Aside0.mk (Kd.R_drew HO_245001.out); replace HO_248000 := Aside0.mk (Kd.R_drew HO_248000.out); replace HO_248001 := Aside0.mk (Kd.R_drew HO_248001.out); replace BK244 := Aside0.mk (blk_drew BK244.out); replace BK247 := Aside0.mk (blk_drew BK247.out); replace HB := Aside0.mk (below_drew1 HB.out)
           have p248 : 0 ≤ (x7_1 : Int) := of_decide_eq_true (by first | (with_reducible assumption) | assumption)
           have q248 : x7_1 < (t238.length : Int) := of_decide_eq_true (by first | (with_reducible assumption) | assumption)
           obtain ⟨ad248, e248, hx248_0, hx248_1⟩ := at_T30 (Kd.R_reads' HO_245000.out).2.2 x7_1 p248 q248
           cases e248
           replace p248 := eq_true p248
           replace q248 := eq_true q248
           refine start_ (n := 11) (S := fun w' => w'.cell? ⟨gb247, 0, none⟩ = some (u248000) ∧ w'.cell? ⟨gb247, 1, none⟩ = some (.slice Ao11 t241.length co11) ∧ w'.cell? ⟨gb244, 0, none⟩ = some (.slice (some ad248) t238.length co9) ∧ w'.cell? ⟨gb244, 1, none⟩ = some (.slice Ao11 t241.length co11) ∧ w'.cell? (ad248.add ((x7_1).toNat * 2)) = some (.string ((rd_T30 t238 x7_1).f0)) ∧ w'.cell? ⟨(ad248.add ((x7_1).toNat * 2)).block, (ad248.add ((x7_1).toNat * 2)).off + 1, none⟩ = some (.int .i64 ((rd_T30 t238 x7_1).f1))) (ds := [8, 10]) #[ff,ff,ff,ff,ff,ff,ff,ff,ff,ff,ff] (by kernel_rfl) rfl rfl ⟨(blk_cell BK247.out 0).trans rfl, (blk_cell BK247.out 1).trans rfl, (blk_cell BK244.out 0).trans rfl, (blk_cell BK244.out 1).trans rfl, hx248_0, hx248_1⟩ (fun hHeld => ?_); refine with_tabW laws_FnSummaryText.tab12 laws_FnSummaryText.bits12 (fun HT_ HW_ => ?_)
           generalize wr.drew = w26 at HO_245000 HO_245001 HO_248000 HO_248001 BK244 BK247 HB hx248_0 hx248_1 hHeld ⊢
           refine pu_ 0 (some 36) (v := ?_) (a' := ?_) #[tt,ff,ff,ff,ff,ff,ff,ff,ff,ff,ff] HT_.out rfl rfl (by kernel_rfl) (fun _ _ _ h => h) (Or.inl ⟨by rfl, ?_⟩) ?_ ?_
           rotate_left
           ·intro w'
            go_simp
            with_reducible rfl
           rotate_left
           ·simp only [Act.put, ps_]
            rfl
           refine pu_ 2 (some 38) (v := ?_) (a' := ?_) #[tt,ff,tt,ff,ff,ff,ff,ff,ff,ff,ff] HT_.out rfl rfl (by kernel_rfl) (fun _ _ _ h => h) (Or.inl ⟨by rfl, ?_⟩) ?_ ?_
           rotate_left
           ·intro w'
            go_simp
            with_reducible rfl
           rotate_left
           ·simp only [Act.put, ps_]
            rfl
           refine pu_ 4 (some 40) (v := ?_) (a' := ?_) #[tt,ff,tt,ff,tt,ff,ff,ff,ff,ff,ff] HT_.out rfl rfl (by kernel_rfl) (fun _ _ _ h => h) (Or.inl ⟨by rfl, ?_⟩) ?_ ?_
           rotate_left
           ·intro w'
            go_simp
            with_reducible rfl
           rotate_left
           ·simp only [Act.put, ps_]
            rfl
           refine take_ (i := 1) (N := some 37) (v := ?_) (a' := ?_) #[tt,tt,tt,ff,tt,ff,ff,ff,ff,ff,ff] rfl rfl (take_ofW HT_.out HW_.out (by kernel_rfl)) (fun _ _ _ h => h) (Or.inl ⟨by rfl, ?_⟩) hHeld ?_ ?_
           rotate_left
           ·rintro w' ⟨s0, s1, s2, s3, s4, s5⟩
            go_simp
            with_reducible rfl
           rotate_left
           ·simp only [Act.put, ps_]
            rfl
           refine take_ (i := 3) (N := some 39) (v := ?_) (a' := ?_) #[tt,tt,tt,tt,tt,ff,ff,ff,ff,ff,ff] rfl rfl (take_ofW HT_.out HW_.out (by kernel_rfl)) (fun _ _ _ h => h) (Or.inl ⟨by rfl, ?_⟩) hHeld ?_ ?_
           rotate_left
           ·rintro w' ⟨s0, s1, s2, s3, s4, s5⟩
            go_simp
            with_reducible rfl
           rotate_left
           ·simp only [Act.put, ps_]
            rfl
           refine pu_ 5 (some 41) (v := ?_) (a' := ?_) #[tt,tt,tt,tt,tt,tt,ff,ff,ff,ff,ff] HT_.out rfl rfl (by kernel_rfl) (fun _ _ _ h => h) (Or.inl ⟨by rfl, ?_⟩) ?_ ?_
           rotate_left
           ·intro w'
            go_simp
            with_reducible rfl
           rotate_left
           ·simp only [Act.put, ps_]
            rfl
           refine take_ (i := 6) (N := some 42) (v := ?_) (a' := ?_) #[tt,tt,tt,tt,tt,tt,tt,ff,ff,ff,ff] rfl rfl (take_ofW HT_.out HW_.out (by kernel_rfl)) (fun _ _ _ h => h) (Or.inl ⟨by rfl, ?_⟩) hHeld ?_ ?_
           rotate_left
           ·rintro w' ⟨s0, s1, s2, s3, s4, s5⟩
            go_simp
            with_reducible rfl
           rotate_left
           ·simp only [Act.put, ps_]
            rfl
           refine one_ (i := 7) (N := some 43) #[tt,tt,tt,tt,tt,tt,tt,tt,ff,ff,ff] rfl rfl (one_of HT_.out (by kernel_rfl)) (by decide) (fun K hK => ?_)
           refine value_ (w1 := ?_) (v := ?_) (by rfl) rfl ?_ ?_
           rotate_left 2
           ·go_simp
            constructor
            ·rfl
            ·rfl
           refine hK.out _ _ ⟨(blk_cell (blk_alloc BK247.out _) 0).trans rfl, (blk_cell (blk_alloc BK247.out _) 1).trans rfl, (blk_cell (blk_alloc BK244.out _) 0).trans rfl, (blk_cell (blk_alloc BK244.out _) 1).trans rfl, (World.cell?_alloc_lt _ _ _ (World.block_lt_of_cell? _ _ (hHeld.2.2.2.2.1))).trans (hHeld.2.2.2.2.1), (World.cell?_alloc_lt _ _ _ (World.block_lt_of_cell? _ _ (hHeld.2.2.2.2.2))).trans (hHeld.2.2.2.2.2)⟩ (fun hHeld => ?_)
           clear hK K
           refine norm_ (a' := ?_) ?_ ?_
           rotate_left
           ·show Act.put _ (some 43) _ = _
            simp only [Act.put, ps_]
            rfl
           refine last_ (i := 8) (N := some 44) #[tt,tt,tt,tt,tt,tt,tt,tt,tt,ff,ff] rfl rfl (one_of HT_.out (by kernel_rfl)) (by decide) (fun K hK => ?_)
           refine Kd.R_append_step k30 (w0 := w) w.heap.size (by rfl) (.tmp 37) (.tmp 43) 23 30 (.agg #[(.string ⟨#[]⟩), (.int .i64 0)]) 24 rfl Tryd.underlying23 info30 rfl (by decide) (by omega) u248000 x248000_1 (⟨(rd_T30 t238 x7_1).f0, (rd_T30 t238 x7_1).f1⟩ : S30) [.string ((rd_T30 t238 x7_1).f0), .int .i64 ((rd_T30 t238 x7_1).f1)] (fun k_ => some k_ ≠ (.slice (some ad248) t238.length co9 : Value).ownBlock) (fun _ => False) rfl rfl ?aP (fun _ hk => hk.elim) ?aF ?aO ?aB ?aS ?aL ?_
           (case aP => exact k30_mkM _ _ _ (⟨(rd_T30 t238 x7_1).f0, (rd_T30 t238 x7_1).f1⟩ : S30))
           (case aB => exact (by repeat first | (with_reducible first | exact HB.out | apply below_alloc | apply pw_below_drewN | apply below_drew1 | refine below_set ?_ GE244.out | refine below_set ?_ GE247.out) | exact HB.out))
           (case aF => exact (fun k_ hk => Kd.fresh' (Kd.R_lt (by (with_reducible repeat first | apply Kd.R_alloc | apply Kd.R_drewN | apply Kd.R_drew); exact HO_245000.out)) k_ hk))
           (case aO => exact (by (with_reducible repeat first | apply Kd.R_alloc | apply Kd.R_drewN | apply Kd.R_drew); exact HO_248000.out))
           (case aS => exact (below_size (by repeat first | (with_reducible first | exact HB.out | apply below_alloc | apply pw_below_drewN | apply below_drew1 | refine below_set ?_ GE244.out | refine below_set ?_ GE247.out) | exact HB.out)))
           (case aL => have := LMc23.out; omega)
           intro v250 w27 ho hb hg hat
           rw [← Ny249.out] at ho
           have n0_ := Aside0.mk (Kd.R_after (ok := (fun _ => True)) (by (with_reducible repeat first | apply Kd.R_alloc | apply Kd.R_drewN | apply Kd.R_drew); exact Kd.R_mono HO_245000.out (fun _ hk => ⟨trivial, hk⟩)) hg hat)
           have n1_ := Aside0.mk (Kd.R_over' (by (with_reducible repeat first | apply Kd.R_alloc | apply Kd.R_drewN | apply Kd.R_drew); exact HO_245001.out) (Kd.R_typed (by (with_reducible repeat first | apply Kd.R_alloc | apply Kd.R_drewN | apply Kd.R_drew); exact HO_248000.out)) (by decide) hg)
           have n2_ := Aside0.mk (Kd.R_over' (by (with_reducible repeat first | apply Kd.R_alloc | apply Kd.R_drewN | apply Kd.R_drew); exact HO_248001.out) (Kd.R_typed (by (with_reducible repeat first | apply Kd.R_alloc | apply Kd.R_drewN | apply Kd.R_drew); exact HO_248000.out)) (by decide) hg)
           have n3_ := Aside0.mk (blk_grown (g := gb244) (o := .cells #[.slice (some ad248) t238.length co9, .slice Ao11 t241.length co11] 26 (0, 0)) (by (with_reducible repeat first | apply blk_drewN | apply blk_drew | apply blk_alloc); exact BK244.out) hg (Kd.R_ne HO_248000.out BK244.out (by decide)))
           have n4_ := Aside0.mk (blk_grown (g := gb247) (o := .cells #[u248000, .slice Ao11 t241.length co11] 26 (0, 0)) (by (with_reducible repeat first | apply blk_drewN | apply blk_drew | apply blk_alloc); exact BK247.out) hg (Kd.R_ne HO_248000.out BK247.out (by decide)))
           have n5_ := Aside0.mk (hb); have n6_ := Aside0.mk (ho); clear HO_245000 HO_245001 HO_248001 BK244 BK247 HB HO_248000; have HO_245000 := n0_; have HO_245001 := n1_; have HO_248001 := n2_; have BK244 := n3_; have BK247 := n4_; have HB := n5_; have HO251 := n6_; clear n0_ n1_ n2_ n3_ n4_ n5_ n6_ ho hb hg hat
           obtain ⟨Ao28, co28, eo28⟩ := Kd.R_slice HO251.out
           (first | subst eo28 | (injection eo28 with f1_ f2_ f3_; have f4_ := f1_.symm; have f5_ := f3_.symm; clear f1_ f2_ f3_; subst f4_; subst f5_))
           refine hK.out _ _ ?_
           clear hK K
           refine norm_ (a' := ?_) ?_ ?_
           rotate_left
           ·show Act.put _ (some 44) _ = _
            simp only [Act.put, ps_]
            rfl
           refine pu_ 9 (some 45) (v := ?_) (a' := ?_) #[tt,tt,tt,tt,tt,tt,tt,tt,tt,tt,ff] HT_.out rfl rfl (by kernel_rfl) (fun _ _ _ h => h) (Or.inl ⟨by rfl, ?_⟩) ?_ ?_
           rotate_left
           ·intro w'
            go_simp
            with_reducible rfl
           rotate_left
           ·simp only [Act.put, ps_]
            rfl
           refine last_ (i := 10) (N := none) #[tt,tt,tt,tt,tt,tt,tt,tt,tt,tt,tt] rfl rfl (one_of HT_.out (by kernel_rfl)) (by decide) (fun K hK => ?_)
           have hs29 : w27.cell? ⟨gb247, 0, none⟩ = some (u248000) := (blk_cell BK247.out 0).trans rfl
           have hfs29 := blk_frozen BK247.out 0; have hns29_0 := NB244_247.out; have hms29_0 := NB247_244.out
           refine skip_ (w1 := ?_) (by rfl) rfl ?_ ?_
           rotate_left
           ·go_simp
            rfl
           refine hK.out _ _ ?_
           clear hK K
           refine done_ (done_of HT_.out (by kernel_rfl)) ?_
           have hnb30 := NB244_247.out; have hnc30 := NB247_244.out
           have hcz31_0 : w27.cell? ⟨gb244, 0, none⟩ = some (.slice (some ad248) t238.length co9) := (blk_cell BK244.out 0).trans rfl
           have hcz31_1 : w27.cell? ⟨gb244, 1, none⟩ = some (.slice Ao11 t241.length co11) := (blk_cell BK244.out 1).trans rfl
           have hfz31_0 := blk_frozen BK244.out 0; have hfz31_1 := blk_frozen BK244.out 1
           have p252 : 0 ≤ (x7_1 : Int) := of_decide_eq_true (by first | (with_reducible assumption) | assumption)
           have q252 : x7_1 < (t238.length : Int) := of_decide_eq_true (by first | (with_reducible assumption) | assumption)
           obtain ⟨ad252, e252, hx252_0, hx252_1⟩ := at_T30 (Kd.R_reads' HO_245000.out).2.2 x7_1 p252 q252
           obtain rfl : ad248 = ad252 := (by injection e252)
           have hn252_0 : ad248.block ≠ gb247 := Kd.own_blk (Kd.R_ne HO_245000.out BK247.out (by decide))
           replace hx252_0 := (cell_far (p := ⟨gb247, 0, none⟩) (by first | (rw [add_block]; exact hn252_0) | (show (Addr.add _ _).block ≠ _; rw [add_block]; exact hn252_0) | exact hn252_0) (.slice Ao28 y249.length co28)).trans hx252_0
           replace hx252_1 := (cell_far (p := ⟨gb247, 0, none⟩) (by first | (rw [add_block]; exact hn252_0) | (show (Addr.add _ _).block ≠ _; rw [add_block]; exact hn252_0) | exact hn252_0) (.slice Ao28 y249.length co28)).trans hx252_1
           clear hn252_0
           replace p252 := eq_true p252
           replace q252 := eq_true q252
           have p253 : 0 ≤ (x7_1 : Int) := of_decide_eq_true (by first | (with_reducible assumption) | assumption)
           have q253 : x7_1 < (t238.length : Int) := of_decide_eq_true (by first | (with_reducible assumption) | assumption)
           obtain ⟨ad253, e253, hx253_0, hx253_1⟩ := at_T30 (Kd.R_reads' HO_245000.out).2.2 x7_1 p253 q253
           obtain rfl : ad248 = ad253 := (by injection e253)
           have hn253_0 : ad248.block ≠ gb247 := Kd.own_blk (Kd.R_ne HO_245000.out BK247.out (by decide))
           replace hx253_0 := (cell_far (p := ⟨gb247, 0, none⟩) (by first | (rw [add_block]; exact hn253_0) | (show (Addr.add _ _).block ≠ _; rw [add_block]; exact hn253_0) | exact hn253_0) (.slice Ao28 y249.length co28)).trans hx253_0
           replace hx253_1 := (cell_far (p := ⟨gb247, 0, none⟩) (by first | (rw [add_block]; exact hn253_0) | (show (Addr.add _ _).block ≠ _; rw [add_block]; exact hn253_0) | exact hn253_0) (.slice Ao28 y249.length co28)).trans hx253_1
           clear hn253_0
           replace p253 := eq_true p253
           replace q253 := eq_true q253
           try go_wp2
           go_roundg k1
           case measure => have := HK1.out; omega
           case rel => exact ⟨(wrap64 (x6_1 + 1)), (wrap64 (x7_1 - 1)), (y249), (.slice Ao28 y249.length co28), (by first | rfl | (simp; done) | (simp [*]; done)), (by first | rfl | (simp; done) | (simp [*]; done)), H', ⟨by have := HK1.out; omega⟩, ⟨by (with_reducible repeat first | apply Kd.R_alloc | apply Kd.R_drewN | apply Kd.R_drew); exact Kd.R_mono (Kd.R_far (p := ⟨gb247, 0, none⟩) (Kd.R_types HO_245000.out BK247.out (by decide)) (fun _ hk => hk.2) (.slice Ao28 y249.length co28)) (fun _ hk => hk.1.2)⟩, ⟨by (with_reducible repeat first | apply Kd.R_alloc | apply Kd.R_drewN | apply Kd.R_drew); exact Kd.R_mono (Kd.R_far (p := ⟨gb247, 0, none⟩) (Kd.R_types HO_245001.out BK247.out (by decide)) (fun _ hk => hk.2) (.slice Ao28 y249.length co28)) (fun _ hk => trivial)⟩, ⟨by (with_reducible repeat first | apply Kd.R_alloc | apply Kd.R_drewN | apply Kd.R_drew); exact Kd.R_mono (Kd.R_far (p := ⟨gb247, 0, none⟩) (Kd.R_types HO251.out BK247.out (by decide)) (fun _ hk => hk.2) (.slice Ao28 y249.length co28)) (fun _ hk => hk.1)⟩, ⟨by (with_reducible repeat first | apply Kd.R_alloc | apply Kd.R_drewN | apply Kd.R_drew); exact Kd.R_mono (Kd.R_far (p := ⟨gb247, 0, none⟩) (Kd.R_types HO_248001.out BK247.out (by decide)) (fun _ hk => hk.2) (.slice Ao28 y249.length co28)) (fun _ hk => trivial)⟩, ⟨by (with_reducible repeat first | apply blk_drewN | apply blk_drew | apply blk_alloc); refine blk_far ?_ NB244_247.out _; (with_reducible repeat first | apply blk_drewN | apply blk_drew | apply blk_alloc); exact BK244.out⟩, ⟨by (with_reducible repeat first | apply blk_drewN | apply blk_drew | apply blk_alloc); refine blk_put (cs := #[u248000, .slice Ao11 t241.length co11]) ?_ 0 _ rfl; (with_reducible repeat first | apply blk_drewN | apply blk_drew | apply blk_alloc); exact BK247.out⟩, ⟨by repeat (first | (with_reducible first | exact HB.out | apply below_alloc | apply pw_below_drewN | apply below_drew1 | refine below_set ?_ GE244.out | refine below_set ?_ GE247.out) | exact HB.out)⟩⟩
          ·rw [if_neg c25] at H
           have c25b0 : decide (((rd_T30 t238 x7_1).f1) ≤ 5) = false := decide_eq_false c25
           clear c25; have H' := Aside0.mk H; clear H; try go_wp2; replace HO_245000 := Aside0.mk (Kd.R_drew HO_245000.out); replace HO_245001 := Aside0.mk (Kd.R_drew HO_245001.out); replace HO_248000 := Aside0.mk (Kd.R_drew HO_248000.out); replace HO_248001 := Aside0.mk (Kd.R_drew HO_248001.out); replace BK244 := Aside0.mk (blk_drew BK244.out); replace BK247 := Aside0.mk (blk_drew BK247.out); replace HB := Aside0.mk (below_drew1 HB.out)
           have p248 : 0 ≤ (x7_1 : Int) := of_decide_eq_true (by first | (with_reducible assumption) | assumption)
           have q248 : x7_1 < (t238.length : Int) := of_decide_eq_true (by first | (with_reducible assumption) | assumption)
           obtain ⟨ad248, e248, hx248_0, hx248_1⟩ := at_T30 (Kd.R_reads' HO_245000.out).2.2 x7_1 p248 q248
           cases e248
           replace p248 := eq_true p248
           replace q248 := eq_true q248
           refine start_ (n := 11) (S := fun w' => w'.cell? ⟨gb247, 0, none⟩ = some (u248000) ∧ w'.cell? ⟨gb247, 1, none⟩ = some (.slice Ao11 t241.length co11) ∧ w'.cell? ⟨gb244, 0, none⟩ = some (.slice (some ad248) t238.length co9) ∧ w'.cell? ⟨gb244, 1, none⟩ = some (.slice Ao11 t241.length co11) ∧ w'.cell? (ad248.add ((x7_1).toNat * 2)) = some (.string ((rd_T30 t238 x7_1).f0)) ∧ w'.cell? ⟨(ad248.add ((x7_1).toNat * 2)).block, (ad248.add ((x7_1).toNat * 2)).off + 1, none⟩ = some (.int .i64 ((rd_T30 t238 x7_1).f1))) (ds := [8, 10]) #[ff,ff,ff,ff,ff,ff,ff,ff,ff,ff,ff] (by kernel_rfl) rfl rfl ⟨(blk_cell BK247.out 0).trans rfl, (blk_cell BK247.out 1).trans rfl, (blk_cell BK244.out 0).trans rfl, (blk_cell BK244.out 1).trans rfl, hx248_0, hx248_1⟩ (fun hHeld => ?_); refine with_tabW laws_FnSummaryText.tab12 laws_FnSummaryText.bits12 (fun HT_ HW_ => ?_)
           generalize wr.drew = w32 at HO_245000 HO_245001 HO_248000 HO_248001 BK244 BK247 HB hx248_0 hx248_1 hHeld ⊢
           refine pu_ 0 (some 36) (v := ?_) (a' := ?_) #[tt,ff,ff,ff,ff,ff,ff,ff,ff,ff,ff] HT_.out rfl rfl (by kernel_rfl) (fun _ _ _ h => h) (Or.inl ⟨by rfl, ?_⟩) ?_ ?_
           rotate_left
           ·intro w'
            go_simp
            with_reducible rfl
           rotate_left
           ·simp only [Act.put, ps_]
            rfl
           refine pu_ 2 (some 38) (v := ?_) (a' := ?_) #[tt,ff,tt,ff,ff,ff,ff,ff,ff,ff,ff] HT_.out rfl rfl (by kernel_rfl) (fun _ _ _ h => h) (Or.inl ⟨by rfl, ?_⟩) ?_ ?_
           rotate_left
           ·intro w'
            go_simp
            with_reducible rfl
           rotate_left
           ·simp only [Act.put, ps_]
            rfl
           refine pu_ 4 (some 40) (v := ?_) (a' := ?_) #[tt,ff,tt,ff,tt,ff,ff,ff,ff,ff,ff] HT_.out rfl rfl (by kernel_rfl) (fun _ _ _ h => h) (Or.inl ⟨by rfl, ?_⟩) ?_ ?_
           rotate_left
           ·intro w'
            go_simp
            with_reducible rfl
           rotate_left
           ·simp only [Act.put, ps_]
            rfl
           refine take_ (i := 1) (N := some 37) (v := ?_) (a' := ?_) #[tt,tt,tt,ff,tt,ff,ff,ff,ff,ff,ff] rfl rfl (take_ofW HT_.out HW_.out (by kernel_rfl)) (fun _ _ _ h => h) (Or.inl ⟨by rfl, ?_⟩) hHeld ?_ ?_
           rotate_left
           ·rintro w' ⟨s0, s1, s2, s3, s4, s5⟩
            go_simp
            with_reducible rfl
           rotate_left
           ·simp only [Act.put, ps_]
            rfl
           refine take_ (i := 3) (N := some 39) (v := ?_) (a' := ?_) #[tt,tt,tt,tt,tt,ff,ff,ff,ff,ff,ff] rfl rfl (take_ofW HT_.out HW_.out (by kernel_rfl)) (fun _ _ _ h => h) (Or.inl ⟨by rfl, ?_⟩) hHeld ?_ ?_
           rotate_left
           ·rintro w' ⟨s0, s1, s2, s3, s4, s5⟩
            go_simp
            with_reducible rfl
           rotate_left
           ·simp only [Act.put, ps_]
            rfl
           refine pu_ 5 (some 41) (v := ?_) (a' := ?_) #[tt,tt,tt,tt,tt,tt,ff,ff,ff,ff,ff] HT_.out rfl rfl (by kernel_rfl) (fun _ _ _ h => h) (Or.inl ⟨by rfl, ?_⟩) ?_ ?_
           rotate_left
           ·intro w'
            go_simp
            with_reducible rfl
           rotate_left
           ·simp only [Act.put, ps_]
            rfl
           refine take_ (i := 6) (N := some 42) (v := ?_) (a' := ?_) #[tt,tt,tt,tt,tt,tt,tt,ff,ff,ff,ff] rfl rfl (take_ofW HT_.out HW_.out (by kernel_rfl)) (fun _ _ _ h => h) (Or.inl ⟨by rfl, ?_⟩) hHeld ?_ ?_
           rotate_left
           ·rintro w' ⟨s0, s1, s2, s3, s4, s5⟩
            go_simp
            with_reducible rfl
           rotate_left
           ·simp only [Act.put, ps_]
            rfl
           refine one_ (i := 7) (N := some 43) #[tt,tt,tt,tt,tt,tt,tt,tt,ff,ff,ff] rfl rfl (one_of HT_.out (by kernel_rfl)) (by decide) (fun K hK => ?_)
           refine value_ (w1 := ?_) (v := ?_) (by rfl) rfl ?_ ?_
           rotate_left 2
           ·go_simp
            constructor
            ·rfl
            ·rfl
           refine hK.out _ _ ⟨(blk_cell (blk_alloc BK247.out _) 0).trans rfl, (blk_cell (blk_alloc BK247.out _) 1).trans rfl, (blk_cell (blk_alloc BK244.out _) 0).trans rfl, (blk_cell (blk_alloc BK244.out _) 1).trans rfl, (World.cell?_alloc_lt _ _ _ (World.block_lt_of_cell? _ _ (hHeld.2.2.2.2.1))).trans (hHeld.2.2.2.2.1), (World.cell?_alloc_lt _ _ _ (World.block_lt_of_cell? _ _ (hHeld.2.2.2.2.2))).trans (hHeld.2.2.2.2.2)⟩ (fun hHeld => ?_)
           clear hK K
           refine norm_ (a' := ?_) ?_ ?_
           rotate_left
           ·show Act.put _ (some 43) _ = _
            simp only [Act.put, ps_]
            rfl
           refine last_ (i := 8) (N := some 44) #[tt,tt,tt,tt,tt,tt,tt,tt,tt,ff,ff] rfl rfl (one_of HT_.out (by kernel_rfl)) (by decide) (fun K hK => ?_)
           refine Kd.R_append_step k30 (w0 := w) w.heap.size (by rfl) (.tmp 37) (.tmp 43) 23 30 (.agg #[(.string ⟨#[]⟩), (.int .i64 0)]) 24 rfl Tryd.underlying23 info30 rfl (by decide) (by omega) u248000 x248000_1 (⟨(rd_T30 t238 x7_1).f0, (rd_T30 t238 x7_1).f1⟩ : S30) [.string ((rd_T30 t238 x7_1).f0), .int .i64 ((rd_T30 t238 x7_1).f1)] (fun k_ => some k_ ≠ (.slice (some ad248) t238.length co9 : Value).ownBlock) (fun _ => False) rfl rfl ?aP (fun _ hk => hk.elim) ?aF ?aO ?aB ?aS ?aL ?_
           (case aP => exact k30_mkM _ _ _ (⟨(rd_T30 t238 x7_1).f0, (rd_T30 t238 x7_1).f1⟩ : S30))
           (case aB => exact (by repeat first | (with_reducible first | exact HB.out | apply below_alloc | apply pw_below_drewN | apply below_drew1 | refine below_set ?_ GE244.out | refine below_set ?_ GE247.out) | exact HB.out))
           (case aF => exact (fun k_ hk => Kd.fresh' (Kd.R_lt (by (with_reducible repeat first | apply Kd.R_alloc | apply Kd.R_drewN | apply Kd.R_drew); exact HO_245000.out)) k_ hk))
           (case aO => exact (by (with_reducible repeat first | apply Kd.R_alloc | apply Kd.R_drewN | apply Kd.R_drew); exact HO_248000.out))
           (case aS => exact (below_size (by repeat first | (with_reducible first | exact HB.out | apply below_alloc | apply pw_below_drewN | apply below_drew1 | refine below_set ?_ GE244.out | refine below_set ?_ GE247.out) | exact HB.out)))
           (case aL => have := LMc23.out; omega)
           intro v250 w33 ho hb hg hat
           rw [← Ny249.out] at ho
           have n0_ := Aside0.mk (Kd.R_after (ok := (fun _ => True)) (by (with_reducible repeat first | apply Kd.R_alloc | apply Kd.R_drewN | apply Kd.R_drew); exact Kd.R_mono HO_245000.out (fun _ hk => ⟨trivial, hk⟩)) hg hat)
           have n1_ := Aside0.mk (Kd.R_over' (by (with_reducible repeat first | apply Kd.R_alloc | apply Kd.R_drewN | apply Kd.R_drew); exact HO_245001.out) (Kd.R_typed (by (with_reducible repeat first | apply Kd.R_alloc | apply Kd.R_drewN | apply Kd.R_drew); exact HO_248000.out)) (by decide) hg)
           have n2_ := Aside0.mk (Kd.R_over' (by (with_reducible repeat first | apply Kd.R_alloc | apply Kd.R_drewN | apply Kd.R_drew); exact HO_248001.out) (Kd.R_typed (by (with_reducible repeat first | apply Kd.R_alloc | apply Kd.R_drewN | apply Kd.R_drew); exact HO_248000.out)) (by decide) hg)
           have n3_ := Aside0.mk (blk_grown (g := gb244) (o := .cells #[.slice (some ad248) t238.length co9, .slice Ao11 t241.length co11] 26 (0, 0)) (by (with_reducible repeat first | apply blk_drewN | apply blk_drew | apply blk_alloc); exact BK244.out) hg (Kd.R_ne HO_248000.out BK244.out (by decide)))
           have n4_ := Aside0.mk (blk_grown (g := gb247) (o := .cells #[u248000, .slice Ao11 t241.length co11] 26 (0, 0)) (by (with_reducible repeat first | apply blk_drewN | apply blk_drew | apply blk_alloc); exact BK247.out) hg (Kd.R_ne HO_248000.out BK247.out (by decide)))
           have n5_ := Aside0.mk (hb); have n6_ := Aside0.mk (ho); clear HO_245000 HO_245001 HO_248001 BK244 BK247 HB HO_248000; have HO_245000 := n0_; have HO_245001 := n1_; have HO_248001 := n2_; have BK244 := n3_; have BK247 := n4_; have HB := n5_; have HO251 := n6_; clear n0_ n1_ n2_ n3_ n4_ n5_ n6_ ho hb hg hat
           obtain ⟨Ao34, co34, eo34⟩ := Kd.R_slice HO251.out
           (first | subst eo34 | (injection eo34 with f1_ f2_ f3_; have f4_ := f1_.symm; have f5_ := f3_.symm; clear f1_ f2_ f3_; subst f4_; subst f5_))
           refine hK.out _ _ ?_
           clear hK K
           refine norm_ (a' := ?_) ?_ ?_
           rotate_left
           ·show Act.put _ (some 44) _ = _
            simp only [Act.put, ps_]
            rfl
           refine pu_ 9 (some 45) (v := ?_) (a' := ?_) #[tt,tt,tt,tt,tt,tt,tt,tt,tt,tt,ff] HT_.out rfl rfl (by kernel_rfl) (fun _ _ _ h => h) (Or.inl ⟨by rfl, ?_⟩) ?_ ?_
           rotate_left
           ·intro w'
            go_simp
            with_reducible rfl
           rotate_left
           ·simp only [Act.put, ps_]
            rfl
           refine last_ (i := 10) (N := none) #[tt,tt,tt,tt,tt,tt,tt,tt,tt,tt,tt] rfl rfl (one_of HT_.out (by kernel_rfl)) (by decide) (fun K hK => ?_)
           have hs35 : w33.cell? ⟨gb247, 0, none⟩ = some (u248000) := (blk_cell BK247.out 0).trans rfl
           have hfs35 := blk_frozen BK247.out 0; have hns35_0 := NB244_247.out; have hms35_0 := NB247_244.out
           refine skip_ (w1 := ?_) (by rfl) rfl ?_ ?_
           rotate_left
           ·go_simp
            rfl
           refine hK.out _ _ ?_
           clear hK K
           refine done_ (done_of HT_.out (by kernel_rfl)) ?_
           have hnb36 := NB244_247.out; have hnc36 := NB247_244.out
           have hcz37_0 : w33.cell? ⟨gb244, 0, none⟩ = some (.slice (some ad248) t238.length co9) := (blk_cell BK244.out 0).trans rfl
           have hcz37_1 : w33.cell? ⟨gb244, 1, none⟩ = some (.slice Ao11 t241.length co11) := (blk_cell BK244.out 1).trans rfl
           have hfz37_0 := blk_frozen BK244.out 0; have hfz37_1 := blk_frozen BK244.out 1
           have p252 : 0 ≤ (x7_1 : Int) := of_decide_eq_true (by first | (with_reducible assumption) | assumption)
           have q252 : x7_1 < (t238.length : Int) := of_decide_eq_true (by first | (with_reducible assumption) | assumption)
           obtain ⟨ad252, e252, hx252_0, hx252_1⟩ := at_T30 (Kd.R_reads' HO_245000.out).2.2 x7_1 p252 q252
           obtain rfl : ad248 = ad252 := (by injection e252)
           have hn252_0 : ad248.block ≠ gb247 := Kd.own_blk (Kd.R_ne HO_245000.out BK247.out (by decide))
           replace hx252_0 := (cell_far (p := ⟨gb247, 0, none⟩) (by first | (rw [add_block]; exact hn252_0) | (show (Addr.add _ _).block ≠ _; rw [add_block]; exact hn252_0) | exact hn252_0) (.slice Ao34 y249.length co34)).trans hx252_0
           replace hx252_1 := (cell_far (p := ⟨gb247, 0, none⟩) (by first | (rw [add_block]; exact hn252_0) | (show (Addr.add _ _).block ≠ _; rw [add_block]; exact hn252_0) | exact hn252_0) (.slice Ao34 y249.length co34)).trans hx252_1
           clear hn252_0
           replace p252 := eq_true p252
           replace q252 := eq_true q252
           have p253 : 0 ≤ (x7_1 : Int) := of_decide_eq_true (by first | (with_reducible assumption) | assumption)
           have q253 : x7_1 < (t238.length : Int) := of_decide_eq_true (by first | (with_reducible assumption) | assumption)
           obtain ⟨ad253, e253, hx253_0, hx253_1⟩ := at_T30 (Kd.R_reads' HO_245000.out).2.2 x7_1 p253 q253
           obtain rfl : ad248 = ad253 := (by injection e253)
           have hn253_0 : ad248.block ≠ gb247 := Kd.own_blk (Kd.R_ne HO_245000.out BK247.out (by decide))
           replace hx253_0 := (cell_far (p := ⟨gb247, 0, none⟩) (by first | (rw [add_block]; exact hn253_0) | (show (Addr.add _ _).block ≠ _; rw [add_block]; exact hn253_0) | exact hn253_0) (.slice Ao34 y249.length co34)).trans hx253_0
           replace hx253_1 := (cell_far (p := ⟨gb247, 0, none⟩) (by first | (rw [add_block]; exact hn253_0) | (show (Addr.add _ _).block ≠ _; rw [add_block]; exact hn253_0) | exact hn253_0) (.slice Ao34 y249.length co34)).trans hx253_1
           clear hn253_0
           replace p253 := eq_true p253
           replace q253 := eq_true q253
           try go_wp2
           go_roundg k1
           case measure => have := HK1.out; omega
           case rel => exact ⟨(x6_1), (wrap64 (x7_1 - 1)), (y249), (.slice Ao34 y249.length co34), (by first | rfl | (simp; done) | (simp [*]; done)), (by first | rfl | (simp; done) | (simp [*]; done)), H', ⟨by have := HK1.out; omega⟩, ⟨by (with_reducible repeat first | apply Kd.R_alloc | apply Kd.R_drewN | apply Kd.R_drew); exact Kd.R_mono (Kd.R_far (p := ⟨gb247, 0, none⟩) (Kd.R_types HO_245000.out BK247.out (by decide)) (fun _ hk => hk.2) (.slice Ao34 y249.length co34)) (fun _ hk => hk.1.2)⟩, ⟨by (with_reducible repeat first | apply Kd.R_alloc | apply Kd.R_drewN | apply Kd.R_drew); exact Kd.R_mono (Kd.R_far (p := ⟨gb247, 0, none⟩) (Kd.R_types HO_245001.out BK247.out (by decide)) (fun _ hk => hk.2) (.slice Ao34 y249.length co34)) (fun _ hk => trivial)⟩, ⟨by (with_reducible repeat first | apply Kd.R_alloc | apply Kd.R_drewN | apply Kd.R_drew); exact Kd.R_mono (Kd.R_far (p := ⟨gb247, 0, none⟩) (Kd.R_types HO251.out BK247.out (by decide)) (fun _ hk => hk.2) (.slice Ao34 y249.length co34)) (fun _ hk => hk.1)⟩, ⟨by (with_reducible repeat first | apply Kd.R_alloc | apply Kd.R_drewN | apply Kd.R_drew); exact Kd.R_mono (Kd.R_far (p := ⟨gb247, 0, none⟩) (Kd.R_types HO_248001.out BK247.out (by decide)) (fun _ hk => hk.2) (.slice Ao34 y249.length co34)) (fun _ hk => trivial)⟩, ⟨by (with_reducible repeat first | apply blk_drewN | apply blk_drew | apply blk_alloc); refine blk_far ?_ NB244_247.out _; (with_reducible repeat first | apply blk_drewN | apply blk_drew | apply blk_alloc); exact BK244.out⟩, ⟨by (with_reducible repeat first | apply blk_drewN | apply blk_drew | apply blk_alloc); refine blk_put (cs := #[u248000, .slice Ao11 t241.length co11]) ?_ 0 _ rfl; (with_reducible repeat first | apply blk_drewN | apply blk_drew | apply blk_alloc); exact BK247.out⟩, ⟨by repeat (first | (with_reducible first | exact HB.out | apply below_alloc | apply pw_below_drewN | apply below_drew1 | refine below_set ?_ GE244.out | refine below_set ?_ GE247.out) | exact HB.out)⟩⟩
         ·rw [if_neg c24] at H
          have c24b0 : decide (0 ≤ ((rd_T30 t238 x7_1).f1)) = false := decide_eq_false c24
          clear c24; have H' := Aside0.mk H; clear H; try go_wp2; replace HO_245000 := Aside0.mk (Kd.R_drew HO_245000.out); replace HO_245001 := Aside0.mk (Kd.R_drew HO_245001.out); replace HO_248000 := Aside0.mk (Kd.R_drew HO_248000.out); replace HO_248001 := Aside0.mk (Kd.R_drew HO_248001.out); replace BK244 := Aside0.mk (blk_drew BK244.out); replace BK247 := Aside0.mk (blk_drew BK247.out); replace HB := Aside0.mk (below_drew1 HB.out)
          have p248 : 0 ≤ (x7_1 : Int) := of_decide_eq_true (by first | (with_reducible assumption) | assumption)
          have q248 : x7_1 < (t238.length : Int) := of_decide_eq_true (by first | (with_reducible assumption) | assumption)
          obtain ⟨ad248, e248, hx248_0, hx248_1⟩ := at_T30 (Kd.R_reads' HO_245000.out).2.2 x7_1 p248 q248
          cases e248
          replace p248 := eq_true p248
          replace q248 := eq_true q248
          refine start_ (n := 11) (S := fun w' => w'.cell? ⟨gb247, 0, none⟩ = some (u248000) ∧ w'.cell? ⟨gb247, 1, none⟩ = some (.slice Ao11 t241.length co11) ∧ w'.cell? ⟨gb244, 0, none⟩ = some (.slice (some ad248) t238.length co9) ∧ w'.cell? ⟨gb244, 1, none⟩ = some (.slice Ao11 t241.length co11) ∧ w'.cell? (ad248.add ((x7_1).toNat * 2)) = some (.string ((rd_T30 t238 x7_1).f0)) ∧ w'.cell? ⟨(ad248.add ((x7_1).toNat * 2)).block, (ad248.add ((x7_1).toNat * 2)).off + 1, none⟩ = some (.int .i64 ((rd_T30 t238 x7_1).f1))) (ds := [8, 10]) #[ff,ff,ff,ff,ff,ff,ff,ff,ff,ff,ff] (by kernel_rfl) rfl rfl ⟨(blk_cell BK247.out 0).trans rfl, (blk_cell BK247.out 1).trans rfl, (blk_cell BK244.out 0).trans rfl, (blk_cell BK244.out 1).trans rfl, hx248_0, hx248_1⟩ (fun hHeld => ?_); refine with_tabW laws_FnSummaryText.tab12 laws_FnSummaryText.bits12 (fun HT_ HW_ => ?_)
          generalize wr.drew = w38 at HO_245000 HO_245001 HO_248000 HO_248001 BK244 BK247 HB hx248_0 hx248_1 hHeld ⊢
          refine pu_ 0 (some 36) (v := ?_) (a' := ?_) #[tt,ff,ff,ff,ff,ff,ff,ff,ff,ff,ff] HT_.out rfl rfl (by kernel_rfl) (fun _ _ _ h => h) (Or.inl ⟨by rfl, ?_⟩) ?_ ?_
          rotate_left
          ·intro w'
           go_simp
           with_reducible rfl
          rotate_left
          ·simp only [Act.put, ps_]
           rfl
          refine pu_ 2 (some 38) (v := ?_) (a' := ?_) #[tt,ff,tt,ff,ff,ff,ff,ff,ff,ff,ff] HT_.out rfl rfl (by kernel_rfl) (fun _ _ _ h => h) (Or.inl ⟨by rfl, ?_⟩) ?_ ?_
          rotate_left
          ·intro w'
           go_simp
           with_reducible rfl
          rotate_left
          ·simp only [Act.put, ps_]
           rfl
          refine pu_ 4 (some 40) (v := ?_) (a' := ?_) #[tt,ff,tt,ff,tt,ff,ff,ff,ff,ff,ff] HT_.out rfl rfl (by kernel_rfl) (fun _ _ _ h => h) (Or.inl ⟨by rfl, ?_⟩) ?_ ?_
          rotate_left
          ·intro w'
           go_simp
           with_reducible rfl
          rotate_left
          ·simp only [Act.put, ps_]
           rfl
          refine take_ (i := 1) (N := some 37) (v := ?_) (a' := ?_) #[tt,tt,tt,ff,tt,ff,ff,ff,ff,ff,ff] rfl rfl (take_ofW HT_.out HW_.out (by kernel_rfl)) (fun _ _ _ h => h) (Or.inl ⟨by rfl, ?_⟩) hHeld ?_ ?_
          rotate_left
          ·rintro w' ⟨s0, s1, s2, s3, s4, s5⟩
           go_simp
           with_reducible rfl
          rotate_left
          ·simp only [Act.put, ps_]
           rfl
          refine take_ (i := 3) (N := some 39) (v := ?_) (a' := ?_) #[tt,tt,tt,tt,tt,ff,ff,ff,ff,ff,ff] rfl rfl (take_ofW HT_.out HW_.out (by kernel_rfl)) (fun _ _ _ h => h) (Or.inl ⟨by rfl, ?_⟩) hHeld ?_ ?_
          rotate_left
          ·rintro w' ⟨s0, s1, s2, s3, s4, s5⟩
           go_simp
           with_reducible rfl
          rotate_left
          ·simp only [Act.put, ps_]
           rfl
          refine pu_ 5 (some 41) (v := ?_) (a' := ?_) #[tt,tt,tt,tt,tt,tt,ff,ff,ff,ff,ff] HT_.out rfl rfl (by kernel_rfl) (fun _ _ _ h => h) (Or.inl ⟨by rfl, ?_⟩) ?_ ?_
          rotate_left
          ·intro w'
           go_simp
           with_reducible rfl
          rotate_left
          ·simp only [Act.put, ps_]
           rfl
          refine take_ (i := 6) (N := some 42) (v := ?_) (a' := ?_) #[tt,tt,tt,tt,tt,tt,tt,ff,ff,ff,ff] rfl rfl (take_ofW HT_.out HW_.out (by kernel_rfl)) (fun _ _ _ h => h) (Or.inl ⟨by rfl, ?_⟩) hHeld ?_ ?_
          rotate_left
          ·rintro w' ⟨s0, s1, s2, s3, s4, s5⟩
           go_simp
           with_reducible rfl
          rotate_left
          ·simp only [Act.put, ps_]
           rfl
          refine one_ (i := 7) (N := some 43) #[tt,tt,tt,tt,tt,tt,tt,tt,ff,ff,ff] rfl rfl (one_of HT_.out (by kernel_rfl)) (by decide) (fun K hK => ?_)
          refine value_ (w1 := ?_) (v := ?_) (by rfl) rfl ?_ ?_
          rotate_left 2
          ·go_simp
           constructor
           ·rfl
           ·rfl
          refine hK.out _ _ ⟨(blk_cell (blk_alloc BK247.out _) 0).trans rfl, (blk_cell (blk_alloc BK247.out _) 1).trans rfl, (blk_cell (blk_alloc BK244.out _) 0).trans rfl, (blk_cell (blk_alloc BK244.out _) 1).trans rfl, (World.cell?_alloc_lt _ _ _ (World.block_lt_of_cell? _ _ (hHeld.2.2.2.2.1))).trans (hHeld.2.2.2.2.1), (World.cell?_alloc_lt _ _ _ (World.block_lt_of_cell? _ _ (hHeld.2.2.2.2.2))).trans (hHeld.2.2.2.2.2)⟩ (fun hHeld => ?_)
          clear hK K
          refine norm_ (a' := ?_) ?_ ?_
          rotate_left
          ·show Act.put _ (some 43) _ = _
           simp only [Act.put, ps_]
           rfl
          refine last_ (i := 8) (N := some 44) #[tt,tt,tt,tt,tt,tt,tt,tt,tt,ff,ff] rfl rfl (one_of HT_.out (by kernel_rfl)) (by decide) (fun K hK => ?_)
          refine Kd.R_append_step k30 (w0 := w) w.heap.size (by rfl) (.tmp 37) (.tmp 43) 23 30 (.agg #[(.string ⟨#[]⟩), (.int .i64 0)]) 24 rfl Tryd.underlying23 info30 rfl (by decide) (by omega) u248000 x248000_1 (⟨(rd_T30 t238 x7_1).f0, (rd_T30 t238 x7_1).f1⟩ : S30) [.string ((rd_T30 t238 x7_1).f0), .int .i64 ((rd_T30 t238 x7_1).f1)] (fun k_ => some k_ ≠ (.slice (some ad248) t238.length co9 : Value).ownBlock) (fun _ => False) rfl rfl ?aP (fun _ hk => hk.elim) ?aF ?aO ?aB ?aS ?aL ?_
          (case aP => exact k30_mkM _ _ _ (⟨(rd_T30 t238 x7_1).f0, (rd_T30 t238 x7_1).f1⟩ : S30))
          (case aB => exact (by repeat first | (with_reducible first | exact HB.out | apply below_alloc | apply pw_below_drewN | apply below_drew1 | refine below_set ?_ GE244.out | refine below_set ?_ GE247.out) | exact HB.out))
          (case aF => exact (fun k_ hk => Kd.fresh' (Kd.R_lt (by (with_reducible repeat first | apply Kd.R_alloc | apply Kd.R_drewN | apply Kd.R_drew); exact HO_245000.out)) k_ hk))
          (case aO => exact (by (with_reducible repeat first | apply Kd.R_alloc | apply Kd.R_drewN | apply Kd.R_drew); exact HO_248000.out))
          (case aS => exact (below_size (by repeat first | (with_reducible first | exact HB.out | apply below_alloc | apply pw_below_drewN | apply below_drew1 | refine below_set ?_ GE244.out | refine below_set ?_ GE247.out) | exact HB.out)))
          (case aL => have := LMc23.out; omega)
          intro v250 w39 ho hb hg hat
          rw [← Ny249.out] at ho
          have n0_ := Aside0.mk (Kd.R_after (ok := (fun _ => True)) (by (with_reducible repeat first | apply Kd.R_alloc | apply Kd.R_drewN | apply Kd.R_drew); exact Kd.R_mono HO_245000.out (fun _ hk => ⟨trivial, hk⟩)) hg hat)
          have n1_ := Aside0.mk (Kd.R_over' (by (with_reducible repeat first | apply Kd.R_alloc | apply Kd.R_drewN | apply Kd.R_drew); exact HO_245001.out) (Kd.R_typed (by (with_reducible repeat first | apply Kd.R_alloc | apply Kd.R_drewN | apply Kd.R_drew); exact HO_248000.out)) (by decide) hg)
          have n2_ := Aside0.mk (Kd.R_over' (by (with_reducible repeat first | apply Kd.R_alloc | apply Kd.R_drewN | apply Kd.R_drew); exact HO_248001.out) (Kd.R_typed (by (with_reducible repeat first | apply Kd.R_alloc | apply Kd.R_drewN | apply Kd.R_drew); exact HO_248000.out)) (by decide) hg)
          have n3_ := Aside0.mk (blk_grown (g := gb244) (o := .cells #[.slice (some ad248) t238.length co9, .slice Ao11 t241.length co11] 26 (0, 0)) (by (with_reducible repeat first | apply blk_drewN | apply blk_drew | apply blk_alloc); exact BK244.out) hg (Kd.R_ne HO_248000.out BK244.out (by decide)))
          have n4_ := Aside0.mk (blk_grown (g := gb247) (o := .cells #[u248000, .slice Ao11 t241.length co11] 26 (0, 0)) (by (with_reducible repeat first | apply blk_drewN | apply blk_drew | apply blk_alloc); exact BK247.out) hg (Kd.R_ne HO_248000.out BK247.out (by decide)))
          have n5_ := Aside0.mk (hb); have n6_ := Aside0.mk (ho); clear HO_245000 HO_245001 HO_248001 BK244 BK247 HB HO_248000; have HO_245000 := n0_; have HO_245001 := n1_; have HO_248001 := n2_; have BK244 := n3_; have BK247 := n4_; have HB := n5_; have HO251 := n6_; clear n0_ n1_ n2_ n3_ n4_ n5_ n6_ ho hb hg hat
          obtain ⟨Ao40, co40, eo40⟩ := Kd.R_slice HO251.out
          (first | subst eo40 | (injection eo40 with f1_ f2_ f3_; have f4_ := f1_.symm; have f5_ := f3_.symm; clear f1_ f2_ f3_; subst f4_; subst f5_))
          refine hK.out _ _ ?_
          clear hK K
          refine norm_ (a' := ?_) ?_ ?_
          rotate_left
          ·show Act.put _ (some 44) _ = _
           simp only [Act.put, ps_]
           rfl
          refine pu_ 9 (some 45) (v := ?_) (a' := ?_) #[tt,tt,tt,tt,tt,tt,tt,tt,tt,tt,ff] HT_.out rfl rfl (by kernel_rfl) (fun _ _ _ h => h) (Or.inl ⟨by rfl, ?_⟩) ?_ ?_
          rotate_left
          ·intro w'
           go_simp
           with_reducible rfl
          rotate_left
          ·simp only [Act.put, ps_]
           rfl
          refine last_ (i := 10) (N := none) #[tt,tt,tt,tt,tt,tt,tt,tt,tt,tt,tt] rfl rfl (one_of HT_.out (by kernel_rfl)) (by decide) (fun K hK => ?_)
          have hs41 : w39.cell? ⟨gb247, 0, none⟩ = some (u248000) := (blk_cell BK247.out 0).trans rfl
          have hfs41 := blk_frozen BK247.out 0; have hns41_0 := NB244_247.out; have hms41_0 := NB247_244.out
          refine skip_ (w1 := ?_) (by rfl) rfl ?_ ?_
          rotate_left
          ·go_simp
           rfl
          refine hK.out _ _ ?_
          clear hK K
          refine done_ (done_of HT_.out (by kernel_rfl)) ?_
          have hnb42 := NB244_247.out; have hnc42 := NB247_244.out
          have hcz43_0 : w39.cell? ⟨gb244, 0, none⟩ = some (.slice (some ad248) t238.length co9) := (blk_cell BK244.out 0).trans rfl
          have hcz43_1 : w39.cell? ⟨gb244, 1, none⟩ = some (.slice Ao11 t241.length co11) := (blk_cell BK244.out 1).trans rfl
          have hfz43_0 := blk_frozen BK244.out 0; have hfz43_1 := blk_frozen BK244.out 1
          have p252 : 0 ≤ (x7_1 : Int) := of_decide_eq_true (by first | (with_reducible assumption) | assumption)
          have q252 : x7_1 < (t238.length : Int) := of_decide_eq_true (by first | (with_reducible assumption) | assumption)
          obtain ⟨ad252, e252, hx252_0, hx252_1⟩ := at_T30 (Kd.R_reads' HO_245000.out).2.2 x7_1 p252 q252
          obtain rfl : ad248 = ad252 := (by injection e252)
          have hn252_0 : ad248.block ≠ gb247 := Kd.own_blk (Kd.R_ne HO_245000.out BK247.out (by decide))
          replace hx252_0 := (cell_far (p := ⟨gb247, 0, none⟩) (by first | (rw [add_block]; exact hn252_0) | (show (Addr.add _ _).block ≠ _; rw [add_block]; exact hn252_0) | exact hn252_0) (.slice Ao40 y249.length co40)).trans hx252_0
          replace hx252_1 := (cell_far (p := ⟨gb247, 0, none⟩) (by first | (rw [add_block]; exact hn252_0) | (show (Addr.add _ _).block ≠ _; rw [add_block]; exact hn252_0) | exact hn252_0) (.slice Ao40 y249.length co40)).trans hx252_1
          clear hn252_0
          replace p252 := eq_true p252
          replace q252 := eq_true q252
          try go_wp2
          go_roundg k1
          case measure => have := HK1.out; omega
          case rel => exact ⟨(x6_1), (wrap64 (x7_1 - 1)), (y249), (.slice Ao40 y249.length co40), (by first | rfl | (simp; done) | (simp [*]; done)), (by first | rfl | (simp; done) | (simp [*]; done)), H', ⟨by have := HK1.out; omega⟩, ⟨by (with_reducible repeat first | apply Kd.R_alloc | apply Kd.R_drewN | apply Kd.R_drew); exact Kd.R_mono (Kd.R_far (p := ⟨gb247, 0, none⟩) (Kd.R_types HO_245000.out BK247.out (by decide)) (fun _ hk => hk.2) (.slice Ao40 y249.length co40)) (fun _ hk => hk.1.2)⟩, ⟨by (with_reducible repeat first | apply Kd.R_alloc | apply Kd.R_drewN | apply Kd.R_drew); exact Kd.R_mono (Kd.R_far (p := ⟨gb247, 0, none⟩) (Kd.R_types HO_245001.out BK247.out (by decide)) (fun _ hk => hk.2) (.slice Ao40 y249.length co40)) (fun _ hk => trivial)⟩, ⟨by (with_reducible repeat first | apply Kd.R_alloc | apply Kd.R_drewN | apply Kd.R_drew); exact Kd.R_mono (Kd.R_far (p := ⟨gb247, 0, none⟩) (Kd.R_types HO251.out BK247.out (by decide)) (fun _ hk => hk.2) (.slice Ao40 y249.length co40)) (fun _ hk => hk.1)⟩, ⟨by (with_reducible repeat first | apply Kd.R_alloc | apply Kd.R_drewN | apply Kd.R_drew); exact Kd.R_mono (Kd.R_far (p := ⟨gb247, 0, none⟩) (Kd.R_types HO_248001.out BK247.out (by decide)) (fun _ hk => hk.2) (.slice Ao40 y249.length co40)) (fun _ hk => trivial)⟩, ⟨by (with_reducible repeat first | apply blk_drewN | apply blk_drew | apply blk_alloc); refine blk_far ?_ NB244_247.out _; (with_reducible repeat first | apply blk_drewN | apply blk_drew | apply blk_alloc); exact BK244.out⟩, ⟨by (with_reducible repeat first | apply blk_drewN | apply blk_drew | apply blk_alloc); refine blk_put (cs := #[u248000, .slice Ao11 t241.length co11]) ?_ 0 _ rfl; (with_reducible repeat first | apply blk_drewN | apply blk_drew | apply blk_alloc); exact BK247.out⟩, ⟨by repeat (first | (with_reducible first | exact HB.out | apply below_alloc | apply pw_below_drewN | apply below_drew1 | refine below_set ?_ GE244.out | refine below_set ?_ GE247.out) | exact HB.out)⟩⟩
        ·rw [if_neg c23] at H
         exact absurd H (by simp)
       ·rw [if_neg c22] at H
        exact absurd H (by simp)
      ·rw [if_neg c21] at H
       exact absurd H (by simp)
     ·rw [if_neg c20] at H
      have c20b0 : decide (0 ≤ x7_1) = false := decide_eq_false c20
      clear c20
      replace H := Option.bind_eq_some_iff.mp H
      obtain ⟨t254, A440, H⟩ := H
      replace H : (if t254.toList = t245.toList then (if x6_1 = 0 then (some ((t245.toList == ([110, 111, 116, 104, 105, 110, 103] : List UInt8)) == ((t241.length : Int) == 0))) else (some ((t245.toList == ([110, 111, 116, 104, 105, 110, 103] : List UInt8)) == false))) else (some false)) = some r := H
      have A44 := Aside0.mk A440; clear A440
      by_cases c45 : t254.toList = t245.toList
      ·rw [if_pos c45] at H
       have c45b0 : (t254.toList == t245.toList) = true := beq_iff_eq.mpr c45
       have c45b1 : (t254.toList != t245.toList) = false := bne_eq_false_iff_eq.mpr c45
       clear c45
       by_cases c46 : x6_1 = 0
       ·rw [if_pos c46] at H
        have c46b0 : (x6_1 == 0) = true := beq_iff_eq.mpr c46
        have c46b1 : (x6_1 != 0) = false := bne_eq_false_iff_eq.mpr c46
        clear c46
        obtain rfl := Option.some.inj H
        have hnb47 := NB247_244.out; have hnc47 := NB244_247.out
        have hcz48_0 : wr.cell? ⟨gb247, 0, none⟩ = some (u248000) := (blk_cell BK247.out 0).trans rfl
        have hcz48_1 : wr.cell? ⟨gb247, 1, none⟩ = some (.slice Ao11 t241.length co11) := (blk_cell BK247.out 1).trans rfl
        have hfz48_0 := blk_frozen BK247.out 0; have hfz48_1 := blk_frozen BK247.out 1
        obtain ⟨Ao49, co49, eo49⟩ := Kd.R_slice HO_248000.out
        subst eo49
        go_wp2_with (first | ((with_reducible refine gate_callee (f := 5) rfl ?_); refine goesL_ (some 65) rfl rfl Tryd.func5 (by kernel_rfl) rfl #[.agg #[.slice Ao49 x248000_1.length co49, .slice Ao11 t241.length co11]] rfl (by (try simp only [List.map_toArray, List.map_cons, List.map_nil]); first | done | rfl) ?_; (with_reducible refine (impl_SummaryText.calls k1 _ _ x248000_1 _ _ t241 t254 _ ?side1 ?side2 ?side3 ?side4 A44.out).mono ?_); (case side1 => repeat (first | exact (Kd.R_reads' HO_248000.out).2.2 | with_reducible first | apply Kd.C_alloc | apply Kd.C_drewN | apply Kd.C_drew)); (case side2 => exact (Kd.R_reads' HO_248000.out).2.1); (case side3 => repeat (first | exact (Kd.R_reads' HO_248001.out).2.2 | with_reducible first | apply Kd.C_alloc | apply Kd.C_drewN | apply Kd.C_drew)); (case side4 => exact (Kd.R_reads' HO_248001.out).2.1); rintro e w50 ⟨rfl, hb⟩; refine ⟨_, rfl, ?_⟩; replace HO_245000 := Aside0.mk (Kd.R_below (by (with_reducible repeat first | apply Kd.R_alloc | apply Kd.R_drewN | apply Kd.R_drew); exact HO_245000.out) hb); replace HO_245001 := Aside0.mk (Kd.R_below (by (with_reducible repeat first | apply Kd.R_alloc | apply Kd.R_drewN | apply Kd.R_drew); exact HO_245001.out) hb); replace HO_248000 := Aside0.mk (Kd.R_below (by (with_reducible repeat first | apply Kd.R_alloc | apply Kd.R_drewN | apply Kd.R_drew); exact HO_248000.out) hb); replace HO_248001 := Aside0.mk (Kd.R_below (by (with_reducible repeat first | apply Kd.R_alloc | apply Kd.R_drewN | apply Kd.R_drew); exact HO_248001.out) hb); replace BK244 := Aside0.mk (blk_below (g := gb244) (o := .cells #[.slice Ao9 t238.length co9, .slice Ao11 t241.length co11] 26 (0, 0)) (by (with_reducible repeat first | apply blk_drewN | apply blk_drew | apply blk_alloc); exact BK244.out) hb); replace BK247 := Aside0.mk (blk_below (g := gb247) (o := .cells #[.slice Ao49 x248000_1.length co49, .slice Ao11 t241.length co11] 26 (0, 0)) (by (with_reducible repeat first | apply blk_drewN | apply blk_drew | apply blk_alloc); exact BK247.out) hb); replace HB := Aside0.mk (below_step (by repeat first | (with_reducible first | exact HB.out | apply below_alloc | apply pw_below_drewN | apply below_drew1 | refine below_set ?_ GE244.out | refine below_set ?_ GE247.out) | exact HB.out) hb); (try clear hb); have hcz51_0 : w50.cell? ⟨gb244, 0, none⟩ = some (.slice Ao9 t238.length co9) := (blk_cell BK244.out 0).trans rfl; have hcz51_1 : w50.cell? ⟨gb244, 1, none⟩ = some (.slice Ao11 t241.length co11) := (blk_cell BK244.out 1).trans rfl; have hfz51_0 := blk_frozen BK244.out 0; have hfz51_1 := blk_frozen BK244.out 1))
        go_ret
        exact ⟨by first | rfl | (simp [errW_none, errW_some] <;> rfl) | (simp [*, errW_none, errW_some] <;> rfl), by repeat (first | (with_reducible first | exact HB.out | apply below_alloc | apply pw_below_drewN | apply below_drew1 | refine below_set ?_ GE244.out | refine below_set ?_ GE247.out) | exact HB.out)⟩
       ·rw [if_neg c46] at H
        have c46b0 : (x6_1 == 0) = false := beq_eq_false_iff_ne.mpr c46
        have c46b1 : (x6_1 != 0) = true := bne_iff_ne.mpr c46
        obtain rfl := Option.some.inj H
        have hnb52 := NB247_244.out; have hnc52 := NB244_247.out
        have hcz53_0 : wr.cell? ⟨gb247, 0, none⟩ = some (u248000) := (blk_cell BK247.out 0).trans rfl
        have hcz53_1 : wr.cell? ⟨gb247, 1, none⟩ = some (.slice Ao11 t241.length co11) := (blk_cell BK247.out 1).trans rfl
        have hfz53_0 := blk_frozen BK247.out 0; have hfz53_1 := blk_frozen BK247.out 1
        obtain ⟨Ao54, co54, eo54⟩ := Kd.R_slice HO_248000.out
        subst eo54
        go_wp2_with (first | ((with_reducible refine gate_callee (f := 5) rfl ?_); refine goesL_ (some 65) rfl rfl Tryd.func5 (by kernel_rfl) rfl #[.agg #[.slice Ao54 x248000_1.length co54, .slice Ao11 t241.length co11]] rfl (by (try simp only [List.map_toArray, List.map_cons, List.map_nil]); first | done | rfl) ?_; (with_reducible refine (impl_SummaryText.calls k1 _ _ x248000_1 _ _ t241 t254 _ ?side1 ?side2 ?side3 ?side4 A44.out).mono ?_); (case side1 => repeat (first | exact (Kd.R_reads' HO_248000.out).2.2 | with_reducible first | apply Kd.C_alloc | apply Kd.C_drewN | apply Kd.C_drew)); (case side2 => exact (Kd.R_reads' HO_248000.out).2.1); (case side3 => repeat (first | exact (Kd.R_reads' HO_248001.out).2.2 | with_reducible first | apply Kd.C_alloc | apply Kd.C_drewN | apply Kd.C_drew)); (case side4 => exact (Kd.R_reads' HO_248001.out).2.1); rintro e w55 ⟨rfl, hb⟩; refine ⟨_, rfl, ?_⟩; replace HO_245000 := Aside0.mk (Kd.R_below (by (with_reducible repeat first | apply Kd.R_alloc | apply Kd.R_drewN | apply Kd.R_drew); exact HO_245000.out) hb); replace HO_245001 := Aside0.mk (Kd.R_below (by (with_reducible repeat first | apply Kd.R_alloc | apply Kd.R_drewN | apply Kd.R_drew); exact HO_245001.out) hb); replace HO_248000 := Aside0.mk (Kd.R_below (by (with_reducible repeat first | apply Kd.R_alloc | apply Kd.R_drewN | apply Kd.R_drew); exact HO_248000.out) hb); replace HO_248001 := Aside0.mk (Kd.R_below (by (with_reducible repeat first | apply Kd.R_alloc | apply Kd.R_drewN | apply Kd.R_drew); exact HO_248001.out) hb); replace BK244 := Aside0.mk (blk_below (g := gb244) (o := .cells #[.slice Ao9 t238.length co9, .slice Ao11 t241.length co11] 26 (0, 0)) (by (with_reducible repeat first | apply blk_drewN | apply blk_drew | apply blk_alloc); exact BK244.out) hb); replace BK247 := Aside0.mk (blk_below (g := gb247) (o := .cells #[.slice Ao54 x248000_1.length co54, .slice Ao11 t241.length co11] 26 (0, 0)) (by (with_reducible repeat first | apply blk_drewN | apply blk_drew | apply blk_alloc); exact BK247.out) hb); replace HB := Aside0.mk (below_step (by repeat first | (with_reducible first | exact HB.out | apply below_alloc | apply pw_below_drewN | apply below_drew1 | refine below_set ?_ GE244.out | refine below_set ?_ GE247.out) | exact HB.out) hb); (try clear hb)))
        go_ret
        exact ⟨by first | rfl | (simp [errW_none, errW_some] <;> rfl) | (simp [*, errW_none, errW_some] <;> rfl), by repeat (first | (with_reducible first | exact HB.out | apply below_alloc | apply pw_below_drewN | apply below_drew1 | refine below_set ?_ GE244.out | refine below_set ?_ GE247.out) | exact HB.out)⟩
      ·rw [if_neg c45] at H
       have c45b0 : (t254.toList == t245.toList) = false := beq_eq_false_iff_ne.mpr c45
       have c45b1 : (t254.toList != t245.toList) = true := bne_iff_ne.mpr c45
       obtain rfl := Option.some.inj H
       have hnb56 := NB247_244.out; have hnc56 := NB244_247.out
       have hcz57_0 : wr.cell? ⟨gb247, 0, none⟩ = some (u248000) := (blk_cell BK247.out 0).trans rfl
       have hcz57_1 : wr.cell? ⟨gb247, 1, none⟩ = some (.slice Ao11 t241.length co11) := (blk_cell BK247.out 1).trans rfl
       have hfz57_0 := blk_frozen BK247.out 0; have hfz57_1 := blk_frozen BK247.out 1
       obtain ⟨Ao58, co58, eo58⟩ := Kd.R_slice HO_248000.out
       subst eo58
       go_wp2_with (first | ((with_reducible refine gate_callee (f := 5) rfl ?_); refine goesL_ (some 65) rfl rfl Tryd.func5 (by kernel_rfl) rfl #[.agg #[.slice Ao58 x248000_1.length co58, .slice Ao11 t241.length co11]] rfl (by (try simp only [List.map_toArray, List.map_cons, List.map_nil]); first | done | rfl) ?_; (with_reducible refine (impl_SummaryText.calls k1 _ _ x248000_1 _ _ t241 t254 _ ?side1 ?side2 ?side3 ?side4 A44.out).mono ?_); (case side1 => repeat (first | exact (Kd.R_reads' HO_248000.out).2.2 | with_reducible first | apply Kd.C_alloc | apply Kd.C_drewN | apply Kd.C_drew)); (case side2 => exact (Kd.R_reads' HO_248000.out).2.1); (case side3 => repeat (first | exact (Kd.R_reads' HO_248001.out).2.2 | with_reducible first | apply Kd.C_alloc | apply Kd.C_drewN | apply Kd.C_drew)); (case side4 => exact (Kd.R_reads' HO_248001.out).2.1); rintro e w59 ⟨rfl, hb⟩; refine ⟨_, rfl, ?_⟩; replace HO_245000 := Aside0.mk (Kd.R_below (by (with_reducible repeat first | apply Kd.R_alloc | apply Kd.R_drewN | apply Kd.R_drew); exact HO_245000.out) hb); replace HO_245001 := Aside0.mk (Kd.R_below (by (with_reducible repeat first | apply Kd.R_alloc | apply Kd.R_drewN | apply Kd.R_drew); exact HO_245001.out) hb); replace HO_248000 := Aside0.mk (Kd.R_below (by (with_reducible repeat first | apply Kd.R_alloc | apply Kd.R_drewN | apply Kd.R_drew); exact HO_248000.out) hb); replace HO_248001 := Aside0.mk (Kd.R_below (by (with_reducible repeat first | apply Kd.R_alloc | apply Kd.R_drewN | apply Kd.R_drew); exact HO_248001.out) hb); replace BK244 := Aside0.mk (blk_below (g := gb244) (o := .cells #[.slice Ao9 t238.length co9, .slice Ao11 t241.length co11] 26 (0, 0)) (by (with_reducible repeat first | apply blk_drewN | apply blk_drew | apply blk_alloc); exact BK244.out) hb); replace BK247 := Aside0.mk (blk_below (g := gb247) (o := .cells #[.slice Ao58 x248000_1.length co58, .slice Ao11 t241.length co11] 26 (0, 0)) (by (with_reducible repeat first | apply blk_drewN | apply blk_drew | apply blk_alloc); exact BK247.out) hb); replace HB := Aside0.mk (below_step (by repeat first | (with_reducible first | exact HB.out | apply below_alloc | apply pw_below_drewN | apply below_drew1 | refine below_set ?_ GE244.out | refine below_set ?_ GE247.out) | exact HB.out) hb); (try clear hb)))
       go_ret
       exact ⟨by first | rfl | (simp [errW_none, errW_some] <;> rfl) | (simp [*, errW_none, errW_some] <;> rfl), by repeat (first | (with_reducible first | exact HB.out | apply below_alloc | apply pw_below_drewN | apply below_drew1 | refine below_set ?_ GE244.out | refine below_set ?_ GE247.out) | exact HB.out)⟩
  ·rw [if_neg c6] at H
   have c6b0 : (t245.toList == t246.toList) = false := beq_eq_false_iff_ne.mpr c6
   have c6b1 : (t245.toList != t246.toList) = true := bne_iff_ne.mpr c6
   replace H := Option.bind_eq_some_iff.mp H
   obtain ⟨t255, A600, H⟩ := H
   replace H : (some (t245.toList == t255.toList)) = some r := H
   have A60 := Aside0.mk A600; clear A600
   obtain rfl := Option.some.inj H
   go_enter Tryd.func3, Tryd.ntmps3
   go_wp2_with (first | ((with_reducible refine gate_callee (f := 4) rfl ?_); refine goesL_ (some 12) rfl rfl Tryd.func4 (by kernel_rfl) rfl #[.slice A0 l0.length c0] rfl (by (try simp only [List.map_toArray, List.map_cons, List.map_nil]); first | done | rfl) ?_; (with_reducible refine (spec_DrawSummaryText.calls k _ _ l0 t238 t241 _ ?side1 ?side2 A3.out).mono ?_); (case side1 => repeat (first | exact HR0.out | with_reducible first | apply Kd.C_alloc | apply Kd.C_drewN | apply Kd.C_drew)); (case side2 => exact HC0.out); rintro e w61 ⟨v239, v242, rfl, ho0, ho1, hb⟩; refine ⟨_, rfl, ?_⟩; have HO240 := Aside0.mk (Kd.R_lower ho0 (below_size (by repeat first | (with_reducible first | exact HB.out | apply below_alloc | apply pw_below_drewN | apply below_drew1) | exact HB.out))); have HO243 := Aside0.mk (Kd.R_lower ho1 (below_size (by repeat first | (with_reducible first | exact HB.out | apply below_alloc | apply pw_below_drewN | apply below_drew1) | exact HB.out))); replace HB := Aside0.mk (below_step (by repeat first | (with_reducible first | exact HB.out | apply below_alloc | apply pw_below_drewN | apply below_drew1) | exact HB.out) hb); (try clear hb); (try clear ho0); (try clear ho1)) | ((with_reducible refine gate_dst (N := 3) rfl ?_); (try (refine gate_guard (by rfl) ?_; dsimp only)); refine box_event ?hg (N := 3) ?hd (cs := #[.slice none 0 0, .slice none 0 0]) (t := 26) ?hr ?_; (case hd => rfl); (case hg => rfl); (case hr => first | (go_simp; done) | (go_simp; rfl)); intro gb244 hg w62 hbox hb; replace HO240 := Aside0.mk (Kd.R_below (by (with_reducible repeat first | apply Kd.R_alloc | apply Kd.R_drewN | apply Kd.R_drew); exact HO240.out) hb); replace HO243 := Aside0.mk (Kd.R_below (by (with_reducible repeat first | apply Kd.R_alloc | apply Kd.R_drewN | apply Kd.R_drew); exact HO243.out) hb); have BK244 := Aside0.mk (hbox); have GW244 := Aside0.mk ((by rw [hg]; exact (below_size (by repeat first | (with_reducible first | exact HB.out | apply below_alloc | apply pw_below_drewN | apply below_drew1) | exact HB.out)) : w.heap.size ≤ gb244)); have GE244 := Aside0.mk ((by rw [hg]; exact (below_size (by repeat first | (with_reducible first | exact HB.out | apply below_alloc | apply pw_below_drewN | apply below_drew1) | exact HB.out)) : w.heap.size ≤ gb244)); replace HB := Aside0.mk (below_step (by repeat first | (with_reducible first | exact HB.out | apply below_alloc | apply pw_below_drewN | apply below_drew1) | exact HB.out) hb); clear hb hbox hg; obtain ⟨Ao63, co63, eo63⟩ := Kd.R_slice HO240.out; subst eo63; have hcz64_0 : w62.cell? ⟨gb244, 0, none⟩ = some (.slice none 0 0) := (blk_cell BK244.out 0).trans rfl; have hcz64_1 : w62.cell? ⟨gb244, 1, none⟩ = some (.slice none 0 0) := (blk_cell BK244.out 1).trans rfl; have hfz64_0 := blk_frozen BK244.out 0; have hfz64_1 := blk_frozen BK244.out 1; obtain ⟨Ao65, co65, eo65⟩ := Kd.R_slice HO243.out; subst eo65) | ((with_reducible refine gate_callee (f := 5) rfl ?_); refine goesL_ (some 14) rfl rfl Tryd.func5 (by kernel_rfl) rfl #[.agg #[.slice Ao63 t238.length co63, .slice Ao65 t241.length co65]] rfl (by (try simp only [List.map_toArray, List.map_cons, List.map_nil]); first | done | rfl) ?_; (with_reducible refine (impl_SummaryText.calls k _ _ t238 _ _ t241 t245 _ ?side1 ?side2 ?side3 ?side4 A4.out).mono ?_); (case side1 => refine (Kd.R_reads' (e := 30) (base := w.heap.size) (ok := fun k_ => True) (n := t238.length) (c := co63) ?_).2.2; exact (by (with_reducible repeat first | apply Kd.R_alloc | apply Kd.R_drewN | apply Kd.R_drew); exact (Kd.R_mono (Kd.R_far (p := ⟨gb244, 1, none⟩) (Kd.R_far (p := ⟨gb244, 0, none⟩) (Kd.R_types HO240.out BK244.out (by decide)) (fun _ hk => hk.2) (.slice Ao63 t238.length co63)) (fun _ hk => hk.2) (.slice Ao65 t241.length co65)) (fun _ h_ => h_.1)))); (case side2 => exact (Kd.R_reads' HO240.out).2.1); (case side3 => refine (Kd.R_reads' (e := 9) (base := w.heap.size) (ok := fun k_ => True) (n := t241.length) (c := co65) ?_).2.2; exact (by (with_reducible repeat first | apply Kd.R_alloc | apply Kd.R_drewN | apply Kd.R_drew); exact (Kd.R_mono (Kd.R_far (p := ⟨gb244, 1, none⟩) (Kd.R_far (p := ⟨gb244, 0, none⟩) (Kd.R_types HO243.out BK244.out (by decide)) (fun _ hk => hk.2) (.slice Ao63 t238.length co63)) (fun _ hk => hk.2) (.slice Ao65 t241.length co65)) (fun _ h_ => h_.1)))); (case side4 => exact (Kd.R_reads' HO243.out).2.1); rintro e w66 ⟨rfl, hb⟩; refine ⟨_, rfl, ?_⟩; replace HO240 := Aside0.mk (Kd.R_below (by (with_reducible repeat first | apply Kd.R_alloc | apply Kd.R_drewN | apply Kd.R_drew); exact (Kd.R_mono (Kd.R_far (p := ⟨gb244, 1, none⟩) (Kd.R_far (p := ⟨gb244, 0, none⟩) (Kd.R_types HO240.out BK244.out (by decide)) (fun _ hk => hk.2) (.slice Ao63 t238.length co63)) (fun _ hk => hk.2) (.slice Ao65 t241.length co65)) (fun _ h_ => h_.1))) hb); replace HO243 := Aside0.mk (Kd.R_below (by (with_reducible repeat first | apply Kd.R_alloc | apply Kd.R_drewN | apply Kd.R_drew); exact (Kd.R_mono (Kd.R_far (p := ⟨gb244, 1, none⟩) (Kd.R_far (p := ⟨gb244, 0, none⟩) (Kd.R_types HO243.out BK244.out (by decide)) (fun _ hk => hk.2) (.slice Ao63 t238.length co63)) (fun _ hk => hk.2) (.slice Ao65 t241.length co65)) (fun _ h_ => h_.1))) hb); replace BK244 := Aside0.mk (blk_below (g := gb244) (o := .cells #[.slice Ao63 t238.length co63, .slice Ao65 t241.length co65] 26 (0, 0)) (by (with_reducible repeat first | apply blk_drewN | apply blk_drew | apply blk_alloc); refine blk_put (cs := #[.slice Ao63 t238.length co63, .slice none 0 0]) ?_ 1 _ rfl; (with_reducible repeat first | apply blk_drewN | apply blk_drew | apply blk_alloc); refine blk_put (cs := #[.slice none 0 0, .slice none 0 0]) ?_ 0 _ rfl; (with_reducible repeat first | apply blk_drewN | apply blk_drew | apply blk_alloc); exact BK244.out) hb); replace HB := Aside0.mk (below_step (by repeat first | (with_reducible first | exact HB.out | apply below_alloc | apply pw_below_drewN | apply below_drew1 | refine below_set ?_ GE244.out) | exact HB.out) hb); (try clear hb); have hcz67_0 : w66.cell? ⟨gb244, 0, none⟩ = some (.slice Ao63 t238.length co63) := (blk_cell BK244.out 0).trans rfl; have hcz67_1 : w66.cell? ⟨gb244, 1, none⟩ = some (.slice Ao65 t241.length co65) := (blk_cell BK244.out 1).trans rfl; have hfz67_0 := blk_frozen BK244.out 0; have hfz67_1 := blk_frozen BK244.out 1) | ((with_reducible refine gate_callee (f := 6) rfl ?_); refine goesL_ (some 17) rfl rfl Tryd.func6 (by kernel_rfl) rfl #[.agg #[.slice Ao63 t238.length co63, .slice Ao65 t241.length co65]] rfl (by (try simp only [List.map_toArray, List.map_cons, List.map_nil]); first | done | rfl) ?_; (with_reducible refine (spec_SummaryText.calls k _ _ t238 _ _ t241 t246 _ ?side1 ?side2 ?side3 ?side4 A5.out).mono ?_); (case side1 => repeat (first | exact (Kd.R_reads' HO240.out).2.2 | with_reducible first | apply Kd.C_alloc | apply Kd.C_drewN | apply Kd.C_drew)); (case side2 => exact (Kd.R_reads' HO240.out).2.1); (case side3 => repeat (first | exact (Kd.R_reads' HO243.out).2.2 | with_reducible first | apply Kd.C_alloc | apply Kd.C_drewN | apply Kd.C_drew)); (case side4 => exact (Kd.R_reads' HO243.out).2.1); rintro e w68 ⟨rfl, hb⟩; refine ⟨_, rfl, ?_⟩; replace HO240 := Aside0.mk (Kd.R_below (by (with_reducible repeat first | apply Kd.R_alloc | apply Kd.R_drewN | apply Kd.R_drew); exact HO240.out) hb); replace HO243 := Aside0.mk (Kd.R_below (by (with_reducible repeat first | apply Kd.R_alloc | apply Kd.R_drewN | apply Kd.R_drew); exact HO243.out) hb); replace BK244 := Aside0.mk (blk_below (g := gb244) (o := .cells #[.slice Ao63 t238.length co63, .slice Ao65 t241.length co65] 26 (0, 0)) (by (with_reducible repeat first | apply blk_drewN | apply blk_drew | apply blk_alloc); exact BK244.out) hb); replace HB := Aside0.mk (below_step (by repeat first | (with_reducible first | exact HB.out | apply below_alloc | apply pw_below_drewN | apply below_drew1 | refine below_set ?_ GE244.out) | exact HB.out) hb); (try clear hb); have hcz69_0 : w68.cell? ⟨gb244, 0, none⟩ = some (.slice Ao63 t238.length co63) := (blk_cell BK244.out 0).trans rfl; have hcz69_1 : w68.cell? ⟨gb244, 1, none⟩ = some (.slice Ao65 t241.length co65) := (blk_cell BK244.out 1).trans rfl; have hfz69_0 := blk_frozen BK244.out 0; have hfz69_1 := blk_frozen BK244.out 1) | ((with_reducible refine gate_callee (f := 6) rfl ?_); refine goesL_ (some 23) rfl rfl Tryd.func6 (by kernel_rfl) rfl #[.agg #[.slice Ao63 t238.length co63, .slice Ao65 t241.length co65]] rfl (by (try simp only [List.map_toArray, List.map_cons, List.map_nil]); first | done | rfl) ?_; (with_reducible refine (spec_SummaryText.calls k _ _ t238 _ _ t241 t255 _ ?side1 ?side2 ?side3 ?side4 A60.out).mono ?_); (case side1 => repeat (first | exact (Kd.R_reads' HO240.out).2.2 | with_reducible first | apply Kd.C_alloc | apply Kd.C_drewN | apply Kd.C_drew)); (case side2 => exact (Kd.R_reads' HO240.out).2.1); (case side3 => repeat (first | exact (Kd.R_reads' HO243.out).2.2 | with_reducible first | apply Kd.C_alloc | apply Kd.C_drewN | apply Kd.C_drew)); (case side4 => exact (Kd.R_reads' HO243.out).2.1); rintro e w70 ⟨rfl, hb⟩; refine ⟨_, rfl, ?_⟩; replace HO240 := Aside0.mk (Kd.R_below (by (with_reducible repeat first | apply Kd.R_alloc | apply Kd.R_drewN | apply Kd.R_drew); exact HO240.out) hb); replace HO243 := Aside0.mk (Kd.R_below (by (with_reducible repeat first | apply Kd.R_alloc | apply Kd.R_drewN | apply Kd.R_drew); exact HO243.out) hb); replace BK244 := Aside0.mk (blk_below (g := gb244) (o := .cells #[.slice Ao63 t238.length co63, .slice Ao65 t241.length co65] 26 (0, 0)) (by (with_reducible repeat first | apply blk_drewN | apply blk_drew | apply blk_alloc); exact BK244.out) hb); replace HB := Aside0.mk (below_step (by repeat first | (with_reducible first | exact HB.out | apply below_alloc | apply pw_below_drewN | apply below_drew1 | refine below_set ?_ GE244.out) | exact HB.out) hb); (try clear hb)))
   go_ret
   exact ⟨by first | rfl | (simp [errW_none, errW_some] <;> rfl) | (simp [*, errW_none, errW_some] <;> rfl), by repeat (first | (with_reducible first | exact HB.out | apply below_alloc | apply pw_below_drewN | apply below_drew1 | refine below_set ?_ GE244.out) | exact HB.out)⟩

/-- THE ONE PURE STATEMENT of laws_FnSummaryText: yours. -/
def laws_FnSummaryText.Pure : Prop := ∀ (l0 : List Int), l0.length ≤ maxLen → l0.length * 1 ≤ 140737488351232 → (∀ x ∈ l0, (Lit.int .u8 x).wf = true) → ∃ k, laws_FnSummaryText.f k l0 = some true
theorem laws_FnSummaryText.walk (P : laws_FnSummaryText.Pure) (a0 : Option Addr) (len0 cap0 : Nat) (z0 : List Int) (w : World) (w0 : (a0 = none ∧ len0 = 0 ∧ cap0 = 0 ∧ z0 = []) ∨ ∃ x, a0 = some x ∧ len0 ≤ cap0 ∧ cap0 ≤ maxLen ∧ z0.length = cap0 ∧ (∀ i, i < z0.length → w.cell? (x.add i) = some (.int .u8 (z0.getD i 0))) ∧ ∀ n ∈ z0, (Lit.int .u8 n).wf = true) (y0 : len0 * 1 ≤ 140737488351232) :
  Calls Tryd.prog 3 #[.slice a0 len0 cap0] w fun e w' => e = .returned (.bool true) ∧ Below w.heap.size w w' := by
 obtain ⟨l0, rfl, hr0, hm0, hw0, hc0⟩ := ReadsInt.ofRowC w0
 obtain ⟨k, h⟩ := P l0 hm0 y0 hw0
 refine (laws_FnSummaryText.calls k _ _ l0 true w (Kd.C_of_reads (d := (0 : Int)) (h1 := fun _ => rfl) hr0) hc0 h).mono ?_
 rintro e w' ⟨rfl, hd⟩
 exact ⟨rfl, hd⟩

end Go.Proofs.YtieghkchhjailaaDoor.Z
