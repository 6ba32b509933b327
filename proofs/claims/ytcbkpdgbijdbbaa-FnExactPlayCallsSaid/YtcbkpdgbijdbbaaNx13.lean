-- WRITTEN by wip/ext.py
import Derived.Test.YtcbkpdgbijdbbaaNx0
import Derived.Test.YtcbkpdgbijdbbaaNx3
import Derived.Test.YtcbkpdgbijdbbaaNx7
import Derived.Test.YtcbkpdgbijdbbaaNx8
import Derived.Test.YtcbkpdgbijdbbaaNx9
import Derived.Test.YtcbkpdgbijdbbaaNx10
import Derived.Test.YtcbkpdgbijdbbaaNx11
import Derived.Test.YtcbkpdgbijdbbaaNx12
namespace Go.Proofs.Ytcbkpdgbijdbbaa.N
open Go.RowKit Go.Proofs.YtcbkpdgbijdbbaaW.PrintWords Go.Proofs.YtcbkpdgbijdbbaaW.PrintLast Go.Proofs.YtcbkpdgbijdbbaaW.PrintMore
attribute [local go_sem] max2_int min2_int max_two min_two max_three min_three max_four min_four   -- for this text's walks alone
set_option linter.unusedVariables false
set_option linter.unusedSimpArgs false

/-! ### laws_FnExactPlayCalls: function 9 -/
mutual
def laws_FnExactPlayCalls.j0 : Nat → List (S90) → List Int → Bool → List (S33) → List Int → Bool → Bool → List (S114) → List (S44) → Option (Bool)
 | 0, _, _, _, _, _, _, _, _, _ => none
 | k + 1, x1, x6, x7, x9, x10, x11, x53, x242000, x258000 => if x53 = true then (some false) else ((laws_toDouble.f k x242000).bind fun t266 => ((laws_eqDouble.f k x258000 t266).bind fun t269 => (if t269 = true then ((laws_toCallS.f k x1).bind fun t270 => ((laws_eqCallS.f k x9 t270).bind fun t273 => (if t273 = true then ((laws_markDouble.f k x258000 1).bind fun t274 => ((laws_markCallS.f k x9 t274).bind fun t275 => (if t275 < 0 then (laws_FnExactPlayCalls.j1 k x1 x6 x7 x10 true x242000) else ((laws_eqIntS.f k x10 x6).bind fun t276 => (if t276 = true then (laws_FnExactPlayCalls.j1 k x1 x6 x7 x10 (x11 != x7) x242000) else (laws_FnExactPlayCalls.j1 k x1 x6 x7 x10 true x242000)))))) else (some false)))) else (some false))))
def laws_FnExactPlayCalls.j1 : Nat → List (S90) → List Int → Bool → List Int → Bool → List (S114) → Option (Bool)
 | 0, _, _, _, _, _, _ => none
 | k + 1, x1, x6, x7, x10, x82, x242000 => if x82 = true then (some false) else ((laws_markIntS.f k x10 1).bind fun bt277 => ((laws_heldIntS.f k bt277.2 1).bind fun t279 => (if t279 < 0 then (some false) else (if t279 = bt277.1 then ((laws_toDouble.f k x242000).bind fun t280 => ((laws_toCallS.f k x1).bind fun t283 => ((impl_PlayCalls.f k t280 t283).bind fun bt286 => ((laws_eqIntS.f k bt286.1 x6).bind fun t290 => (if t290 = true then (laws_FnExactPlayCalls.j2 k bt277.2 bt277.1 (bt286.2 != x7)) else (laws_FnExactPlayCalls.j2 k bt277.2 bt277.1 true)))))) else (some false)))))
def laws_FnExactPlayCalls.j2 : Nat → List Int → Int → Bool → Option (Bool)
 | 0, _, _, _ => none
 | k + 1, x10, x13, x110 => if x110 = true then (some false) else ((laws_heldIntS.f k x10 1).bind fun t291 => (if t291 < 0 then (some false) else (if t291 = x13 then (some true) else (some false))))
end
def laws_FnExactPlayCalls.f (k : Nat) (l0_0 : List (S114)) (l1 : List (S90)) : Option (Bool) := (laws_szDouble.f k l0_0 1048576).bind fun t242 => (if t242 < 0 then (some true) else ((laws_szCallS.f k l1 t242).bind fun t243 => (if t243 < 0 then (some true) else ((laws_toDouble.f k l0_0).bind fun t244 => ((laws_toCallS.f k l1).bind fun t247 => ((spec_PlayCalls.f k t244 t247).bind fun bt250 => ((laws_toDouble.f k l0_0).bind fun t254 => ((laws_toCallS.f k l1).bind fun t258 => ((impl_PlayCalls.f k t254 t258).bind fun bt261 => ((laws_eqIntS.f k bt261.1 bt250.1).bind fun t265 => (if t265 = true then (laws_FnExactPlayCalls.j0 k l1 bt250.1 bt250.2 t258 bt261.1 bt261.2 (bt261.2 != bt250.2) l0_0 t254) else (laws_FnExactPlayCalls.j0 k l1 bt250.1 bt250.2 t258 bt261.1 bt261.2 true l0_0 t254))))))))))))
theorem laws_FnExactPlayCalls.mono_l : ∀ k, (∀ y0 y1 y2 y3 y4 y5 y6 y7 y8, LeO (laws_FnExactPlayCalls.j0 k y0 y1 y2 y3 y4 y5 y6 y7 y8) (laws_FnExactPlayCalls.j0 (k + 1) y0 y1 y2 y3 y4 y5 y6 y7 y8)) ∧ (∀ y0 y1 y2 y3 y4 y5, LeO (laws_FnExactPlayCalls.j1 k y0 y1 y2 y3 y4 y5) (laws_FnExactPlayCalls.j1 (k + 1) y0 y1 y2 y3 y4 y5)) ∧ (∀ y0 y1 y2, LeO (laws_FnExactPlayCalls.j2 k y0 y1 y2) (laws_FnExactPlayCalls.j2 (k + 1) y0 y1 y2))
 | 0 => ⟨fun _ _ _ _ _ _ _ _ _ r h => by simp [laws_FnExactPlayCalls.j0] at h, fun _ _ _ _ _ _ r h => by simp [laws_FnExactPlayCalls.j1] at h, fun _ _ _ r h => by simp [laws_FnExactPlayCalls.j2] at h⟩
 | k + 1 => by
  obtain ⟨ih0, ih1, ih2⟩ := laws_FnExactPlayCalls.mono_l k
  refine ⟨?_, ?_, ?_⟩
  ·intro y0 y1 y2 y3 y4 y5 y6 y7 y8
   unfold laws_FnExactPlayCalls.j0
   repeat' first
   | (with_reducible exact ih0 _ _ _ _ _ _ _ _ _)
   | (with_reducible exact ih1 _ _ _ _ _ _)
   | (with_reducible exact ih2 _ _ _)
   | (with_reducible exact impl_PlayCalls.mono _ _ _)
   | (with_reducible exact laws_eqCallS.mono _ _ _)
   | (with_reducible exact laws_eqDouble.mono _ _ _)
   | (with_reducible exact laws_eqIntS.mono _ _ _)
   | (with_reducible exact laws_heldIntS.mono _ _ _)
   | (with_reducible exact laws_markCallS.mono _ _ _)
   | (with_reducible exact laws_markDouble.mono _ _ _)
   | (with_reducible exact laws_markIntS.mono _ _ _)
   | (with_reducible exact laws_szCallS.mono _ _ _)
   | (with_reducible exact laws_szDouble.mono _ _ _)
   | (with_reducible exact laws_toCallS.mono _ _)
   | (with_reducible exact laws_toDouble.mono _ _)
   | (with_reducible exact spec_PlayCalls.mono _ _ _)
   | (with_reducible exact LeO.refl _)
   | (with_reducible exact LeO.none _)
   | (with_reducible refine LeO.ite ?_ ?_)
   | (with_reducible refine LeO.bind ?_ (fun _ => ?_))
   | refine LeO.ite ?_ ?_
   | refine LeO.bind ?_ (fun _ => ?_)
  ·intro y0 y1 y2 y3 y4 y5
   unfold laws_FnExactPlayCalls.j1
   repeat' first
   | (with_reducible exact ih0 _ _ _ _ _ _ _ _ _)
   | (with_reducible exact ih1 _ _ _ _ _ _)
   | (with_reducible exact ih2 _ _ _)
   | (with_reducible exact impl_PlayCalls.mono _ _ _)
   | (with_reducible exact laws_eqCallS.mono _ _ _)
   | (with_reducible exact laws_eqDouble.mono _ _ _)
   | (with_reducible exact laws_eqIntS.mono _ _ _)
   | (with_reducible exact laws_heldIntS.mono _ _ _)
   | (with_reducible exact laws_markCallS.mono _ _ _)
   | (with_reducible exact laws_markDouble.mono _ _ _)
   | (with_reducible exact laws_markIntS.mono _ _ _)
   | (with_reducible exact laws_szCallS.mono _ _ _)
   | (with_reducible exact laws_szDouble.mono _ _ _)
   | (with_reducible exact laws_toCallS.mono _ _)
   | (with_reducible exact laws_toDouble.mono _ _)
   | (with_reducible exact spec_PlayCalls.mono _ _ _)
   | (with_reducible exact LeO.refl _)
   | (with_reducible exact LeO.none _)
   | (with_reducible refine LeO.ite ?_ ?_)
   | (with_reducible refine LeO.bind ?_ (fun _ => ?_))
   | refine LeO.ite ?_ ?_
   | refine LeO.bind ?_ (fun _ => ?_)
  ·intro y0 y1 y2
   unfold laws_FnExactPlayCalls.j2
   repeat' first
   | (with_reducible exact ih0 _ _ _ _ _ _ _ _ _)
   | (with_reducible exact ih1 _ _ _ _ _ _)
   | (with_reducible exact ih2 _ _ _)
   | (with_reducible exact impl_PlayCalls.mono _ _ _)
   | (with_reducible exact laws_eqCallS.mono _ _ _)
   | (with_reducible exact laws_eqDouble.mono _ _ _)
   | (with_reducible exact laws_eqIntS.mono _ _ _)
   | (with_reducible exact laws_heldIntS.mono _ _ _)
   | (with_reducible exact laws_markCallS.mono _ _ _)
   | (with_reducible exact laws_markDouble.mono _ _ _)
   | (with_reducible exact laws_markIntS.mono _ _ _)
   | (with_reducible exact laws_szCallS.mono _ _ _)
   | (with_reducible exact laws_szDouble.mono _ _ _)
   | (with_reducible exact laws_toCallS.mono _ _)
   | (with_reducible exact laws_toDouble.mono _ _)
   | (with_reducible exact spec_PlayCalls.mono _ _ _)
   | (with_reducible exact LeO.refl _)
   | (with_reducible exact LeO.none _)
   | (with_reducible refine LeO.ite ?_ ?_)
   | (with_reducible refine LeO.bind ?_ (fun _ => ?_))
   | refine LeO.ite ?_ ?_
   | refine LeO.bind ?_ (fun _ => ?_)
theorem laws_FnExactPlayCalls.mono : ∀ a0 a1 k, LeO (laws_FnExactPlayCalls.f k a0 a1) (laws_FnExactPlayCalls.f (k + 1) a0 a1) := by
 intro a0 a1 k
 obtain ⟨ih0, ih1, ih2⟩ := laws_FnExactPlayCalls.mono_l k
 unfold laws_FnExactPlayCalls.f
 repeat' first
   | (with_reducible exact ih0 _ _ _ _ _ _ _ _ _)
   | (with_reducible exact ih1 _ _ _ _ _ _)
   | (with_reducible exact ih2 _ _ _)
   | (with_reducible exact impl_PlayCalls.mono _ _ _)
   | (with_reducible exact laws_eqCallS.mono _ _ _)
   | (with_reducible exact laws_eqDouble.mono _ _ _)
   | (with_reducible exact laws_eqIntS.mono _ _ _)
   | (with_reducible exact laws_heldIntS.mono _ _ _)
   | (with_reducible exact laws_markCallS.mono _ _ _)
   | (with_reducible exact laws_markDouble.mono _ _ _)
   | (with_reducible exact laws_markIntS.mono _ _ _)
   | (with_reducible exact laws_szCallS.mono _ _ _)
   | (with_reducible exact laws_szDouble.mono _ _ _)
   | (with_reducible exact laws_toCallS.mono _ _)
   | (with_reducible exact laws_toDouble.mono _ _)
   | (with_reducible exact spec_PlayCalls.mono _ _ _)
   | (with_reducible exact LeO.refl _)
   | (with_reducible exact LeO.none _)
   | (with_reducible refine LeO.ite ?_ ?_)
   | (with_reducible refine LeO.bind ?_ (fun _ => ?_))
   | refine LeO.ite ?_ ?_
   | refine LeO.bind ?_ (fun _ => ?_)
set_option maxHeartbeats 8000000 in
set_option maxRecDepth 100000 in
theorem laws_FnExactPlayCalls.calls (k : Nat) (A0_0 : Option Addr) (c0_0 : Nat) (l0_0 : List (S114)) (A1 : Option Addr) (c1 : Nat) (l1 : List (S90)) (r : Bool) (w : World) (hr0_0 : Kd.C k114 w A0_0 l0_0.length l0_0) (hc0_0 : l0_0.length ≤ c0_0) (hr1 : Kd.C k90 w A1 l1.length l1) (hc1 : l1.length ≤ c1) (h : laws_FnExactPlayCalls.f k l0_0 l1 = some r) :
  Calls Try.prog 9 #[.agg #[.slice A0_0 l0_0.length c0_0], .slice A1 l1.length c1] w fun e w' => e = .returned (.bool r) ∧ Below w.heap.size w w' := by
 have hu64 := Try.underlying64; have hu38 := Try.underlying38; have HR0_0 := Aside0.mk hr0_0; have HC0_0 := Aside0.mk hc0_0; clear hr0_0 hc0_0; have HR1 := Aside0.mk hr1; have HC1 := Aside0.mk hc1; clear hr1 hc1; have HB := Aside0.mk (Below.refl w.heap.size w)
 have H : ((laws_szDouble.f k l0_0 1048576).bind fun t242 => (if t242 < 0 then (some true) else ((laws_szCallS.f k l1 t242).bind fun t243 => (if t243 < 0 then (some true) else ((laws_toDouble.f k l0_0).bind fun t244 => ((laws_toCallS.f k l1).bind fun t247 => ((spec_PlayCalls.f k t244 t247).bind fun bt250 => ((laws_toDouble.f k l0_0).bind fun t254 => ((laws_toCallS.f k l1).bind fun t258 => ((impl_PlayCalls.f k t254 t258).bind fun bt261 => ((laws_eqIntS.f k bt261.1 bt250.1).bind fun t265 => (if t265 = true then (laws_FnExactPlayCalls.j0 k l1 bt250.1 bt250.2 t258 bt261.1 bt261.2 (bt261.2 != bt250.2) l0_0 t254) else (laws_FnExactPlayCalls.j0 k l1 bt250.1 bt250.2 t258 bt261.1 bt261.2 true l0_0 t254))))))))))))) = some r := h
 clear h
 replace H := Option.bind_eq_some_iff.mp H
 obtain ⟨t242, A30, H⟩ := H
 replace H : (if t242 < 0 then (some true) else ((laws_szCallS.f k l1 t242).bind fun t243 => (if t243 < 0 then (some true) else ((laws_toDouble.f k l0_0).bind fun t244 => ((laws_toCallS.f k l1).bind fun t247 => ((spec_PlayCalls.f k t244 t247).bind fun bt250 => ((laws_toDouble.f k l0_0).bind fun t254 => ((laws_toCallS.f k l1).bind fun t258 => ((impl_PlayCalls.f k t254 t258).bind fun bt261 => ((laws_eqIntS.f k bt261.1 bt250.1).bind fun t265 => (if t265 = true then (laws_FnExactPlayCalls.j0 k l1 bt250.1 bt250.2 t258 bt261.1 bt261.2 (bt261.2 != bt250.2) l0_0 t254) else (laws_FnExactPlayCalls.j0 k l1 bt250.1 bt250.2 t258 bt261.1 bt261.2 true l0_0 t254)))))))))))) = some r := H
 have A3 := Aside0.mk A30; clear A30
 by_cases c4 : t242 < 0
 ·rw [if_pos c4] at H
  have c4b0 : decide (t242 < 0) = true := decide_eq_true c4
  clear c4
  obtain rfl := Option.some.inj H
  go_enter Try.func9, Try.ntmps9
  go_wp2_with (first | ((with_reducible refine gate_dst (N := 2) rfl ?_); refine box_event ?hg (N := 2) ?hd (cs := #[.slice A0_0 l0_0.length c0_0]) (t := 64) ?hr ?_; (case hd => rfl); (case hg => rfl); (case hr => first | (go_simp; done) | (go_simp; rfl)); intro gb241 hg w5 hbox hb; have BK241 := Aside0.mk (hbox); have GW241 := Aside0.mk ((by rw [hg]; exact (below_size (by repeat first | (with_reducible first | exact HB.out | apply below_alloc | apply pw_below_drewN | apply below_drew1) | exact HB.out)) : w.heap.size ≤ gb241)); have GE241 := Aside0.mk ((by rw [hg]; exact (below_size (by repeat first | (with_reducible first | exact HB.out | apply below_alloc | apply pw_below_drewN | apply below_drew1) | exact HB.out)) : w.heap.size ≤ gb241)); replace HB := Aside0.mk (below_step (by repeat first | (with_reducible first | exact HB.out | apply below_alloc | apply pw_below_drewN | apply below_drew1) | exact HB.out) hb); clear hb hbox hg; have hcz6_0 : w5.cell? ⟨gb241, 0, none⟩ = some (.slice A0_0 l0_0.length c0_0) := (blk_cell BK241.out 0).trans rfl; have hfz6_0 := blk_frozen BK241.out 0) | ((with_reducible refine gate_callee (f := 39) rfl ?_); refine goesL_ (some 19) rfl rfl Try.func39 (by kernel_rfl) rfl #[.agg #[.slice A0_0 l0_0.length c0_0], .int .i64 1048576] rfl (by (try simp only [List.map_toArray, List.map_cons, List.map_nil]); first | done | rfl) ?_; (with_reducible refine (laws_szDouble.calls k _ _ l0_0 1048576 t242 _ ?side1 ?side2 A3.out).mono ?_); (case side1 => repeat (first | exact (Kd.C_below HR0_0.out HB.out) | with_reducible first | apply Kd.C_alloc | apply Kd.C_drewN | apply Kd.C_drew)); (case side2 => exact HC0_0.out); rintro e w7 ⟨rfl, hb⟩; refine ⟨_, rfl, ?_⟩; replace BK241 := Aside0.mk (blk_below (g := gb241) (o := .cells #[.slice A0_0 l0_0.length c0_0] 64 (0, 0)) (by (with_reducible repeat first | apply blk_drewN | apply blk_drew | apply blk_alloc); exact BK241.out) hb); replace HB := Aside0.mk (below_step (by repeat first | (with_reducible first | exact HB.out | apply below_alloc | apply pw_below_drewN | apply below_drew1 | refine below_set ?_ GE241.out) | exact HB.out) hb); (try clear hb)))
  go_ret
  exact ⟨by first | rfl | (simp [errW_none, errW_some] <;> rfl) | (simp [*, errW_none, errW_some] <;> rfl), by repeat (first | (with_reducible first | exact HB.out | apply below_alloc | apply pw_below_drewN | apply below_drew1 | refine below_set ?_ GE241.out) | exact HB.out)⟩
 ·rw [if_neg c4] at H
  have c4b0 : decide (t242 < 0) = false := decide_eq_false c4
  clear c4
  replace H := Option.bind_eq_some_iff.mp H
  obtain ⟨t243, A80, H⟩ := H
  replace H : (if t243 < 0 then (some true) else ((laws_toDouble.f k l0_0).bind fun t244 => ((laws_toCallS.f k l1).bind fun t247 => ((spec_PlayCalls.f k t244 t247).bind fun bt250 => ((laws_toDouble.f k l0_0).bind fun t254 => ((laws_toCallS.f k l1).bind fun t258 => ((impl_PlayCalls.f k t254 t258).bind fun bt261 => ((laws_eqIntS.f k bt261.1 bt250.1).bind fun t265 => (if t265 = true then (laws_FnExactPlayCalls.j0 k l1 bt250.1 bt250.2 t258 bt261.1 bt261.2 (bt261.2 != bt250.2) l0_0 t254) else (laws_FnExactPlayCalls.j0 k l1 bt250.1 bt250.2 t258 bt261.1 bt261.2 true l0_0 t254)))))))))) = some r := H
  have A8 := Aside0.mk A80; clear A80
  by_cases c9 : t243 < 0
  ·rw [if_pos c9] at H
   have c9b0 : decide (t243 < 0) = true := decide_eq_true c9
   clear c9
   obtain rfl := Option.some.inj H
   go_enter Try.func9, Try.ntmps9
   go_wp2_with (first | ((with_reducible refine gate_dst (N := 2) rfl ?_); refine box_event ?hg (N := 2) ?hd (cs := #[.slice A0_0 l0_0.length c0_0]) (t := 64) ?hr ?_; (case hd => rfl); (case hg => rfl); (case hr => first | (go_simp; done) | (go_simp; rfl)); intro gb241 hg w10 hbox hb; have BK241 := Aside0.mk (hbox); have GW241 := Aside0.mk ((by rw [hg]; exact (below_size (by repeat first | (with_reducible first | exact HB.out | apply below_alloc | apply pw_below_drewN | apply below_drew1) | exact HB.out)) : w.heap.size ≤ gb241)); have GE241 := Aside0.mk ((by rw [hg]; exact (below_size (by repeat first | (with_reducible first | exact HB.out | apply below_alloc | apply pw_below_drewN | apply below_drew1) | exact HB.out)) : w.heap.size ≤ gb241)); replace HB := Aside0.mk (below_step (by repeat first | (with_reducible first | exact HB.out | apply below_alloc | apply pw_below_drewN | apply below_drew1) | exact HB.out) hb); clear hb hbox hg; have hcz11_0 : w10.cell? ⟨gb241, 0, none⟩ = some (.slice A0_0 l0_0.length c0_0) := (blk_cell BK241.out 0).trans rfl; have hfz11_0 := blk_frozen BK241.out 0) | ((with_reducible refine gate_callee (f := 39) rfl ?_); refine goesL_ (some 19) rfl rfl Try.func39 (by kernel_rfl) rfl #[.agg #[.slice A0_0 l0_0.length c0_0], .int .i64 1048576] rfl (by (try simp only [List.map_toArray, List.map_cons, List.map_nil]); first | done | rfl) ?_; (with_reducible refine (laws_szDouble.calls k _ _ l0_0 1048576 t242 _ ?side1 ?side2 A3.out).mono ?_); (case side1 => repeat (first | exact (Kd.C_below HR0_0.out HB.out) | with_reducible first | apply Kd.C_alloc | apply Kd.C_drewN | apply Kd.C_drew)); (case side2 => exact HC0_0.out); rintro e w12 ⟨rfl, hb⟩; refine ⟨_, rfl, ?_⟩; replace BK241 := Aside0.mk (blk_below (g := gb241) (o := .cells #[.slice A0_0 l0_0.length c0_0] 64 (0, 0)) (by (with_reducible repeat first | apply blk_drewN | apply blk_drew | apply blk_alloc); exact BK241.out) hb); replace HB := Aside0.mk (below_step (by repeat first | (with_reducible first | exact HB.out | apply below_alloc | apply pw_below_drewN | apply below_drew1 | refine below_set ?_ GE241.out) | exact HB.out) hb); (try clear hb)) | ((with_reducible refine gate_callee (f := 26) rfl ?_); refine goesL_ (some 24) rfl rfl Try.func26 (by kernel_rfl) rfl #[.slice A1 l1.length c1, .int .i64 t242] rfl (by (try simp only [List.map_toArray, List.map_cons, List.map_nil]); first | done | rfl) ?_; (with_reducible refine (laws_szCallS.calls k _ _ l1 t242 t243 _ ?side1 ?side2 A8.out).mono ?_); (case side1 => repeat (first | exact (Kd.C_below HR1.out HB.out) | with_reducible first | apply Kd.C_alloc | apply Kd.C_drewN | apply Kd.C_drew)); (case side2 => exact HC1.out); rintro e w13 ⟨rfl, hb⟩; refine ⟨_, rfl, ?_⟩; replace BK241 := Aside0.mk (blk_below (g := gb241) (o := .cells #[.slice A0_0 l0_0.length c0_0] 64 (0, 0)) (by (with_reducible repeat first | apply blk_drewN | apply blk_drew | apply blk_alloc); exact BK241.out) hb); replace HB := Aside0.mk (below_step (by repeat first | (with_reducible first | exact HB.out | apply below_alloc | apply pw_below_drewN | apply below_drew1 | refine below_set ?_ GE241.out) | exact HB.out) hb); (try clear hb)))
   go_ret
   exact ⟨by first | rfl | (simp [errW_none, errW_some] <;> rfl) | (simp [*, errW_none, errW_some] <;> rfl), by repeat (first | (with_reducible first | exact HB.out | apply below_alloc | apply pw_below_drewN | apply below_drew1 | refine below_set ?_ GE241.out) | exact HB.out)⟩
  ·rw [if_neg c9] at H
   have c9b0 : decide (t243 < 0) = false := decide_eq_false c9
   clear c9
   replace H := Option.bind_eq_some_iff.mp H
   obtain ⟨t244, A140, H⟩ := H
   replace H : ((laws_toCallS.f k l1).bind fun t247 => ((spec_PlayCalls.f k t244 t247).bind fun bt250 => ((laws_toDouble.f k l0_0).bind fun t254 => ((laws_toCallS.f k l1).bind fun t258 => ((impl_PlayCalls.f k t254 t258).bind fun bt261 => ((laws_eqIntS.f k bt261.1 bt250.1).bind fun t265 => (if t265 = true then (laws_FnExactPlayCalls.j0 k l1 bt250.1 bt250.2 t258 bt261.1 bt261.2 (bt261.2 != bt250.2) l0_0 t254) else (laws_FnExactPlayCalls.j0 k l1 bt250.1 bt250.2 t258 bt261.1 bt261.2 true l0_0 t254)))))))) = some r := H
   have A14 := Aside0.mk A140; clear A140
   replace H := Option.bind_eq_some_iff.mp H
   obtain ⟨t247, A150, H⟩ := H
   replace H : ((spec_PlayCalls.f k t244 t247).bind fun bt250 => ((laws_toDouble.f k l0_0).bind fun t254 => ((laws_toCallS.f k l1).bind fun t258 => ((impl_PlayCalls.f k t254 t258).bind fun bt261 => ((laws_eqIntS.f k bt261.1 bt250.1).bind fun t265 => (if t265 = true then (laws_FnExactPlayCalls.j0 k l1 bt250.1 bt250.2 t258 bt261.1 bt261.2 (bt261.2 != bt250.2) l0_0 t254) else (laws_FnExactPlayCalls.j0 k l1 bt250.1 bt250.2 t258 bt261.1 bt261.2 true l0_0 t254))))))) = some r := H
   have A15 := Aside0.mk A150; clear A150
   replace H := Option.bind_eq_some_iff.mp H
   obtain ⟨⟨t250, t253⟩, A160, H⟩ := H
   replace H : ((laws_toDouble.f k l0_0).bind fun t254 => ((laws_toCallS.f k l1).bind fun t258 => ((impl_PlayCalls.f k t254 t258).bind fun bt261 => ((laws_eqIntS.f k bt261.1 t250).bind fun t265 => (if t265 = true then (laws_FnExactPlayCalls.j0 k l1 t250 t253 t258 bt261.1 bt261.2 (bt261.2 != t253) l0_0 t254) else (laws_FnExactPlayCalls.j0 k l1 t250 t253 t258 bt261.1 bt261.2 true l0_0 t254)))))) = some r := H
   have A16 := Aside0.mk A160; clear A160
   replace H := Option.bind_eq_some_iff.mp H
   obtain ⟨t254, A170, H⟩ := H
   replace H : ((laws_toCallS.f k l1).bind fun t258 => ((impl_PlayCalls.f k t254 t258).bind fun bt261 => ((laws_eqIntS.f k bt261.1 t250).bind fun t265 => (if t265 = true then (laws_FnExactPlayCalls.j0 k l1 t250 t253 t258 bt261.1 bt261.2 (bt261.2 != t253) l0_0 t254) else (laws_FnExactPlayCalls.j0 k l1 t250 t253 t258 bt261.1 bt261.2 true l0_0 t254))))) = some r := H
   have A17 := Aside0.mk A170; clear A170
   replace H := Option.bind_eq_some_iff.mp H
   obtain ⟨t258, A180, H⟩ := H
   replace H : ((impl_PlayCalls.f k t254 t258).bind fun bt261 => ((laws_eqIntS.f k bt261.1 t250).bind fun t265 => (if t265 = true then (laws_FnExactPlayCalls.j0 k l1 t250 t253 t258 bt261.1 bt261.2 (bt261.2 != t253) l0_0 t254) else (laws_FnExactPlayCalls.j0 k l1 t250 t253 t258 bt261.1 bt261.2 true l0_0 t254)))) = some r := H
   have A18 := Aside0.mk A180; clear A180
   replace H := Option.bind_eq_some_iff.mp H
   obtain ⟨⟨t261, t264⟩, A190, H⟩ := H
   replace H : ((laws_eqIntS.f k t261 t250).bind fun t265 => (if t265 = true then (laws_FnExactPlayCalls.j0 k l1 t250 t253 t258 t261 t264 (t264 != t253) l0_0 t254) else (laws_FnExactPlayCalls.j0 k l1 t250 t253 t258 t261 t264 true l0_0 t254))) = some r := H
   have A19 := Aside0.mk A190; clear A190; have HC20 := Aside0.mk H; clear H
   go_enter Try.func9, Try.ntmps9
   go_upto_region 12 with (first | ((with_reducible refine gate_dst (N := 2) rfl ?_); refine box_event ?hg (N := 2) ?hd (cs := #[.slice A0_0 l0_0.length c0_0]) (t := 64) ?hr ?_; (case hd => rfl); (case hg => rfl); (case hr => first | (go_simp; done) | (go_simp; rfl)); intro gb241 hg w21 hbox hb; have BK241 := Aside0.mk (hbox); have GW241 := Aside0.mk ((by rw [hg]; exact (below_size (by repeat first | (with_reducible first | exact HB.out | apply below_alloc | apply pw_below_drewN | apply below_drew1) | exact HB.out)) : w.heap.size ≤ gb241)); have GE241 := Aside0.mk ((by rw [hg]; exact (below_size (by repeat first | (with_reducible first | exact HB.out | apply below_alloc | apply pw_below_drewN | apply below_drew1) | exact HB.out)) : w.heap.size ≤ gb241)); replace HB := Aside0.mk (below_step (by repeat first | (with_reducible first | exact HB.out | apply below_alloc | apply pw_below_drewN | apply below_drew1) | exact HB.out) hb); clear hb hbox hg; have hcz22_0 : w21.cell? ⟨gb241, 0, none⟩ = some (.slice A0_0 l0_0.length c0_0) := (blk_cell BK241.out 0).trans rfl; have hfz22_0 := blk_frozen BK241.out 0) | ((with_reducible refine gate_callee (f := 39) rfl ?_); refine goesL_ (some 19) rfl rfl Try.func39 (by kernel_rfl) rfl #[.agg #[.slice A0_0 l0_0.length c0_0], .int .i64 1048576] rfl (by (try simp only [List.map_toArray, List.map_cons, List.map_nil]); first | done | rfl) ?_; (with_reducible refine (laws_szDouble.calls k _ _ l0_0 1048576 t242 _ ?side1 ?side2 A3.out).mono ?_); (case side1 => repeat (first | exact (Kd.C_below HR0_0.out HB.out) | with_reducible first | apply Kd.C_alloc | apply Kd.C_drewN | apply Kd.C_drew)); (case side2 => exact HC0_0.out); rintro e w23 ⟨rfl, hb⟩; refine ⟨_, rfl, ?_⟩; replace BK241 := Aside0.mk (blk_below (g := gb241) (o := .cells #[.slice A0_0 l0_0.length c0_0] 64 (0, 0)) (by (with_reducible repeat first | apply blk_drewN | apply blk_drew | apply blk_alloc); exact BK241.out) hb); replace HB := Aside0.mk (below_step (by repeat first | (with_reducible first | exact HB.out | apply below_alloc | apply pw_below_drewN | apply below_drew1 | refine below_set ?_ GE241.out) | exact HB.out) hb); (try clear hb)) | ((with_reducible refine gate_callee (f := 26) rfl ?_); refine goesL_ (some 24) rfl rfl Try.func26 (by kernel_rfl) rfl #[.slice A1 l1.length c1, .int .i64 t242] rfl (by (try simp only [List.map_toArray, List.map_cons, List.map_nil]); first | done | rfl) ?_; (with_reducible refine (laws_szCallS.calls k _ _ l1 t242 t243 _ ?side1 ?side2 A8.out).mono ?_); (case side1 => repeat (first | exact (Kd.C_below HR1.out HB.out) | with_reducible first | apply Kd.C_alloc | apply Kd.C_drewN | apply Kd.C_drew)); (case side2 => exact HC1.out); rintro e w24 ⟨rfl, hb⟩; refine ⟨_, rfl, ?_⟩; replace BK241 := Aside0.mk (blk_below (g := gb241) (o := .cells #[.slice A0_0 l0_0.length c0_0] 64 (0, 0)) (by (with_reducible repeat first | apply blk_drewN | apply blk_drew | apply blk_alloc); exact BK241.out) hb); replace HB := Aside0.mk (below_step (by repeat first | (with_reducible first | exact HB.out | apply below_alloc | apply pw_below_drewN | apply below_drew1 | refine below_set ?_ GE241.out) | exact HB.out) hb); (try clear hb); have hcz25_0 : w24.cell? ⟨gb241, 0, none⟩ = some (.slice A0_0 l0_0.length c0_0) := (blk_cell BK241.out 0).trans rfl; have hfz25_0 := blk_frozen BK241.out 0) | ((with_reducible refine gate_callee (f := 40) rfl ?_); refine goesL_ (some 29) rfl rfl Try.func40 (by kernel_rfl) rfl #[.agg #[.slice A0_0 l0_0.length c0_0]] rfl (by (try simp only [List.map_toArray, List.map_cons, List.map_nil]); first | done | rfl) ?_; (with_reducible refine (laws_toDouble.calls k _ _ l0_0 t244 _ ?side1 ?side2 A14.out).mono ?_); (case side1 => repeat (first | exact (Kd.C_below HR0_0.out HB.out) | with_reducible first | apply Kd.C_alloc | apply Kd.C_drewN | apply Kd.C_drew)); (case side2 => exact HC0_0.out); rintro e w26 ⟨v245, rfl, ho0, hb⟩; refine ⟨_, rfl, ?_⟩; have HO246 := Aside0.mk (Kd.S_lower ho0 (below_size (by repeat first | (with_reducible first | exact HB.out | apply below_alloc | apply pw_below_drewN | apply below_drew1 | refine below_set ?_ GE241.out) | exact HB.out))); replace BK241 := Aside0.mk (blk_below (g := gb241) (o := .cells #[.slice A0_0 l0_0.length c0_0] 64 (0, 0)) (by (with_reducible repeat first | apply blk_drewN | apply blk_drew | apply blk_alloc); exact BK241.out) hb); replace HB := Aside0.mk (below_step (by repeat first | (with_reducible first | exact HB.out | apply below_alloc | apply pw_below_drewN | apply below_drew1 | refine below_set ?_ GE241.out) | exact HB.out) hb); (try clear hb); (try clear ho0)) | ((with_reducible refine gate_callee (f := 27) rfl ?_); refine goesL_ (some 31) rfl rfl Try.func27 (by kernel_rfl) rfl #[.slice A1 l1.length c1] rfl (by (try simp only [List.map_toArray, List.map_cons, List.map_nil]); first | done | rfl) ?_; (with_reducible refine (laws_toCallS.calls k _ _ l1 t247 _ ?side1 ?side2 A15.out).mono ?_); (case side1 => repeat (first | exact (Kd.C_below HR1.out HB.out) | with_reducible first | apply Kd.C_alloc | apply Kd.C_drewN | apply Kd.C_drew)); (case side2 => exact HC1.out); rintro e w27 ⟨v248, rfl, ho0, hb⟩; refine ⟨_, rfl, ?_⟩; replace HO246 := Aside0.mk (Kd.S_below (by (with_reducible repeat first | apply Kd.S_alloc | apply Kd.S_drewN | apply Kd.S_drew); exact HO246.out) hb); have HO249 := Aside0.mk (Kd.S_lower ho0 (below_size (by repeat first | (with_reducible first | exact HB.out | apply below_alloc | apply pw_below_drewN | apply below_drew1 | refine below_set ?_ GE241.out) | exact HB.out))); replace BK241 := Aside0.mk (blk_below (g := gb241) (o := .cells #[.slice A0_0 l0_0.length c0_0] 64 (0, 0)) (by (with_reducible repeat first | apply blk_drewN | apply blk_drew | apply blk_alloc); exact BK241.out) hb); replace HB := Aside0.mk (below_step (by repeat first | (with_reducible first | exact HB.out | apply below_alloc | apply pw_below_drewN | apply below_drew1 | refine below_set ?_ GE241.out) | exact HB.out) hb); (try clear hb); (try clear ho0); obtain ⟨Ao28, co28, eo28⟩ := Kd.S_slice HO246.out; subst eo28; obtain ⟨Ao29, co29, eo29⟩ := Kd.S_slice HO249.out; subst eo29) | ((with_reducible refine gate_callee (f := 20) rfl ?_); refine goesL_ (some 32) rfl rfl Try.func20 (by kernel_rfl) rfl #[.agg #[.slice Ao28 t244.length co28], .slice Ao29 t247.length co29] rfl (by (try simp only [List.map_toArray, List.map_cons, List.map_nil]); first | done | rfl) ?_; (with_reducible refine (spec_PlayCalls.calls k _ _ t244 _ _ t247 t250 t253 _ ?side1 ?side2 ?side3 ?side4 A16.out).mono ?_); (case side1 => repeat (first | exact (Kd.S_reads' HO246.out).2.2 | with_reducible first | apply Kd.C_alloc | apply Kd.C_drewN | apply Kd.C_drew)); (case side2 => exact (Kd.S_reads' HO246.out).2.1); (case side3 => repeat (first | exact (Kd.S_reads' HO249.out).2.2 | with_reducible first | apply Kd.C_alloc | apply Kd.C_drewN | apply Kd.C_drew)); (case side4 => exact (Kd.S_reads' HO249.out).2.1); rintro e w30 ⟨v251, rfl, ho0, hb⟩; refine ⟨_, rfl, ?_⟩; replace HO246 := Aside0.mk (Kd.S_elder' (by (with_reducible repeat first | apply Kd.S_alloc | apply Kd.S_drewN | apply Kd.S_drew); exact HO246.out) (Kd.R_base ho0) hb); replace HO249 := Aside0.mk (Kd.S_elder' (by (with_reducible repeat first | apply Kd.S_alloc | apply Kd.S_drewN | apply Kd.S_drew); exact HO249.out) (Kd.R_base ho0) hb); have HO252 := Aside0.mk (Kd.R_lower ho0 (below_size (by repeat first | (with_reducible first | exact HB.out | apply below_alloc | apply pw_below_drewN | apply below_drew1 | refine below_set ?_ GE241.out) | exact HB.out))); replace BK241 := Aside0.mk (blk_below (g := gb241) (o := .cells #[.slice A0_0 l0_0.length c0_0] 64 (0, 0)) (by (with_reducible repeat first | apply blk_drewN | apply blk_drew | apply blk_alloc); exact BK241.out) hb); replace HB := Aside0.mk (below_step (by repeat first | (with_reducible first | exact HB.out | apply below_alloc | apply pw_below_drewN | apply below_drew1 | refine below_set ?_ GE241.out) | exact HB.out) hb); (try clear hb); (try clear ho0); have hcz31_0 : w30.cell? ⟨gb241, 0, none⟩ = some (.slice A0_0 l0_0.length c0_0) := (blk_cell BK241.out 0).trans rfl; have hfz31_0 := blk_frozen BK241.out 0) | ((with_reducible refine gate_callee (f := 40) rfl ?_); refine goesL_ (some 36) rfl rfl Try.func40 (by kernel_rfl) rfl #[.agg #[.slice A0_0 l0_0.length c0_0]] rfl (by (try simp only [List.map_toArray, List.map_cons, List.map_nil]); first | done | rfl) ?_; (with_reducible refine (laws_toDouble.calls k _ _ l0_0 t254 _ ?side1 ?side2 A17.out).mono ?_); (case side1 => repeat (first | exact (Kd.C_below HR0_0.out HB.out) | with_reducible first | apply Kd.C_alloc | apply Kd.C_drewN | apply Kd.C_drew)); (case side2 => exact HC0_0.out); rintro e w32 ⟨v255, rfl, ho0, hb⟩; refine ⟨_, rfl, ?_⟩; obtain ⟨mX0_, hmX0_, hWX0_, hN_, hX0_, hb0_gb241⟩ : ∃ m_, w.heap.size ≤ m_ ∧ (∀ k_, (v251 : Value).ownBlock = some k_ → k_ < m_) ∧ m_ ≤ w32.heap.size ∧ Kd.S k44 44 w32 m_ (fun _ => True) v255 t254 ∧ gb241 < m_ := ⟨_, below_size (by repeat first | (with_reducible first | exact HB.out | apply below_alloc | apply pw_below_drewN | apply below_drew1 | refine below_set ?_ GE241.out) | exact HB.out), fun k_ hk_ => Kd.R_lt (by (with_reducible repeat first | apply Kd.R_alloc | apply Kd.R_drewN | apply Kd.R_drew); first | exact HO252.out | exact (Kd.R_mono (Kd.R_far (p := ⟨gb241, 0, none⟩) (Kd.R_types HO252.out BK241.out (by decide)) (fun _ hk => hk.2) _) (fun _ h_ => h_.1))) k_ hk_, hb.size, Kd.S_mono ho0 (fun _ _ => trivial), (by have q_ := blk_lt BK241.out; simpa using q_)⟩; have HX0 := Aside0.mk hX0_; clear hX0_; (try clear HN); have HN := Aside0.mk hN_; clear hN_; replace HO249 := Aside0.mk (Kd.S_below (by (with_reducible repeat first | apply Kd.S_alloc | apply Kd.S_drewN | apply Kd.S_drew); exact HO249.out) hb); have HO256 := Aside0.mk (Kd.S_lower (Kd.S_new' (Kd.S_new' ho0 (Kd.S_lt (by (with_reducible repeat first | apply Kd.S_alloc | apply Kd.S_drewN | apply Kd.S_drew); exact HO246.out))) (Kd.R_lt (by (with_reducible repeat first | apply Kd.R_alloc | apply Kd.R_drewN | apply Kd.R_drew); exact HO252.out))) (below_size (by repeat first | (with_reducible first | exact HB.out | apply below_alloc | apply pw_below_drewN | apply below_drew1 | refine below_set ?_ GE241.out) | exact HB.out))); replace HO246 := Aside0.mk (Kd.S_elder' (by (with_reducible repeat first | apply Kd.S_alloc | apply Kd.S_drewN | apply Kd.S_drew); exact HO246.out) (Kd.S_base ho0) hb); replace HO252 := Aside0.mk (Kd.R_below (by (with_reducible repeat first | apply Kd.R_alloc | apply Kd.R_drewN | apply Kd.R_drew); exact HO252.out) hb); replace BK241 := Aside0.mk (blk_below (g := gb241) (o := .cells #[.slice A0_0 l0_0.length c0_0] 64 (0, 0)) (by (with_reducible repeat first | apply blk_drewN | apply blk_drew | apply blk_alloc); exact BK241.out) hb); replace HB := Aside0.mk (below_step (by repeat first | (with_reducible first | exact HB.out | apply below_alloc | apply pw_below_drewN | apply below_drew1 | refine below_set ?_ GE241.out) | exact HB.out) hb); (try clear hb); (try clear ho0)) | ((with_reducible refine gate_dst (N := 8) rfl ?_); refine box_event ?hg (N := 8) ?hd (cs := #[.slice none 0 0]) (t := 38) ?hr ?_; (case hd => rfl); (case hg => rfl); (case hr => first | (go_simp; done) | (go_simp; rfl)); intro gb257 hg w33 hbox hb; have nX_ := Aside0.mk (Kd.S_mono (ok' := fun k_ => mX0_ ≤ k_ ∧ k_ < gb257) (Kd.S_below (Kd.S_bound (by (with_reducible repeat first | apply Kd.S_alloc | apply Kd.S_drewN | apply Kd.S_drew); first | exact HX0.out | exact Kd.S_far (p := ⟨gb241, 0, none⟩) HX0.out (fun k_ hk_ => by have h1_ := hk_.1; have h2_ := hk_.2; show k_ ≠ gb241; omega) _ | exact Kd.S_far (p := ⟨gb257, 0, none⟩) HX0.out (fun k_ hk_ => by have h1_ := hk_.1; have h2_ := hk_.2; show k_ ≠ gb257; omega) _)) hb) (fun k_ hk_ => ⟨hk_.2.1, by rw [hg]; exact hk_.2.2.1⟩)); clear HX0; have HX0 := nX_; clear nX_; replace HO246 := Aside0.mk (Kd.S_below (by (with_reducible repeat first | apply Kd.S_alloc | apply Kd.S_drewN | apply Kd.S_drew); exact HO246.out) hb); replace HO249 := Aside0.mk (Kd.S_below (by (with_reducible repeat first | apply Kd.S_alloc | apply Kd.S_drewN | apply Kd.S_drew); exact HO249.out) hb); replace HO252 := Aside0.mk (Kd.R_below (by (with_reducible repeat first | apply Kd.R_alloc | apply Kd.R_drewN | apply Kd.R_drew); exact HO252.out) hb); replace HO256 := Aside0.mk (Kd.S_below (by (with_reducible repeat first | apply Kd.S_alloc | apply Kd.S_drewN | apply Kd.S_drew); exact HO256.out) hb); have BK257 := Aside0.mk (hbox); have GW257 := Aside0.mk ((by rw [hg]; exact (below_size (by repeat first | (with_reducible first | exact HB.out | apply below_alloc | apply pw_below_drewN | apply below_drew1 | refine below_set ?_ GE241.out) | exact HB.out)) : w.heap.size ≤ gb257)); have GE257 := Aside0.mk ((by rw [hg]; exact (below_size (by repeat first | (with_reducible first | exact HB.out | apply below_alloc | apply pw_below_drewN | apply below_drew1 | refine below_set ?_ GE241.out) | exact HB.out)) : w.heap.size ≤ gb257)); replace HB := Aside0.mk (below_step (by repeat first | (with_reducible first | exact HB.out | apply below_alloc | apply pw_below_drewN | apply below_drew1 | refine below_set ?_ GE241.out) | exact HB.out) hb); have NB241_257 := Aside0.mk ((by rw [hg]; exact Nat.ne_of_lt (blk_lt (g := gb241) (o := .cells #[.slice A0_0 l0_0.length c0_0] 64 (0, 0)) (by (with_reducible repeat first | apply blk_drewN | apply blk_drew | apply blk_alloc); exact BK241.out)) : gb241 ≠ gb257)); have NB257_241 := Aside0.mk ((by rw [hg]; exact Nat.ne_of_gt (blk_lt (g := gb241) (o := .cells #[.slice A0_0 l0_0.length c0_0] 64 (0, 0)) (by (with_reducible repeat first | apply blk_drewN | apply blk_drew | apply blk_alloc); exact BK241.out)) : gb257 ≠ gb241)); replace BK241 := Aside0.mk (blk_below (g := gb241) (o := .cells #[.slice A0_0 l0_0.length c0_0] 64 (0, 0)) (by (with_reducible repeat first | apply blk_drewN | apply blk_drew | apply blk_alloc); exact BK241.out) hb); clear hb hbox hg; obtain ⟨Ao34, co34, eo34⟩ := Kd.S_slice HO256.out; subst eo34; have hnb35 := NB257_241.out; have hnc35 := NB241_257.out; have hcz36_0 : w33.cell? ⟨gb257, 0, none⟩ = some (.slice none 0 0) := (blk_cell BK257.out 0).trans rfl; have hfz36_0 := blk_frozen BK257.out 0) | ((with_reducible refine gate_callee (f := 27) rfl ?_); refine goesL_ (some 38) rfl rfl Try.func27 (by kernel_rfl) rfl #[.slice A1 l1.length c1] rfl (by (try simp only [List.map_toArray, List.map_cons, List.map_nil]); first | done | rfl) ?_; (with_reducible refine (laws_toCallS.calls k _ _ l1 t258 _ ?side1 ?side2 A18.out).mono ?_); (case side1 => exact Kd.C_below HR1.out (by repeat first | (with_reducible first | exact HB.out | apply below_alloc | apply pw_below_drewN | apply below_drew1 | refine below_set ?_ GE241.out | refine below_set ?_ GE257.out) | exact HB.out)); (case side2 => exact HC1.out); rintro e w37 ⟨v259, rfl, ho0, hb⟩; refine ⟨_, rfl, ?_⟩; have nX_ := Aside0.mk (Kd.S_below (by (with_reducible repeat first | apply Kd.S_alloc | apply Kd.S_drewN | apply Kd.S_drew); first | exact HX0.out | exact Kd.S_far (p := ⟨gb241, 0, none⟩) HX0.out (fun k_ hk_ => by have h1_ := hk_.1; have h2_ := hk_.2; show k_ ≠ gb241; omega) _ | exact Kd.S_far (p := ⟨gb257, 0, none⟩) HX0.out (fun k_ hk_ => by have h1_ := hk_.1; have h2_ := hk_.2; show k_ ≠ gb257; omega) _) hb); clear HX0; have HX0 := nX_; clear nX_; obtain ⟨mX1_, hmX1_, hWX1_, hN_, hX1_, hb1_gb241, hb1_gb257⟩ : ∃ m_, w.heap.size ≤ m_ ∧ (∀ k_, (v251 : Value).ownBlock = some k_ → k_ < m_) ∧ m_ ≤ w37.heap.size ∧ Kd.S k33 33 w37 m_ (fun _ => True) v259 t258 ∧ gb241 < m_ ∧ gb257 < m_ := ⟨_, below_size (by repeat first | (with_reducible first | exact HB.out | apply below_alloc | apply pw_below_drewN | apply below_drew1 | refine below_set ?_ GE241.out | refine below_set ?_ GE257.out) | exact HB.out), fun k_ hk_ => Kd.R_lt (by (with_reducible repeat first | apply Kd.R_alloc | apply Kd.R_drewN | apply Kd.R_drew); first | exact HO252.out | exact (Kd.R_mono (Kd.R_far (p := ⟨gb241, 0, none⟩) (Kd.R_types HO252.out BK241.out (by decide)) (fun _ hk => hk.2) _) (fun _ h_ => h_.1)) | exact (Kd.R_mono (Kd.R_far (p := ⟨gb257, 0, none⟩) (Kd.R_types HO252.out BK257.out (by decide)) (fun _ hk => hk.2) _) (fun _ h_ => h_.1))) k_ hk_, hb.size, Kd.S_mono ho0 (fun _ _ => trivial), (by have q_ := blk_lt BK241.out; simpa using q_), (by have q_ := blk_lt BK257.out; simpa using q_)⟩; have HX1 := Aside0.mk hX1_; clear hX1_; (try clear HN); have HN := Aside0.mk hN_; clear hN_; replace HO246 := Aside0.mk (Kd.S_below (by (with_reducible repeat first | apply Kd.S_alloc | apply Kd.S_drewN | apply Kd.S_drew); exact (Kd.S_mono (Kd.S_far (p := ⟨gb257, 0, none⟩) (Kd.S_types HO246.out BK257.out (by decide)) (fun _ hk => hk.2) (.slice Ao34 t254.length co34)) (fun _ h_ => h_.1))) hb); replace HO256 := Aside0.mk (Kd.S_below (by (with_reducible repeat first | apply Kd.S_alloc | apply Kd.S_drewN | apply Kd.S_drew); exact (Kd.S_mono (Kd.S_far (p := ⟨gb257, 0, none⟩) (Kd.S_types HO256.out BK257.out (by decide)) (fun _ hk => hk.2) (.slice Ao34 t254.length co34)) (fun _ h_ => h_.1))) hb); have HO260 := Aside0.mk (Kd.S_lower (Kd.S_new' (Kd.S_new' ho0 (Kd.S_lt (by (with_reducible repeat first | apply Kd.S_alloc | apply Kd.S_drewN | apply Kd.S_drew); exact (Kd.S_mono (Kd.S_far (p := ⟨gb257, 0, none⟩) (Kd.S_types HO249.out BK257.out (by decide)) (fun _ hk => hk.2) (.slice Ao34 t254.length co34)) (fun _ h_ => h_.1))))) (Kd.R_lt (by (with_reducible repeat first | apply Kd.R_alloc | apply Kd.R_drewN | apply Kd.R_drew); exact (Kd.R_mono (Kd.R_far (p := ⟨gb257, 0, none⟩) (Kd.R_types HO252.out BK257.out (by decide)) (fun _ hk => hk.2) (.slice Ao34 t254.length co34)) (fun _ h_ => h_.1))))) (below_size (by repeat first | (with_reducible first | exact HB.out | apply below_alloc | apply pw_below_drewN | apply below_drew1 | refine below_set ?_ GE241.out | refine below_set ?_ GE257.out) | exact HB.out))); replace HO249 := Aside0.mk (Kd.S_elder' (by (with_reducible repeat first | apply Kd.S_alloc | apply Kd.S_drewN | apply Kd.S_drew); exact (Kd.S_mono (Kd.S_far (p := ⟨gb257, 0, none⟩) (Kd.S_types HO249.out BK257.out (by decide)) (fun _ hk => hk.2) (.slice Ao34 t254.length co34)) (fun _ h_ => h_.1))) (Kd.S_base ho0) hb); replace HO252 := Aside0.mk (Kd.R_below (by (with_reducible repeat first | apply Kd.R_alloc | apply Kd.R_drewN | apply Kd.R_drew); exact (Kd.R_mono (Kd.R_far (p := ⟨gb257, 0, none⟩) (Kd.R_types HO252.out BK257.out (by decide)) (fun _ hk => hk.2) (.slice Ao34 t254.length co34)) (fun _ h_ => h_.1))) hb); replace BK241 := Aside0.mk (blk_below (g := gb241) (o := .cells #[.slice A0_0 l0_0.length c0_0] 64 (0, 0)) (by (with_reducible repeat first | apply blk_drewN | apply blk_drew | apply blk_alloc); refine blk_far ?_ NB241_257.out _; (with_reducible repeat first | apply blk_drewN | apply blk_drew | apply blk_alloc); exact BK241.out) hb); replace BK257 := Aside0.mk (blk_below (g := gb257) (o := .cells #[.slice Ao34 t254.length co34] 38 (0, 0)) (by (with_reducible repeat first | apply blk_drewN | apply blk_drew | apply blk_alloc); refine blk_put (cs := #[.slice none 0 0]) ?_ 0 _ rfl; (with_reducible repeat first | apply blk_drewN | apply blk_drew | apply blk_alloc); exact BK257.out) hb); replace HB := Aside0.mk (below_step (by repeat first | (with_reducible first | exact HB.out | apply below_alloc | apply pw_below_drewN | apply below_drew1 | refine below_set ?_ GE241.out | refine below_set ?_ GE257.out) | exact HB.out) hb); (try clear hb); (try clear ho0); have hcz38_0 : w37.cell? ⟨gb257, 0, none⟩ = some (.slice Ao34 t254.length co34) := (blk_cell BK257.out 0).trans rfl; have hfz38_0 := blk_frozen BK257.out 0; obtain ⟨Ao39, co39, eo39⟩ := Kd.S_slice HO260.out; subst eo39) | ((with_reducible refine gate_callee (f := 19) rfl ?_); refine goesL_ (some 42) rfl rfl Try.func19 (by kernel_rfl) rfl #[.agg #[.slice Ao34 t254.length co34], .slice Ao39 t258.length co39] rfl (by (try simp only [List.map_toArray, List.map_cons, List.map_nil]); first | done | rfl) ?_; (with_reducible refine (impl_PlayCalls.calls k _ _ t254 _ _ t258 t261 t264 _ ?side1 ?side2 ?side3 ?side4 A19.out).mono ?_); (case side1 => repeat (first | exact (Kd.S_reads' HO256.out).2.2 | with_reducible first | apply Kd.C_alloc | apply Kd.C_drewN | apply Kd.C_drew)); (case side2 => exact (Kd.S_reads' HO256.out).2.1); (case side3 => repeat (first | exact (Kd.S_reads' HO260.out).2.2 | with_reducible first | apply Kd.C_alloc | apply Kd.C_drewN | apply Kd.C_drew)); (case side4 => exact (Kd.S_reads' HO260.out).2.1); rintro e w40 ⟨v262, rfl, ho0, hb⟩; refine ⟨_, rfl, ?_⟩; obtain ⟨nG_, hG_, hN2_, hX1_⟩ : ∃ n_, (∀ k_, (v262 : Value).ownBlock = some k_ → n_ ≤ k_) ∧ mX1_ ≤ n_ ∧ Kd.S k33 33 w40 mX1_ (fun k_ => mX1_ ≤ k_ ∧ k_ < n_) (.slice Ao39 t258.length co39) t258 := ⟨_, fun k_ hk_ => Kd.R_base ho0 k_ hk_, HN.out, Kd.S_mono (Kd.S_below (Kd.S_bound (by (with_reducible repeat first | apply Kd.S_alloc | apply Kd.S_drewN | apply Kd.S_drew); first | exact HX1.out | exact Kd.S_far (p := ⟨gb241, 0, none⟩) HX1.out (fun k_ hk_ => by have h1_ := hk_.1; have h2_ := hk_.2; show k_ ≠ gb241; omega) _ | exact Kd.S_far (p := ⟨gb257, 0, none⟩) HX1.out (fun k_ hk_ => by have h1_ := hk_.1; have h2_ := hk_.2; show k_ ≠ gb257; omega) _)) hb) (fun k_ hk_ => ⟨hk_.2.1, hk_.2.2.1⟩)⟩; clear HX1 HN; have HX1 := Aside0.mk hX1_; clear hX1_; have nX_ := Aside0.mk (Kd.S_below (by (with_reducible repeat first | apply Kd.S_alloc | apply Kd.S_drewN | apply Kd.S_drew); first | exact HX0.out | exact Kd.S_far (p := ⟨gb241, 0, none⟩) HX0.out (fun k_ hk_ => by have h1_ := hk_.1; have h2_ := hk_.2; show k_ ≠ gb241; omega) _ | exact Kd.S_far (p := ⟨gb257, 0, none⟩) HX0.out (fun k_ hk_ => by have h1_ := hk_.1; have h2_ := hk_.2; show k_ ≠ gb257; omega) _) hb); clear HX0; have HX0 := nX_; clear nX_; replace HO246 := Aside0.mk (Kd.S_elder' (by (with_reducible repeat first | apply Kd.S_alloc | apply Kd.S_drewN | apply Kd.S_drew); exact HO246.out) (Kd.R_base ho0) hb); replace HO249 := Aside0.mk (Kd.S_elder' (by (with_reducible repeat first | apply Kd.S_alloc | apply Kd.S_drewN | apply Kd.S_drew); exact HO249.out) (Kd.R_base ho0) hb); replace HO256 := Aside0.mk (Kd.S_elder' (by (with_reducible repeat first | apply Kd.S_alloc | apply Kd.S_drewN | apply Kd.S_drew); exact HO256.out) (Kd.R_base ho0) hb); replace HO260 := Aside0.mk (Kd.S_elder' (by (with_reducible repeat first | apply Kd.S_alloc | apply Kd.S_drewN | apply Kd.S_drew); exact HO260.out) (Kd.R_base ho0) hb); have HO263 := Aside0.mk (Kd.R_lower (Kd.R_new' ho0 (Kd.R_lt (by (with_reducible repeat first | apply Kd.R_alloc | apply Kd.R_drewN | apply Kd.R_drew); exact HO252.out))) (below_size (by repeat first | (with_reducible first | exact HB.out | apply below_alloc | apply pw_below_drewN | apply below_drew1 | refine below_set ?_ GE241.out | refine below_set ?_ GE257.out) | exact HB.out))); replace HO252 := Aside0.mk (Kd.R_elder' (by (with_reducible repeat first | apply Kd.R_alloc | apply Kd.R_drewN | apply Kd.R_drew); exact HO252.out) (Kd.R_base ho0) hb); replace BK241 := Aside0.mk (blk_below (g := gb241) (o := .cells #[.slice A0_0 l0_0.length c0_0] 64 (0, 0)) (by (with_reducible repeat first | apply blk_drewN | apply blk_drew | apply blk_alloc); exact BK241.out) hb); replace BK257 := Aside0.mk (blk_below (g := gb257) (o := .cells #[.slice Ao34 t254.length co34] 38 (0, 0)) (by (with_reducible repeat first | apply blk_drewN | apply blk_drew | apply blk_alloc); exact BK257.out) hb); replace HB := Aside0.mk (below_step (by repeat first | (with_reducible first | exact HB.out | apply below_alloc | apply pw_below_drewN | apply below_drew1 | refine below_set ?_ GE241.out | refine below_set ?_ GE257.out) | exact HB.out) hb); (try clear hb); (try clear ho0)))
   (try simp only [Act.put, List.setIfInBounds_toArray, List.set_cons_zero, List.set_cons_succ])
   go_cut [53] (fun v53 wc => ∃ (kq : Nat) (x53_19 : Bool), v53 = .bool x53_19 ∧ Aside0 (laws_FnExactPlayCalls.j0 kq l1 t250 t253 t258 t261 t264 x53_19 l0_0 t254 = some r) ∧ Aside0 (kq ≤ k) ∧ Aside0 (Kd.R (Kd.int .i64) 3 wc w.heap.size (fun k_ => some k_ ≠ (v262 : Value).ownBlock) v251 t250) ∧ Aside0 (Kd.S k33 33 wc w.heap.size (fun k_ => some k_ ≠ (v251 : Value).ownBlock ∧ some k_ ≠ (v262 : Value).ownBlock) (.slice Ao39 t258.length co39) t258) ∧ Aside0 (Kd.R (Kd.int .i64) 3 wc w.heap.size (fun k_ => some k_ ≠ (v251 : Value).ownBlock) v262 t261) ∧ Aside0 (Kd.S k44 44 wc w.heap.size (fun k_ => some k_ ≠ (v251 : Value).ownBlock ∧ some k_ ≠ (v262 : Value).ownBlock) (.slice Ao34 t254.length co34) t254) ∧ Aside0 (wc.heap[gb241]? = some (.cells #[(.slice A0_0 l0_0.length c0_0)] 64 (0, 0))) ∧ Aside0 (wc.heap[gb257]? = some (.cells #[(.slice Ao34 t254.length co34)] 38 (0, 0))) ∧ Aside0 (Below w.heap.size w wc) ∧ Aside0 (Kd.S k44 44 wc mX0_ (fun k_ => mX0_ ≤ k_ ∧ k_ < gb257) (.slice Ao34 t254.length co34) t254) ∧ Aside0 (Kd.S k33 33 wc mX1_ (fun k_ => mX1_ ≤ k_ ∧ k_ < nG_) (.slice Ao39 t258.length co39) t258))
   case first =>
    have H := HC20.out; clear HC20
    replace H := Option.bind_eq_some_iff.mp H
    obtain ⟨t265, A410, H⟩ := H
    replace H : (if t265 = true then (laws_FnExactPlayCalls.j0 k l1 t250 t253 t258 t261 t264 (t264 != t253) l0_0 t254) else (laws_FnExactPlayCalls.j0 k l1 t250 t253 t258 t261 t264 true l0_0 t254)) = some r := H
    have A41 := Aside0.mk A410; clear A410
    by_cases c42 : t265 = true
    ·subst c42
     have H1 : (laws_FnExactPlayCalls.j0 k l1 t250 t253 t258 t261 t264 (t264 != t253) l0_0 t254) = some r := by rw [if_pos rfl] at H; exact H
     clear H; have H := H1; clear H1; have H' := Aside0.mk H; clear H
     obtain ⟨Ao43, co43, eo43⟩ := Kd.R_slice HO263.out
     subst eo43
     obtain ⟨Ao44, co44, eo44⟩ := Kd.R_slice HO252.out
     subst eo44
     go_wp2_with (first | ((with_reducible refine gate_callee (f := 36) rfl ?_); refine goesL_ (some 47) rfl rfl Try.func36 (by kernel_rfl) rfl #[.slice Ao43 t261.length co43, .slice Ao44 t250.length co44] rfl (by (try simp only [List.map_toArray, List.map_cons, List.map_nil]); first | done | rfl) ?_; (with_reducible refine (laws_eqIntS.calls k _ _ t261 _ _ t250 true _ ?side1 ?side2 ?side3 ?side4 A41.out).mono ?_); (case side1 => repeat (first | exact (Kd.R_reads' HO263.out).2.2 | with_reducible first | apply Kd.C_alloc | apply Kd.C_drewN | apply Kd.C_drew)); (case side2 => exact (Kd.R_reads' HO263.out).2.1); (case side3 => repeat (first | exact (Kd.R_reads' HO252.out).2.2 | with_reducible first | apply Kd.C_alloc | apply Kd.C_drewN | apply Kd.C_drew)); (case side4 => exact (Kd.R_reads' HO252.out).2.1); rintro e w' ⟨rfl, ⟨nd, rfl⟩⟩; refine ⟨_, rfl, ?_⟩))
     go_meet
     case rel => exact ⟨_, ((t264 != t253)), (by first | rfl | (simp; done) | (simp [*]; done)), H', ⟨by first | omega | exact Nat.le_refl _⟩, ⟨by (with_reducible repeat first | apply Kd.R_alloc | apply Kd.R_drewN | apply Kd.R_drew); exact Kd.R_mono HO252.out (fun _ hk => hk.2)⟩, ⟨by (with_reducible repeat first | apply Kd.S_alloc | apply Kd.S_drewN | apply Kd.S_drew); exact Kd.S_mono HO260.out (fun _ hk => ⟨hk.1.2, hk.2⟩)⟩, ⟨by (with_reducible repeat first | apply Kd.R_alloc | apply Kd.R_drewN | apply Kd.R_drew); exact Kd.R_mono HO263.out (fun _ hk => hk.2)⟩, ⟨by (with_reducible repeat first | apply Kd.S_alloc | apply Kd.S_drewN | apply Kd.S_drew); exact Kd.S_mono HO256.out (fun _ hk => ⟨hk.1.2, hk.2⟩)⟩, ⟨by (with_reducible repeat first | apply blk_drewN | apply blk_drew | apply blk_alloc); exact BK241.out⟩, ⟨by (with_reducible repeat first | apply blk_drewN | apply blk_drew | apply blk_alloc); exact BK257.out⟩, ⟨by repeat (first | (with_reducible first | exact HB.out | apply below_alloc | apply pw_below_drewN | apply below_drew1 | refine below_set ?_ GE241.out | refine below_set ?_ GE257.out) | exact HB.out)⟩, ⟨(by (with_reducible repeat first | apply Kd.S_alloc | apply Kd.S_drewN | apply Kd.S_drew); exact HX0.out)⟩, ⟨(by (with_reducible repeat first | apply Kd.S_alloc | apply Kd.S_drewN | apply Kd.S_drew); exact HX1.out)⟩⟩
    ·replace c42 := Bool.eq_false_iff.mpr c42
     subst c42
     have H1 : (laws_FnExactPlayCalls.j0 k l1 t250 t253 t258 t261 t264 true l0_0 t254) = some r := by rw [if_neg (show ¬ (false = true) by decide)] at H; exact H
     clear H; have H := H1; clear H1; have H' := Aside0.mk H; clear H
     obtain ⟨Ao45, co45, eo45⟩ := Kd.R_slice HO263.out
     subst eo45
     obtain ⟨Ao46, co46, eo46⟩ := Kd.R_slice HO252.out
     subst eo46
     go_wp2_with (first | ((with_reducible refine gate_callee (f := 36) rfl ?_); refine goesL_ (some 47) rfl rfl Try.func36 (by kernel_rfl) rfl #[.slice Ao45 t261.length co45, .slice Ao46 t250.length co46] rfl (by (try simp only [List.map_toArray, List.map_cons, List.map_nil]); first | done | rfl) ?_; (with_reducible refine (laws_eqIntS.calls k _ _ t261 _ _ t250 false _ ?side1 ?side2 ?side3 ?side4 A41.out).mono ?_); (case side1 => repeat (first | exact (Kd.R_reads' HO263.out).2.2 | with_reducible first | apply Kd.C_alloc | apply Kd.C_drewN | apply Kd.C_drew)); (case side2 => exact (Kd.R_reads' HO263.out).2.1); (case side3 => repeat (first | exact (Kd.R_reads' HO252.out).2.2 | with_reducible first | apply Kd.C_alloc | apply Kd.C_drewN | apply Kd.C_drew)); (case side4 => exact (Kd.R_reads' HO252.out).2.1); rintro e w' ⟨rfl, ⟨nd, rfl⟩⟩; refine ⟨_, rfl, ?_⟩))
     go_meet
     case rel => exact ⟨_, (true), (by first | rfl | (simp; done) | (simp [*]; done)), H', ⟨by first | omega | exact Nat.le_refl _⟩, ⟨by (with_reducible repeat first | apply Kd.R_alloc | apply Kd.R_drewN | apply Kd.R_drew); exact Kd.R_mono HO252.out (fun _ hk => hk.2)⟩, ⟨by (with_reducible repeat first | apply Kd.S_alloc | apply Kd.S_drewN | apply Kd.S_drew); exact Kd.S_mono HO260.out (fun _ hk => ⟨hk.1.2, hk.2⟩)⟩, ⟨by (with_reducible repeat first | apply Kd.R_alloc | apply Kd.R_drewN | apply Kd.R_drew); exact Kd.R_mono HO263.out (fun _ hk => hk.2)⟩, ⟨by (with_reducible repeat first | apply Kd.S_alloc | apply Kd.S_drewN | apply Kd.S_drew); exact Kd.S_mono HO256.out (fun _ hk => ⟨hk.1.2, hk.2⟩)⟩, ⟨by (with_reducible repeat first | apply blk_drewN | apply blk_drew | apply blk_alloc); exact BK241.out⟩, ⟨by (with_reducible repeat first | apply blk_drewN | apply blk_drew | apply blk_alloc); exact BK257.out⟩, ⟨by repeat (first | (with_reducible first | exact HB.out | apply below_alloc | apply pw_below_drewN | apply below_drew1 | refine below_set ?_ GE241.out | refine below_set ?_ GE257.out) | exact HB.out)⟩, ⟨(by (with_reducible repeat first | apply Kd.S_alloc | apply Kd.S_drewN | apply Kd.S_drew); exact HX0.out)⟩, ⟨(by (with_reducible repeat first | apply Kd.S_alloc | apply Kd.S_drewN | apply Kd.S_drew); exact HX1.out)⟩⟩
   case rest =>
    clear HC20; try clear c1; try clear c2; try clear p2; try clear c3; try clear c4; try clear c4b0; try clear c9; try clear c9b0; try clear c19; try clear c20; try clear c26; try clear c27; try clear c35; try clear c36; try clear c39; try clear c40; try clear c42; try clear hcz11_0; try clear hcz22_0; try clear hcz25_0; try clear hcz31_0; try clear hcz36_0; try clear hcz38_0; try clear hcz6_0; try clear hfz11_0; try clear hfz22_0; try clear hfz25_0; try clear hfz31_0; try clear hfz36_0; try clear hfz38_0; try clear hfz6_0
    obtain ⟨kq, x53_19, rfl, HA, HJ19, HO_6, HO_9, HO_10, HO_258000, BK241, BK257, HB, HX0, HX1⟩ := hcut
    cases kq with
    | zero => exact absurd HA.out (by simp [laws_FnExactPlayCalls.j0])
    | succ kj19 =>
     have H := HA.out; clear HA
     simp only [laws_FnExactPlayCalls.j0] at H
     by_cases c47 : x53_19 = true
     ·subst c47
      have H1 : (some false) = some r := by rw [if_pos rfl] at H; exact H
      clear H; have H := H1; clear H1
      obtain rfl := Option.some.inj H
      go_wp2
      go_ret
      exact ⟨by first | rfl | (simp [errW_none, errW_some] <;> rfl) | (simp [*, errW_none, errW_some] <;> rfl), by repeat (first | (with_reducible first | exact HB.out | apply below_alloc | apply pw_below_drewN | apply below_drew1 | refine below_set ?_ GE241.out | refine below_set ?_ GE257.out) | exact HB.out)⟩
     ·replace c47 := Bool.eq_false_iff.mpr c47
      subst c47
      have H1 : ((laws_toDouble.f kj19 l0_0).bind fun t266 => ((laws_eqDouble.f kj19 t254 t266).bind fun t269 => (if t269 = true then ((laws_toCallS.f kj19 l1).bind fun t270 => ((laws_eqCallS.f kj19 t258 t270).bind fun t273 => (if t273 = true then ((laws_markDouble.f kj19 t254 1).bind fun t274 => ((laws_markCallS.f kj19 t258 t274).bind fun t275 => (if t275 < 0 then (laws_FnExactPlayCalls.j1 kj19 l1 t250 t253 t261 true l0_0) else ((laws_eqIntS.f kj19 t261 t250).bind fun t276 => (if t276 = true then (laws_FnExactPlayCalls.j1 kj19 l1 t250 t253 t261 (t264 != t253) l0_0) else (laws_FnExactPlayCalls.j1 kj19 l1 t250 t253 t261 true l0_0)))))) else (some false)))) else (some false)))) = some r := by rw [if_neg (show ¬ (false = true) by decide)] at H; exact H
      clear H; have H := H1; clear H1
      replace H := Option.bind_eq_some_iff.mp H
      obtain ⟨t266, A480, H⟩ := H
      replace H : ((laws_eqDouble.f kj19 t254 t266).bind fun t269 => (if t269 = true then ((laws_toCallS.f kj19 l1).bind fun t270 => ((laws_eqCallS.f kj19 t258 t270).bind fun t273 => (if t273 = true then ((laws_markDouble.f kj19 t254 1).bind fun t274 => ((laws_markCallS.f kj19 t258 t274).bind fun t275 => (if t275 < 0 then (laws_FnExactPlayCalls.j1 kj19 l1 t250 t253 t261 true l0_0) else ((laws_eqIntS.f kj19 t261 t250).bind fun t276 => (if t276 = true then (laws_FnExactPlayCalls.j1 kj19 l1 t250 t253 t261 (t264 != t253) l0_0) else (laws_FnExactPlayCalls.j1 kj19 l1 t250 t253 t261 true l0_0)))))) else (some false)))) else (some false))) = some r := H
      have A48 := Aside0.mk A480; clear A480
      replace H := Option.bind_eq_some_iff.mp H
      obtain ⟨t269, A490, H⟩ := H
      replace H : (if t269 = true then ((laws_toCallS.f kj19 l1).bind fun t270 => ((laws_eqCallS.f kj19 t258 t270).bind fun t273 => (if t273 = true then ((laws_markDouble.f kj19 t254 1).bind fun t274 => ((laws_markCallS.f kj19 t258 t274).bind fun t275 => (if t275 < 0 then (laws_FnExactPlayCalls.j1 kj19 l1 t250 t253 t261 true l0_0) else ((laws_eqIntS.f kj19 t261 t250).bind fun t276 => (if t276 = true then (laws_FnExactPlayCalls.j1 kj19 l1 t250 t253 t261 (t264 != t253) l0_0) else (laws_FnExactPlayCalls.j1 kj19 l1 t250 t253 t261 true l0_0)))))) else (some false)))) else (some false)) = some r := H
      have A49 := Aside0.mk A490; clear A490
      by_cases c50 : t269 = true
      ·subst c50
       have H1 : ((laws_toCallS.f kj19 l1).bind fun t270 => ((laws_eqCallS.f kj19 t258 t270).bind fun t273 => (if t273 = true then ((laws_markDouble.f kj19 t254 1).bind fun t274 => ((laws_markCallS.f kj19 t258 t274).bind fun t275 => (if t275 < 0 then (laws_FnExactPlayCalls.j1 kj19 l1 t250 t253 t261 true l0_0) else ((laws_eqIntS.f kj19 t261 t250).bind fun t276 => (if t276 = true then (laws_FnExactPlayCalls.j1 kj19 l1 t250 t253 t261 (t264 != t253) l0_0) else (laws_FnExactPlayCalls.j1 kj19 l1 t250 t253 t261 true l0_0)))))) else (some false)))) = some r := by rw [if_pos rfl] at H; exact H
       clear H; have H := H1; clear H1
       replace H := Option.bind_eq_some_iff.mp H
       obtain ⟨t270, A510, H⟩ := H
       replace H : ((laws_eqCallS.f kj19 t258 t270).bind fun t273 => (if t273 = true then ((laws_markDouble.f kj19 t254 1).bind fun t274 => ((laws_markCallS.f kj19 t258 t274).bind fun t275 => (if t275 < 0 then (laws_FnExactPlayCalls.j1 kj19 l1 t250 t253 t261 true l0_0) else ((laws_eqIntS.f kj19 t261 t250).bind fun t276 => (if t276 = true then (laws_FnExactPlayCalls.j1 kj19 l1 t250 t253 t261 (t264 != t253) l0_0) else (laws_FnExactPlayCalls.j1 kj19 l1 t250 t253 t261 true l0_0)))))) else (some false))) = some r := H
       have A51 := Aside0.mk A510; clear A510
       replace H := Option.bind_eq_some_iff.mp H
       obtain ⟨t273, A520, H⟩ := H
       replace H : (if t273 = true then ((laws_markDouble.f kj19 t254 1).bind fun t274 => ((laws_markCallS.f kj19 t258 t274).bind fun t275 => (if t275 < 0 then (laws_FnExactPlayCalls.j1 kj19 l1 t250 t253 t261 true l0_0) else ((laws_eqIntS.f kj19 t261 t250).bind fun t276 => (if t276 = true then (laws_FnExactPlayCalls.j1 kj19 l1 t250 t253 t261 (t264 != t253) l0_0) else (laws_FnExactPlayCalls.j1 kj19 l1 t250 t253 t261 true l0_0)))))) else (some false)) = some r := H
       have A52 := Aside0.mk A520; clear A520
       by_cases c53 : t273 = true
       ·subst c53
        have H1 : ((laws_markDouble.f kj19 t254 1).bind fun t274 => ((laws_markCallS.f kj19 t258 t274).bind fun t275 => (if t275 < 0 then (laws_FnExactPlayCalls.j1 kj19 l1 t250 t253 t261 true l0_0) else ((laws_eqIntS.f kj19 t261 t250).bind fun t276 => (if t276 = true then (laws_FnExactPlayCalls.j1 kj19 l1 t250 t253 t261 (t264 != t253) l0_0) else (laws_FnExactPlayCalls.j1 kj19 l1 t250 t253 t261 true l0_0)))))) = some r := by rw [if_pos rfl] at H; exact H
        clear H; have H := H1; clear H1
        replace H := Option.bind_eq_some_iff.mp H
        obtain ⟨t274, A540, H⟩ := H
        replace H : ((laws_markCallS.f kj19 t258 t274).bind fun t275 => (if t275 < 0 then (laws_FnExactPlayCalls.j1 kj19 l1 t250 t253 t261 true l0_0) else ((laws_eqIntS.f kj19 t261 t250).bind fun t276 => (if t276 = true then (laws_FnExactPlayCalls.j1 kj19 l1 t250 t253 t261 (t264 != t253) l0_0) else (laws_FnExactPlayCalls.j1 kj19 l1 t250 t253 t261 true l0_0))))) = some r := H
        have A54 := Aside0.mk A540; clear A540
        replace H := Option.bind_eq_some_iff.mp H
        obtain ⟨t275, A550, H⟩ := H
        replace H : (if t275 < 0 then (laws_FnExactPlayCalls.j1 kj19 l1 t250 t253 t261 true l0_0) else ((laws_eqIntS.f kj19 t261 t250).bind fun t276 => (if t276 = true then (laws_FnExactPlayCalls.j1 kj19 l1 t250 t253 t261 (t264 != t253) l0_0) else (laws_FnExactPlayCalls.j1 kj19 l1 t250 t253 t261 true l0_0)))) = some r := H
        have A55 := Aside0.mk A550; clear A550; have HC56 := Aside0.mk H; clear H; try go_wp2
        replace HX0 := Aside0.mk (Kd.S_drew HX0.out)
        replace HX1 := Aside0.mk (Kd.S_drew HX1.out)
        replace HO_6 := Aside0.mk (Kd.R_drew HO_6.out); replace HO_9 := Aside0.mk (Kd.S_drew HO_9.out); replace HO_10 := Aside0.mk (Kd.R_drew HO_10.out); replace HO_258000 := Aside0.mk (Kd.S_drew HO_258000.out); replace BK241 := Aside0.mk (blk_drew BK241.out); replace BK257 := Aside0.mk (blk_drew BK257.out); replace HB := Aside0.mk (below_drew1 HB.out)
        refine start_ (n := 5) (S := fun w' => w'.cell? ⟨gb257, 0, none⟩ = some (.slice Ao34 t254.length co34) ∧ w'.cell? ⟨gb241, 0, none⟩ = some (.slice A0_0 l0_0.length c0_0)) (ds := []) #[ff,ff,ff,ff,ff] (by kernel_rfl) rfl rfl ⟨(blk_cell BK257.out 0).trans rfl, (blk_cell BK241.out 0).trans rfl⟩ (fun hHeld => ?_)
        generalize wc.drew = w57 at HO_6 HO_9 HO_10 HO_258000 BK241 BK257 HB HX0 HX1 hHeld ⊢
        refine take_ (i := 0) (N := some 54) (v := ?_) (a' := ?_) #[tt,ff,ff,ff,ff] rfl rfl (by kernel_rfl) (fun _ _ _ h => h) (Or.inl ⟨by rfl, ?_⟩) hHeld ?_ ?_
        rotate_left
        ·rintro w' ⟨s0, s1⟩
         go_simp
         with_reducible rfl
        rotate_left
        ·simp only [Act.put, ps_]
         rfl
        refine take_ (i := 1) (N := some 55) (v := ?_) (a' := ?_) #[tt,tt,ff,ff,ff] rfl rfl (by kernel_rfl) (fun _ _ _ h => h) (Or.inl ⟨by rfl, ?_⟩) hHeld ?_ ?_
        rotate_left
        ·rintro w' ⟨s0, s1⟩
         go_simp
         with_reducible rfl
        rotate_left
        ·simp only [Act.put, ps_]
         rfl
        refine one_ (i := 2) (N := some 56) #[tt,tt,tt,ff,ff] rfl rfl (by kernel_rfl) (by decide) (fun K hK => ?_)
        refine goes_ Try.func40 (by kernel_rfl) rfl #[.agg #[.slice A0_0 l0_0.length c0_0]] (by rfl) rfl rfl (by (try simp only [List.map_toArray, List.map_cons, List.map_nil]); first | done | rfl) ?_
        with_reducible refine (laws_toDouble.calls kj19 _ _ l0_0 t266 _ ?side1 ?side2 A48.out).mono ?_
        (case side1 => repeat (first | exact (Kd.C_below HR0_0.out HB.out) | with_reducible first | apply Kd.C_alloc | apply Kd.C_drewN | apply Kd.C_drew))
        (case side2 => exact HC0_0.out)
        rintro e w58 ⟨v267, rfl, ho0, hb⟩
        refine ⟨_, rfl, ?_⟩
        replace HX0 := Aside0.mk (Kd.S_below (by (with_reducible repeat first | apply Kd.S_alloc | apply Kd.S_drewN | apply Kd.S_drew); exact HX0.out) hb)
        replace HX1 := Aside0.mk (Kd.S_below (by (with_reducible repeat first | apply Kd.S_alloc | apply Kd.S_drewN | apply Kd.S_drew); exact HX1.out) hb)
        have n0_ := Aside0.mk (Kd.R_below (by (with_reducible repeat first | apply Kd.R_alloc | apply Kd.R_drewN | apply Kd.R_drew); exact HO_6.out) hb)
        have n1_ := Aside0.mk (Kd.S_below (by (with_reducible repeat first | apply Kd.S_alloc | apply Kd.S_drewN | apply Kd.S_drew); exact HO_9.out) hb)
        have n2_ := Aside0.mk (Kd.R_below (by (with_reducible repeat first | apply Kd.R_alloc | apply Kd.R_drewN | apply Kd.R_drew); exact HO_10.out) hb)
        have n3_ := Aside0.mk (Kd.S_elder' (by (with_reducible repeat first | apply Kd.S_alloc | apply Kd.S_drewN | apply Kd.S_drew); exact HO_258000.out) (Kd.S_base ho0) hb)
        have n4_ := Aside0.mk (Kd.S_lower (Kd.S_new' (Kd.S_new' (Kd.S_new' ho0 (Kd.R_lt (by (with_reducible repeat first | apply Kd.R_alloc | apply Kd.R_drewN | apply Kd.R_drew); exact HO_6.out))) (Kd.R_lt (by (with_reducible repeat first | apply Kd.R_alloc | apply Kd.R_drewN | apply Kd.R_drew); exact HO_10.out))) (Kd.S_lt (by (with_reducible repeat first | apply Kd.S_alloc | apply Kd.S_drewN | apply Kd.S_drew); exact HO_258000.out))) (below_size (by repeat first | (with_reducible first | exact HB.out | apply below_alloc | apply pw_below_drewN | apply below_drew1 | refine below_set ?_ GE241.out | refine below_set ?_ GE257.out) | exact HB.out)))
        have n5_ := Aside0.mk (blk_below (g := gb241) (o := .cells #[.slice A0_0 l0_0.length c0_0] 64 (0, 0)) (by (with_reducible repeat first | apply blk_drewN | apply blk_drew | apply blk_alloc); exact BK241.out) hb)
        have n6_ := Aside0.mk (blk_below (g := gb257) (o := .cells #[.slice Ao34 t254.length co34] 38 (0, 0)) (by (with_reducible repeat first | apply blk_drewN | apply blk_drew | apply blk_alloc); exact BK257.out) hb)
        have n7_ := Aside0.mk (below_step (by repeat first | (with_reducible first | exact HB.out | apply below_alloc | apply pw_below_drewN | apply below_drew1 | refine below_set ?_ GE241.out | refine below_set ?_ GE257.out) | exact HB.out) hb); clear HO_6 HO_9 HO_10 HO_258000 BK241 BK257 HB; have HO_6 := n0_; have HO_9 := n1_; have HO_10 := n2_; have HO_258000 := n3_; have HO268 := n4_; have BK241 := n5_; have BK257 := n6_; have HB := n7_; clear n0_ n1_ n2_ n3_ n4_ n5_ n6_ n7_
        (try clear hb)
        (try clear hb2)
        (try clear hk)
        (try clear hi)
        (try clear ho0)
        obtain ⟨Ao59, co59, eo59⟩ := Kd.S_slice HO268.out
        (first | subst eo59 | (injection eo59 with f1_ f2_ f3_; have f4_ := f1_.symm; have f5_ := f3_.symm; clear f1_ f2_ f3_; subst f4_; subst f5_))
        refine hK.out _ _ ⟨(blk_cell BK257.out 0).trans rfl, (blk_cell BK241.out 0).trans rfl⟩ (fun hHeld => ?_)
        clear hK K
        refine norm_ (a' := ?_) ?_ ?_
        rotate_left
        ·show Act.put _ (some 56) _ = _
         simp only [Act.put, ps_]
         rfl
        refine one_ (i := 3) (N := some 57) #[tt,tt,tt,tt,ff] rfl rfl (by kernel_rfl) (by decide) (fun K hK => ?_)
        refine goes_ Try.func41 (by kernel_rfl) rfl #[.agg #[.slice Ao34 t254.length co34], .agg #[.slice Ao59 t266.length co59]] (by rfl) rfl rfl (by (try simp only [List.map_toArray, List.map_cons, List.map_nil]); first | done | rfl) ?_
        with_reducible refine (laws_eqDouble.calls kj19 _ _ t254 _ _ t266 true _ ?side1 ?side2 ?side3 ?side4 A49.out).mono ?_
        (case side1 => repeat (first | exact (Kd.S_reads' HO_258000.out).2.2 | with_reducible first | apply Kd.C_alloc | apply Kd.C_drewN | apply Kd.C_drew))
        (case side2 => exact (Kd.S_reads' HO_258000.out).2.1)
        (case side3 => repeat (first | exact (Kd.S_reads' HO268.out).2.2 | with_reducible first | apply Kd.C_alloc | apply Kd.C_drewN | apply Kd.C_drew))
        (case side4 => exact (Kd.S_reads' HO268.out).2.1)
        rintro e w60 ⟨rfl, hb⟩
        refine ⟨_, rfl, ?_⟩
        replace HX0 := Aside0.mk (Kd.S_below (by (with_reducible repeat first | apply Kd.S_alloc | apply Kd.S_drewN | apply Kd.S_drew); exact HX0.out) hb)
        replace HX1 := Aside0.mk (Kd.S_below (by (with_reducible repeat first | apply Kd.S_alloc | apply Kd.S_drewN | apply Kd.S_drew); exact HX1.out) hb)
        have n0_ := Aside0.mk (Kd.R_below (by (with_reducible repeat first | apply Kd.R_alloc | apply Kd.R_drewN | apply Kd.R_drew); exact HO_6.out) hb)
        have n1_ := Aside0.mk (Kd.S_below (by (with_reducible repeat first | apply Kd.S_alloc | apply Kd.S_drewN | apply Kd.S_drew); exact HO_9.out) hb)
        have n2_ := Aside0.mk (Kd.R_below (by (with_reducible repeat first | apply Kd.R_alloc | apply Kd.R_drewN | apply Kd.R_drew); exact HO_10.out) hb)
        have n3_ := Aside0.mk (Kd.S_below (by (with_reducible repeat first | apply Kd.S_alloc | apply Kd.S_drewN | apply Kd.S_drew); exact HO_258000.out) hb)
        have n4_ := Aside0.mk (Kd.S_below (by (with_reducible repeat first | apply Kd.S_alloc | apply Kd.S_drewN | apply Kd.S_drew); exact HO268.out) hb)
        have n5_ := Aside0.mk (blk_below (g := gb241) (o := .cells #[.slice A0_0 l0_0.length c0_0] 64 (0, 0)) (by (with_reducible repeat first | apply blk_drewN | apply blk_drew | apply blk_alloc); exact BK241.out) hb)
        have n6_ := Aside0.mk (blk_below (g := gb257) (o := .cells #[.slice Ao34 t254.length co34] 38 (0, 0)) (by (with_reducible repeat first | apply blk_drewN | apply blk_drew | apply blk_alloc); exact BK257.out) hb)
        have n7_ := Aside0.mk (below_step (by repeat first | (with_reducible first | exact HB.out | apply below_alloc | apply pw_below_drewN | apply below_drew1 | refine below_set ?_ GE241.out | refine below_set ?_ GE257.out) | exact HB.out) hb); clear HO_6 HO_9 HO_10 HO_258000 HO268 BK241 BK257 HB; have HO_6 := n0_; have HO_9 := n1_; have HO_10 := n2_; have HO_258000 := n3_; have HO268 := n4_; have BK241 := n5_; have BK257 := n6_; have HB := n7_; clear n0_ n1_ n2_ n3_ n4_ n5_ n6_ n7_
        (try clear hb)
        (try clear hb2)
        (try clear hk)
        (try clear hi)
        refine hK.out _ _ ⟨(blk_cell BK257.out 0).trans rfl, (blk_cell BK241.out 0).trans rfl⟩ (fun hHeld => ?_)
        clear hK K
        refine norm_ (a' := ?_) ?_ ?_
        rotate_left
        ·show Act.put _ (some 57) _ = _
         simp only [Act.put, ps_]
         rfl
        refine pure_ (i := 4) (N := some 58) (v := ?_) (a' := ?_) #[tt,tt,tt,tt,tt] rfl rfl (by kernel_rfl) (fun _ _ _ h => h) (Or.inl ⟨by rfl, ?_⟩) ?_ ?_
        rotate_left
        ·intro w'
         go_simp
         with_reducible rfl
        rotate_left
        ·simp only [Act.put, ps_]
         rfl
        refine done_ (by kernel_rfl) ?_
        go_upto_region 21 with (first | ((with_reducible refine gate_callee (f := 27) rfl ?_); refine goesL_ (some 61) rfl rfl Try.func27 (by kernel_rfl) rfl #[.slice A1 l1.length c1] rfl (by (try simp only [List.map_toArray, List.map_cons, List.map_nil]); first | done | rfl) ?_; (with_reducible refine (laws_toCallS.calls kj19 _ _ l1 t270 _ ?side1 ?side2 A51.out).mono ?_); (case side1 => repeat (first | exact (Kd.C_below HR1.out HB.out) | with_reducible first | apply Kd.C_alloc | apply Kd.C_drewN | apply Kd.C_drew)); (case side2 => exact HC1.out); rintro e w61 ⟨v271, rfl, ho0, hb⟩; refine ⟨_, rfl, ?_⟩; have nX_ := Aside0.mk (Kd.S_below (by (with_reducible repeat first | apply Kd.S_alloc | apply Kd.S_drewN | apply Kd.S_drew); exact HX0.out) hb); clear HX0; have HX0 := nX_; clear nX_; have nX_ := Aside0.mk (Kd.S_below (by (with_reducible repeat first | apply Kd.S_alloc | apply Kd.S_drewN | apply Kd.S_drew); exact HX1.out) hb); clear HX1; have HX1 := nX_; clear nX_; replace HO_258000 := Aside0.mk (Kd.S_below (by (with_reducible repeat first | apply Kd.S_alloc | apply Kd.S_drewN | apply Kd.S_drew); exact HO_258000.out) hb); replace HO268 := Aside0.mk (Kd.S_below (by (with_reducible repeat first | apply Kd.S_alloc | apply Kd.S_drewN | apply Kd.S_drew); exact HO268.out) hb); have HO272 := Aside0.mk (Kd.S_lower (Kd.S_new' (Kd.S_new' (Kd.S_new' ho0 (Kd.R_lt (by (with_reducible repeat first | apply Kd.R_alloc | apply Kd.R_drewN | apply Kd.R_drew); exact HO_6.out))) (Kd.S_lt (by (with_reducible repeat first | apply Kd.S_alloc | apply Kd.S_drewN | apply Kd.S_drew); exact HO_9.out))) (Kd.R_lt (by (with_reducible repeat first | apply Kd.R_alloc | apply Kd.R_drewN | apply Kd.R_drew); exact HO_10.out))) (below_size (by repeat first | (with_reducible first | exact HB.out | apply below_alloc | apply pw_below_drewN | apply below_drew1 | refine below_set ?_ GE241.out | refine below_set ?_ GE257.out) | exact HB.out))); replace HO_6 := Aside0.mk (Kd.R_below (by (with_reducible repeat first | apply Kd.R_alloc | apply Kd.R_drewN | apply Kd.R_drew); exact HO_6.out) hb); replace HO_9 := Aside0.mk (Kd.S_elder' (by (with_reducible repeat first | apply Kd.S_alloc | apply Kd.S_drewN | apply Kd.S_drew); exact HO_9.out) (Kd.S_base ho0) hb); replace HO_10 := Aside0.mk (Kd.R_below (by (with_reducible repeat first | apply Kd.R_alloc | apply Kd.R_drewN | apply Kd.R_drew); exact HO_10.out) hb); replace BK241 := Aside0.mk (blk_below (g := gb241) (o := .cells #[.slice A0_0 l0_0.length c0_0] 64 (0, 0)) (by (with_reducible repeat first | apply blk_drewN | apply blk_drew | apply blk_alloc); exact BK241.out) hb); replace BK257 := Aside0.mk (blk_below (g := gb257) (o := .cells #[.slice Ao34 t254.length co34] 38 (0, 0)) (by (with_reducible repeat first | apply blk_drewN | apply blk_drew | apply blk_alloc); exact BK257.out) hb); replace HB := Aside0.mk (below_step (by repeat first | (with_reducible first | exact HB.out | apply below_alloc | apply pw_below_drewN | apply below_drew1 | refine below_set ?_ GE241.out | refine below_set ?_ GE257.out) | exact HB.out) hb); (try clear hb); (try clear ho0); obtain ⟨Ao62, co62, eo62⟩ := Kd.S_slice HO272.out; subst eo62) | ((with_reducible refine gate_callee (f := 29) rfl ?_); refine goesL_ (some 62) rfl rfl Try.func29 (by kernel_rfl) rfl #[.slice Ao39 t258.length co39, .slice Ao62 t270.length co62] rfl (by (try simp only [List.map_toArray, List.map_cons, List.map_nil]); first | done | rfl) ?_; (with_reducible refine (laws_eqCallS.calls kj19 _ _ t258 _ _ t270 true _ ?side1 ?side2 ?side3 ?side4 A52.out).mono ?_); (case side1 => repeat (first | exact (Kd.S_reads' HO_9.out).2.2 | with_reducible first | apply Kd.C_alloc | apply Kd.C_drewN | apply Kd.C_drew)); (case side2 => exact (Kd.S_reads' HO_9.out).2.1); (case side3 => repeat (first | exact (Kd.S_reads' HO272.out).2.2 | with_reducible first | apply Kd.C_alloc | apply Kd.C_drewN | apply Kd.C_drew)); (case side4 => exact (Kd.S_reads' HO272.out).2.1); rintro e w63 ⟨rfl, hb⟩; refine ⟨_, rfl, ?_⟩; have nX_ := Aside0.mk (Kd.S_below (by (with_reducible repeat first | apply Kd.S_alloc | apply Kd.S_drewN | apply Kd.S_drew); exact HX0.out) hb); clear HX0; have HX0 := nX_; clear nX_; have nX_ := Aside0.mk (Kd.S_below (by (with_reducible repeat first | apply Kd.S_alloc | apply Kd.S_drewN | apply Kd.S_drew); exact HX1.out) hb); clear HX1; have HX1 := nX_; clear nX_; replace HO_6 := Aside0.mk (Kd.R_below (by (with_reducible repeat first | apply Kd.R_alloc | apply Kd.R_drewN | apply Kd.R_drew); exact HO_6.out) hb); replace HO_9 := Aside0.mk (Kd.S_below (by (with_reducible repeat first | apply Kd.S_alloc | apply Kd.S_drewN | apply Kd.S_drew); exact HO_9.out) hb); replace HO_10 := Aside0.mk (Kd.R_below (by (with_reducible repeat first | apply Kd.R_alloc | apply Kd.R_drewN | apply Kd.R_drew); exact HO_10.out) hb); replace HO_258000 := Aside0.mk (Kd.S_below (by (with_reducible repeat first | apply Kd.S_alloc | apply Kd.S_drewN | apply Kd.S_drew); exact HO_258000.out) hb); replace HO268 := Aside0.mk (Kd.S_below (by (with_reducible repeat first | apply Kd.S_alloc | apply Kd.S_drewN | apply Kd.S_drew); exact HO268.out) hb); replace HO272 := Aside0.mk (Kd.S_below (by (with_reducible repeat first | apply Kd.S_alloc | apply Kd.S_drewN | apply Kd.S_drew); exact HO272.out) hb); replace BK241 := Aside0.mk (blk_below (g := gb241) (o := .cells #[.slice A0_0 l0_0.length c0_0] 64 (0, 0)) (by (with_reducible repeat first | apply blk_drewN | apply blk_drew | apply blk_alloc); exact BK241.out) hb); replace BK257 := Aside0.mk (blk_below (g := gb257) (o := .cells #[.slice Ao34 t254.length co34] 38 (0, 0)) (by (with_reducible repeat first | apply blk_drewN | apply blk_drew | apply blk_alloc); exact BK257.out) hb); replace HB := Aside0.mk (below_step (by repeat first | (with_reducible first | exact HB.out | apply below_alloc | apply pw_below_drewN | apply below_drew1 | refine below_set ?_ GE241.out | refine below_set ?_ GE257.out) | exact HB.out) hb); (try clear hb); have hnb64 := NB257_241.out; have hnc64 := NB241_257.out; have hcz65_0 : w63.cell? ⟨gb257, 0, none⟩ = some (.slice Ao34 t254.length co34) := (blk_cell BK257.out 0).trans rfl; have hfz65_0 := blk_frozen BK257.out 0) | ((with_reducible refine gate_callee (f := 42) rfl ?_); refine goesL_ (some 66) rfl rfl Try.func42 (by kernel_rfl) rfl #[.agg #[.slice Ao34 t254.length co34], .int .i64 1] rfl (by (try simp only [List.map_toArray, List.map_cons, List.map_nil]); first | done | rfl) ?_; refine (laws_markDouble.calls kj19 (fun k_ => mX0_ ≤ k_ ∧ k_ < gb257) _ _ t254 1 t274 mX0_ w _ (by repeat first | (with_reducible first | exact HB.out | apply below_alloc | apply pw_below_drewN | apply below_drew1) | exact HB.out) hmX0_ (Kd.S_R (by (with_reducible repeat first | apply Kd.S_alloc | apply Kd.S_drewN | apply Kd.S_drew); exact HX0.out)) A54.out).mono ?_; rintro e w66 ⟨rfl, hb, hkp⟩; refine ⟨_, rfl, ?_⟩; clear HX0; have nX_ := Aside0.mk (Kd.S_step (by (with_reducible repeat first | apply Kd.S_alloc | apply Kd.S_drewN | apply Kd.S_drew); exact HX1.out) (fun k_ hk_ hl_ => hkp.2 k_ hl_ (fun hs_ => by have h1_ := hs_.1; have h2_ := hs_.2; have h3_ := hk_.1; have h4_ := hk_.2; omega))); clear HX1; have HX1 := nX_; clear nX_; replace HO_6 := Aside0.mk (Kd.R_flat (by (with_reducible repeat first | apply Kd.R_alloc | apply Kd.R_drewN | apply Kd.R_drew); exact HO_6.out) hkp (fun k_ e_ hs_ => by have h2_ := hs_.1; have h3_ := hs_.2; first | (have h1_ := hWX0_ k_ e_; omega) | (have h1_ := hWX1_ k_ e_; omega) | (have h1_ := hG_ k_ e_; omega))); replace HO_9 := Aside0.mk (fun k_ h_ => Nat.lt_of_lt_of_le (Kd.S_lt (by (with_reducible repeat first | apply Kd.S_alloc | apply Kd.S_drewN | apply Kd.S_drew); exact HO_9.out) k_ h_) hkp.1); replace HO_10 := Aside0.mk (Kd.R_flat (by (with_reducible repeat first | apply Kd.R_alloc | apply Kd.R_drewN | apply Kd.R_drew); exact HO_10.out) hkp (fun k_ e_ hs_ => by have h2_ := hs_.1; have h3_ := hs_.2; first | (have h1_ := hWX0_ k_ e_; omega) | (have h1_ := hWX1_ k_ e_; omega) | (have h1_ := hG_ k_ e_; omega))); replace HO_258000 := Aside0.mk (fun k_ h_ => Nat.lt_of_lt_of_le (Kd.S_lt (by (with_reducible repeat first | apply Kd.S_alloc | apply Kd.S_drewN | apply Kd.S_drew); exact HO_258000.out) k_ h_) hkp.1); replace HO268 := Aside0.mk (fun k_ h_ => Nat.lt_of_lt_of_le (Kd.S_lt (by (with_reducible repeat first | apply Kd.S_alloc | apply Kd.S_drewN | apply Kd.S_drew); exact HO268.out) k_ h_) hkp.1); replace HO272 := Aside0.mk (fun k_ h_ => Nat.lt_of_lt_of_le (Kd.S_lt (by (with_reducible repeat first | apply Kd.S_alloc | apply Kd.S_drewN | apply Kd.S_drew); exact HO272.out) k_ h_) hkp.1); replace BK241 := Aside0.mk (blk_kept (g := gb241) (o := .cells #[.slice A0_0 l0_0.length c0_0] 64 (0, 0)) (by (with_reducible repeat first | apply blk_drewN | apply blk_drew | apply blk_alloc); exact BK241.out) hkp (fun hs_ => by have h2_ := hs_.1; have h3_ := hs_.2; omega)); replace BK257 := Aside0.mk (blk_kept (g := gb257) (o := .cells #[.slice Ao34 t254.length co34] 38 (0, 0)) (by (with_reducible repeat first | apply blk_drewN | apply blk_drew | apply blk_alloc); exact BK257.out) hkp (fun hs_ => by have h2_ := hs_.1; have h3_ := hs_.2; omega)); replace HB := Aside0.mk (hb); (try clear hb); (try clear hkp)) | ((with_reducible refine gate_callee (f := 30) rfl ?_); refine goesL_ (some 69) rfl rfl Try.func30 (by kernel_rfl) rfl #[.slice Ao39 t258.length co39, .int .i64 t274] rfl (by (try simp only [List.map_toArray, List.map_cons, List.map_nil]); first | done | rfl) ?_; refine (laws_markCallS.calls kj19 (fun k_ => mX1_ ≤ k_ ∧ k_ < nG_) _ _ t258 t274 t275 mX1_ w _ (by repeat first | (with_reducible first | exact HB.out | apply below_alloc | apply pw_below_drewN | apply below_drew1) | exact HB.out) hmX1_ (Kd.S_R (by (with_reducible repeat first | apply Kd.S_alloc | apply Kd.S_drewN | apply Kd.S_drew); exact HX1.out)) A55.out).mono ?_; rintro e w67 ⟨rfl, hb, hkp⟩; refine ⟨_, rfl, ?_⟩; clear HX1; replace HO_6 := Aside0.mk (Kd.R_flat (by (with_reducible repeat first | apply Kd.R_alloc | apply Kd.R_drewN | apply Kd.R_drew); exact HO_6.out) hkp (fun k_ e_ hs_ => by have h2_ := hs_.1; have h3_ := hs_.2; first | (have h1_ := hWX0_ k_ e_; omega) | (have h1_ := hWX1_ k_ e_; omega) | (have h1_ := hG_ k_ e_; omega))); replace HO_9 := Aside0.mk (fun k_ h_ => Nat.lt_of_lt_of_le (HO_9.out k_ h_) hkp.1); replace HO_10 := Aside0.mk (Kd.R_flat (by (with_reducible repeat first | apply Kd.R_alloc | apply Kd.R_drewN | apply Kd.R_drew); exact HO_10.out) hkp (fun k_ e_ hs_ => by have h2_ := hs_.1; have h3_ := hs_.2; first | (have h1_ := hWX0_ k_ e_; omega) | (have h1_ := hWX1_ k_ e_; omega) | (have h1_ := hG_ k_ e_; omega))); replace HO_258000 := Aside0.mk (fun k_ h_ => Nat.lt_of_lt_of_le (HO_258000.out k_ h_) hkp.1); replace HO268 := Aside0.mk (fun k_ h_ => Nat.lt_of_lt_of_le (HO268.out k_ h_) hkp.1); replace HO272 := Aside0.mk (fun k_ h_ => Nat.lt_of_lt_of_le (HO272.out k_ h_) hkp.1); replace BK241 := Aside0.mk (blk_kept (g := gb241) (o := .cells #[.slice A0_0 l0_0.length c0_0] 64 (0, 0)) (by (with_reducible repeat first | apply blk_drewN | apply blk_drew | apply blk_alloc); exact BK241.out) hkp (fun hs_ => by have h2_ := hs_.1; have h3_ := hs_.2; omega)); replace BK257 := Aside0.mk (blk_kept (g := gb257) (o := .cells #[.slice Ao34 t254.length co34] 38 (0, 0)) (by (with_reducible repeat first | apply blk_drewN | apply blk_drew | apply blk_alloc); exact BK257.out) hkp (fun hs_ => by have h2_ := hs_.1; have h3_ := hs_.2; omega)); replace HB := Aside0.mk (hb); (try clear hb); (try clear hkp)))
        (try simp only [Act.put, List.setIfInBounds_toArray, List.set_cons_zero, List.set_cons_succ])
        go_cut [82] (fun v82 wc => ∃ (kq : Nat) (x82_55 : Bool), v82 = .bool x82_55 ∧ Aside0 (laws_FnExactPlayCalls.j1 kq l1 t250 t253 t261 x82_55 l0_0 = some r) ∧ Aside0 (kq ≤ kj19) ∧ Aside0 (Kd.R (Kd.int .i64) 3 wc w.heap.size (fun k_ => some k_ ≠ (v262 : Value).ownBlock) v251 t250) ∧ Aside0 (Kd.R (Kd.int .i64) 3 wc w.heap.size (fun k_ => some k_ ≠ (v251 : Value).ownBlock) v262 t261) ∧ Aside0 (∀ k_, (.slice Ao34 t254.length co34 : Value).ownBlock = some k_ → k_ < wc.heap.size) ∧ Aside0 (wc.heap[gb241]? = some (.cells #[(.slice A0_0 l0_0.length c0_0)] 64 (0, 0))) ∧ Aside0 (wc.heap[gb257]? = some (.cells #[(.slice Ao34 t254.length co34)] 38 (0, 0))) ∧ Aside0 (Below w.heap.size w wc))
        case first =>
         have H := HC56.out; clear HC56
         by_cases c68 : t275 < 0
         ·rw [if_pos c68] at H
          have c68b0 : decide (t275 < 0) = true := decide_eq_true c68
          clear c68
          (first | rw [c68b0] | (simp only [i64_w, i32_w]; rw [c68b0]) | skip)
          have H' := Aside0.mk H; clear H
          go_wp2
          go_meet
          case rel => exact ⟨_, (true), (by first | rfl | (simp; done) | (simp [*]; done)), H', ⟨by have := HJ19.out; first | omega | exact Nat.le_refl _⟩, ⟨by (with_reducible repeat first | apply Kd.R_alloc | apply Kd.R_drewN | apply Kd.R_drew); exact HO_6.out⟩, ⟨by (with_reducible repeat first | apply Kd.R_alloc | apply Kd.R_drewN | apply Kd.R_drew); exact HO_10.out⟩, ⟨fun k_ h_ => by have q_ := HO_258000.out k_ h_; simpa using q_⟩, ⟨by (with_reducible repeat first | apply blk_drewN | apply blk_drew | apply blk_alloc); exact BK241.out⟩, ⟨by (with_reducible repeat first | apply blk_drewN | apply blk_drew | apply blk_alloc); exact BK257.out⟩, ⟨by repeat (first | (with_reducible first | exact HB.out | apply below_alloc | apply pw_below_drewN | apply below_drew1 | refine below_set ?_ GE241.out | refine below_set ?_ GE257.out) | exact HB.out)⟩⟩
         ·rw [if_neg c68] at H
          have c68b0 : decide (t275 < 0) = false := decide_eq_false c68
          clear c68
          (first | rw [c68b0] | (simp only [i64_w, i32_w]; rw [c68b0]) | skip)
          replace H := Option.bind_eq_some_iff.mp H
          obtain ⟨t276, A690, H⟩ := H
          replace H : (if t276 = true then (laws_FnExactPlayCalls.j1 kj19 l1 t250 t253 t261 (t264 != t253) l0_0) else (laws_FnExactPlayCalls.j1 kj19 l1 t250 t253 t261 true l0_0)) = some r := H
          have A69 := Aside0.mk A690; clear A690
          by_cases c70 : t276 = true
          ·subst c70
           have H1 : (laws_FnExactPlayCalls.j1 kj19 l1 t250 t253 t261 (t264 != t253) l0_0) = some r := by rw [if_pos rfl] at H; exact H
           clear H; have H := H1; clear H1; have H' := Aside0.mk H; clear H
           obtain ⟨Ao71, co71, eo71⟩ := Kd.R_slice HO_10.out
           subst eo71
           obtain ⟨Ao72, co72, eo72⟩ := Kd.R_slice HO_6.out
           subst eo72
           go_wp2_with (first | (go_at_call 36; (with_reducible refine (laws_eqIntS.calls kj19 _ _ t261 _ _ t250 true _ ?side1 ?side2 ?side3 ?side4 A69.out).mono ?_); (case side1 => repeat (first | exact (Kd.R_reads' HO_10.out).2.2 | with_reducible first | apply Kd.C_alloc | apply Kd.C_drewN | apply Kd.C_drew)); (case side2 => exact (Kd.R_reads' HO_10.out).2.1); (case side3 => repeat (first | exact (Kd.R_reads' HO_6.out).2.2 | with_reducible first | apply Kd.C_alloc | apply Kd.C_drewN | apply Kd.C_drew)); (case side4 => exact (Kd.R_reads' HO_6.out).2.1); rintro e w' ⟨rfl, ⟨nd, rfl⟩⟩))
           go_meet
           case rel => exact ⟨_, ((t264 != t253)), (by first | rfl | (simp; done) | (simp [*]; done)), H', ⟨by have := HJ19.out; first | omega | exact Nat.le_refl _⟩, ⟨by (with_reducible repeat first | apply Kd.R_alloc | apply Kd.R_drewN | apply Kd.R_drew); exact HO_6.out⟩, ⟨by (with_reducible repeat first | apply Kd.R_alloc | apply Kd.R_drewN | apply Kd.R_drew); exact HO_10.out⟩, ⟨fun k_ h_ => by have q_ := HO_258000.out k_ h_; simpa using q_⟩, ⟨by (with_reducible repeat first | apply blk_drewN | apply blk_drew | apply blk_alloc); exact BK241.out⟩, ⟨by (with_reducible repeat first | apply blk_drewN | apply blk_drew | apply blk_alloc); exact BK257.out⟩, ⟨by repeat (first | (with_reducible first | exact HB.out | apply below_alloc | apply pw_below_drewN | apply below_drew1 | refine below_set ?_ GE241.out | refine below_set ?_ GE257.out) | exact HB.out)⟩⟩
          ·replace c70 := Bool.eq_false_iff.mpr c70
           subst c70
           have H1 : (laws_FnExactPlayCalls.j1 kj19 l1 t250 t253 t261 true l0_0) = some r := by rw [if_neg (show ¬ (false = true) by decide)] at H; exact H
           clear H; have H := H1; clear H1; have H' := Aside0.mk H; clear H
           obtain ⟨Ao73, co73, eo73⟩ := Kd.R_slice HO_10.out
           subst eo73
           obtain ⟨Ao74, co74, eo74⟩ := Kd.R_slice HO_6.out
           subst eo74
           go_wp2_with (first | (go_at_call 36; (with_reducible refine (laws_eqIntS.calls kj19 _ _ t261 _ _ t250 false _ ?side1 ?side2 ?side3 ?side4 A69.out).mono ?_); (case side1 => repeat (first | exact (Kd.R_reads' HO_10.out).2.2 | with_reducible first | apply Kd.C_alloc | apply Kd.C_drewN | apply Kd.C_drew)); (case side2 => exact (Kd.R_reads' HO_10.out).2.1); (case side3 => repeat (first | exact (Kd.R_reads' HO_6.out).2.2 | with_reducible first | apply Kd.C_alloc | apply Kd.C_drewN | apply Kd.C_drew)); (case side4 => exact (Kd.R_reads' HO_6.out).2.1); rintro e w' ⟨rfl, ⟨nd, rfl⟩⟩))
           go_meet
           case rel => exact ⟨_, (true), (by first | rfl | (simp; done) | (simp [*]; done)), H', ⟨by have := HJ19.out; first | omega | exact Nat.le_refl _⟩, ⟨by (with_reducible repeat first | apply Kd.R_alloc | apply Kd.R_drewN | apply Kd.R_drew); exact HO_6.out⟩, ⟨by (with_reducible repeat first | apply Kd.R_alloc | apply Kd.R_drewN | apply Kd.R_drew); exact HO_10.out⟩, ⟨fun k_ h_ => by have q_ := HO_258000.out k_ h_; simpa using q_⟩, ⟨by (with_reducible repeat first | apply blk_drewN | apply blk_drew | apply blk_alloc); exact BK241.out⟩, ⟨by (with_reducible repeat first | apply blk_drewN | apply blk_drew | apply blk_alloc); exact BK257.out⟩, ⟨by repeat (first | (with_reducible first | exact HB.out | apply below_alloc | apply pw_below_drewN | apply below_drew1 | refine below_set ?_ GE241.out | refine below_set ?_ GE257.out) | exact HB.out)⟩⟩
        case rest =>
         clear HC56; try clear c1; try clear c2; try clear p2; try clear c3; try clear c4; try clear c4b0; try clear c5; try clear c6; try clear c7; try clear c9; try clear c9b0; try clear c19; try clear c20; try clear c26; try clear c27; try clear c29; try clear c30; try clear c35; try clear c36; try clear c39; try clear c40; try clear c41; try clear c42; try clear c47; try clear c50; try clear c53; try clear c64; try clear c68; try clear c68b0; try clear c70; try clear hcz11_0; try clear hcz22_0; try clear hcz25_0; try clear hcz31_0; try clear hcz36_0; try clear hcz38_0; try clear hcz65_0; try clear hcz6_0; try clear hfz11_0; try clear hfz22_0; try clear hfz25_0; try clear hfz31_0; try clear hfz36_0; try clear hfz38_0; try clear hfz65_0; try clear hfz6_0; try clear p2
         obtain ⟨kq, x82_55, rfl, HA, HJ55, HO_6, HO_10, HO_258000, BK241, BK257, HB⟩ := hcut
         cases kq with
         | zero => exact absurd HA.out (by simp [laws_FnExactPlayCalls.j1])
         | succ kj55 =>
          have H := HA.out; clear HA
          simp only [laws_FnExactPlayCalls.j1] at H
          by_cases c75 : x82_55 = true
          ·subst c75
           have H1 : (some false) = some r := by rw [if_pos rfl] at H; exact H
           clear H; have H := H1; clear H1
           obtain rfl := Option.some.inj H
           go_wp2
           go_ret
           exact ⟨by first | rfl | (simp [errW_none, errW_some] <;> rfl) | (simp [*, errW_none, errW_some] <;> rfl), by repeat (first | (with_reducible first | exact HB.out | apply below_alloc | apply pw_below_drewN | apply below_drew1 | refine below_set ?_ GE241.out | refine below_set ?_ GE257.out) | exact HB.out)⟩
          ·replace c75 := Bool.eq_false_iff.mpr c75
           subst c75
           have H1 : ((laws_markIntS.f kj55 t261 1).bind fun bt277 => ((laws_heldIntS.f kj55 bt277.2 1).bind fun t279 => (if t279 < 0 then (some false) else (if t279 = bt277.1 then ((laws_toDouble.f kj55 l0_0).bind fun t280 => ((laws_toCallS.f kj55 l1).bind fun t283 => ((impl_PlayCalls.f kj55 t280 t283).bind fun bt286 => ((laws_eqIntS.f kj55 bt286.1 t250).bind fun t290 => (if t290 = true then (laws_FnExactPlayCalls.j2 kj55 bt277.2 bt277.1 (bt286.2 != t253)) else (laws_FnExactPlayCalls.j2 kj55 bt277.2 bt277.1 true)))))) else (some false))))) = some r := by rw [if_neg (show ¬ (false = true) by decide)] at H; exact H
           clear H; have H := H1; clear H1
           replace H := Option.bind_eq_some_iff.mp H
           obtain ⟨⟨t277, t278⟩, A760, H⟩ := H
           replace H : ((laws_heldIntS.f kj55 t278 1).bind fun t279 => (if t279 < 0 then (some false) else (if t279 = t277 then ((laws_toDouble.f kj55 l0_0).bind fun t280 => ((laws_toCallS.f kj55 l1).bind fun t283 => ((impl_PlayCalls.f kj55 t280 t283).bind fun bt286 => ((laws_eqIntS.f kj55 bt286.1 t250).bind fun t290 => (if t290 = true then (laws_FnExactPlayCalls.j2 kj55 t278 t277 (bt286.2 != t253)) else (laws_FnExactPlayCalls.j2 kj55 t278 t277 true)))))) else (some false)))) = some r := H
           have A76 := Aside0.mk A760; clear A760
           replace H := Option.bind_eq_some_iff.mp H
           obtain ⟨t279, A770, H⟩ := H
           replace H : (if t279 < 0 then (some false) else (if t279 = t277 then ((laws_toDouble.f kj55 l0_0).bind fun t280 => ((laws_toCallS.f kj55 l1).bind fun t283 => ((impl_PlayCalls.f kj55 t280 t283).bind fun bt286 => ((laws_eqIntS.f kj55 bt286.1 t250).bind fun t290 => (if t290 = true then (laws_FnExactPlayCalls.j2 kj55 t278 t277 (bt286.2 != t253)) else (laws_FnExactPlayCalls.j2 kj55 t278 t277 true)))))) else (some false))) = some r := H
           have A77 := Aside0.mk A770; clear A770
           by_cases c78 : t279 < 0
           ·rw [if_pos c78] at H
            have c78b0 : decide (t279 < 0) = true := decide_eq_true c78
            clear c78
            obtain rfl := Option.some.inj H
            obtain ⟨Ao79, co79, eo79⟩ := Kd.R_slice HO_10.out
            subst eo79
            go_wp2_with (first | ((with_reducible refine gate_callee (f := 37) rfl ?_); refine goesL_ (some 85) rfl rfl Try.func37 (by kernel_rfl) rfl #[.slice Ao79 t261.length co79, .int .i64 1] rfl (by (try simp only [List.map_toArray, List.map_cons, List.map_nil]); first | done | rfl) ?_; (with_reducible refine (laws_markIntS.calls kj55 (fun k_ => some k_ = (.slice Ao79 t261.length co79 : Value).ownBlock) (.slice Ao79 t261.length co79) t261 1 t277 t278 w _ ?side1 ?side2 A76.out).mono ?_); (case side1 => repeat (first | (with_reducible first | exact HB.out | apply below_alloc | apply pw_below_drewN | apply below_drew1 | refine below_set ?_ GE241.out | refine below_set ?_ GE257.out) | exact HB.out)); (case side2 => exact Kd.R_tight rfl HO_10.out); rintro e w80 ⟨rfl, hy0, hb, hkp⟩; refine ⟨_, rfl, ?_⟩; replace HO_6 := Aside0.mk (Kd.R_mono (ok' := fun k_ => some k_ ≠ (.slice Ao79 t261.length co79 : Value).ownBlock) (Kd.R_keptB (HO_6.out) hkp (fun k_ hk_ hs_ => (hk_) hs_)) (fun k_ hk_ => hk_.1)); replace HO_258000 := Aside0.mk (fun k_ h_ => Nat.lt_of_lt_of_le (HO_258000.out k_ h_) hkp.1); replace BK241 := Aside0.mk (blk_kept (by (with_reducible repeat first | apply blk_drewN | apply blk_drew | apply blk_alloc); exact BK241.out) hkp (fun hs_ => (fun e_ => (Kd.R_ne HO_10.out BK241.out (by decide)) e_) hs_)); replace BK257 := Aside0.mk (blk_kept (by (with_reducible repeat first | apply blk_drewN | apply blk_drew | apply blk_alloc); exact BK257.out) hkp (fun hs_ => (fun e_ => (Kd.R_ne HO_10.out BK257.out (by decide)) e_) hs_)); replace HO_10 := Aside0.mk (Kd.R_reok rfl hy0 (fun k_ e_ => HO_10.out.1 k_ e_)); replace HB := Aside0.mk (hb); (try clear hb); (try clear hkp); (try clear hy0)) | ((with_reducible refine gate_callee (f := 38) rfl ?_); refine goesL_ (some 88) rfl rfl Try.func38 (by kernel_rfl) rfl #[.slice Ao79 t278.length co79, .int .i64 1] rfl (by (try simp only [List.map_toArray, List.map_cons, List.map_nil]); first | done | (rw [show t278.length = t261.length from (Kd.R_reads' HO_10.out).1.symm] <;> rfl) | rfl | (simp only [List.length_drop, List.length_take]; rfl)) ?_; (with_reducible refine (laws_heldIntS.calls kj55 _ _ t278 1 t279 _ ?side1 ?side2 A77.out).mono ?_); (case side1 => repeat (first | exact (Kd.R_reads' HO_10.out).2.2 | with_reducible first | apply Kd.C_alloc | apply Kd.C_drewN | apply Kd.C_drew)); (case side2 => rw [show t278.length = t261.length from (Kd.R_reads' HO_10.out).1.symm]; exact (Kd.R_reads' HO_10.out).2.1); rintro e w' ⟨rfl, ⟨nd, rfl⟩⟩; refine ⟨_, rfl, ?_⟩))
            go_ret
            exact ⟨by first | rfl | (simp [errW_none, errW_some] <;> rfl) | (simp [*, errW_none, errW_some] <;> rfl), by repeat (first | (with_reducible first | exact HB.out | apply below_alloc | apply pw_below_drewN | apply below_drew1 | refine below_set ?_ GE241.out | refine below_set ?_ GE257.out) | exact HB.out)⟩
           ·rw [if_neg c78] at H
            have c78b0 : decide (t279 < 0) = false := decide_eq_false c78
            clear c78
            by_cases c81 : t279 = t277
            ·rw [if_pos c81] at H
             have c81b0 : (t279 == t277) = true := beq_iff_eq.mpr c81
             have c81b1 : (t279 != t277) = false := bne_eq_false_iff_eq.mpr c81
             clear c81
             replace H := Option.bind_eq_some_iff.mp H
             obtain ⟨t280, A820, H⟩ := H
             replace H : ((laws_toCallS.f kj55 l1).bind fun t283 => ((impl_PlayCalls.f kj55 t280 t283).bind fun bt286 => ((laws_eqIntS.f kj55 bt286.1 t250).bind fun t290 => (if t290 = true then (laws_FnExactPlayCalls.j2 kj55 t278 t277 (bt286.2 != t253)) else (laws_FnExactPlayCalls.j2 kj55 t278 t277 true))))) = some r := H
             have A82 := Aside0.mk A820; clear A820
             replace H := Option.bind_eq_some_iff.mp H
             obtain ⟨t283, A830, H⟩ := H
             replace H : ((impl_PlayCalls.f kj55 t280 t283).bind fun bt286 => ((laws_eqIntS.f kj55 bt286.1 t250).bind fun t290 => (if t290 = true then (laws_FnExactPlayCalls.j2 kj55 t278 t277 (bt286.2 != t253)) else (laws_FnExactPlayCalls.j2 kj55 t278 t277 true)))) = some r := H
             have A83 := Aside0.mk A830; clear A830
             replace H := Option.bind_eq_some_iff.mp H
             obtain ⟨⟨t286, t289⟩, A840, H⟩ := H
             replace H : ((laws_eqIntS.f kj55 t286 t250).bind fun t290 => (if t290 = true then (laws_FnExactPlayCalls.j2 kj55 t278 t277 (t289 != t253)) else (laws_FnExactPlayCalls.j2 kj55 t278 t277 true))) = some r := H
             have A84 := Aside0.mk A840; clear A840; have HC85 := Aside0.mk H; clear H
             obtain ⟨Ao86, co86, eo86⟩ := Kd.R_slice HO_10.out
             subst eo86
             go_upto_region 32 with (first | ((with_reducible refine gate_callee (f := 37) rfl ?_); refine goesL_ (some 85) rfl rfl Try.func37 (by kernel_rfl) rfl #[.slice Ao86 t261.length co86, .int .i64 1] rfl (by (try simp only [List.map_toArray, List.map_cons, List.map_nil]); first | done | rfl) ?_; (with_reducible refine (laws_markIntS.calls kj55 (fun k_ => some k_ = (.slice Ao86 t261.length co86 : Value).ownBlock) (.slice Ao86 t261.length co86) t261 1 t277 t278 w _ ?side1 ?side2 A76.out).mono ?_); (case side1 => repeat (first | (with_reducible first | exact HB.out | apply below_alloc | apply pw_below_drewN | apply below_drew1 | refine below_set ?_ GE241.out | refine below_set ?_ GE257.out) | exact HB.out)); (case side2 => exact Kd.R_tight rfl HO_10.out); rintro e w87 ⟨rfl, hy0, hb, hkp⟩; refine ⟨_, rfl, ?_⟩; replace HO_6 := Aside0.mk (Kd.R_mono (ok' := fun k_ => some k_ ≠ (.slice Ao86 t261.length co86 : Value).ownBlock) (Kd.R_keptB (HO_6.out) hkp (fun k_ hk_ hs_ => (hk_) hs_)) (fun k_ hk_ => hk_.1)); replace HO_258000 := Aside0.mk (fun k_ h_ => Nat.lt_of_lt_of_le (HO_258000.out k_ h_) hkp.1); replace BK241 := Aside0.mk (blk_kept (by (with_reducible repeat first | apply blk_drewN | apply blk_drew | apply blk_alloc); exact BK241.out) hkp (fun hs_ => (fun e_ => (Kd.R_ne HO_10.out BK241.out (by decide)) e_) hs_)); replace BK257 := Aside0.mk (blk_kept (by (with_reducible repeat first | apply blk_drewN | apply blk_drew | apply blk_alloc); exact BK257.out) hkp (fun hs_ => (fun e_ => (Kd.R_ne HO_10.out BK257.out (by decide)) e_) hs_)); replace HO_10 := Aside0.mk (Kd.R_reok rfl hy0 (fun k_ e_ => HO_10.out.1 k_ e_)); replace HB := Aside0.mk (hb); (try clear hb); (try clear hkp); (try clear hy0)) | ((with_reducible refine gate_callee (f := 38) rfl ?_); refine goesL_ (some 88) rfl rfl Try.func38 (by kernel_rfl) rfl #[.slice Ao86 t278.length co86, .int .i64 1] rfl (by (try simp only [List.map_toArray, List.map_cons, List.map_nil]); first | done | (rw [show t278.length = t261.length from (Kd.R_reads' HO_10.out).1.symm] <;> rfl) | rfl | (simp only [List.length_drop, List.length_take]; rfl)) ?_; (with_reducible refine (laws_heldIntS.calls kj55 _ _ t278 1 t279 _ ?side1 ?side2 A77.out).mono ?_); (case side1 => repeat (first | exact (Kd.R_reads' HO_10.out).2.2 | with_reducible first | apply Kd.C_alloc | apply Kd.C_drewN | apply Kd.C_drew)); (case side2 => rw [show t278.length = t261.length from (Kd.R_reads' HO_10.out).1.symm]; exact (Kd.R_reads' HO_10.out).2.1); rintro e w' ⟨rfl, ⟨nd, rfl⟩⟩; refine ⟨_, rfl, ?_⟩; have hnb88 := NB241_257.out; have hnc88 := NB257_241.out; have hcz89_0 : w87.cell? ⟨gb241, 0, none⟩ = some (.slice A0_0 l0_0.length c0_0) := (blk_cell BK241.out 0).trans rfl; have hfz89_0 := blk_frozen BK241.out 0) | ((with_reducible refine gate_callee (f := 40) rfl ?_); refine goesL_ (some 96) rfl rfl Try.func40 (by kernel_rfl) rfl #[.agg #[.slice A0_0 l0_0.length c0_0]] rfl (by (try simp only [List.map_toArray, List.map_cons, List.map_nil]); first | done | rfl) ?_; (with_reducible refine (laws_toDouble.calls kj55 _ _ l0_0 t280 _ ?side1 ?side2 A82.out).mono ?_); (case side1 => repeat (first | exact (Kd.C_below HR0_0.out (by repeat first | (with_reducible first | exact HB.out | apply below_alloc | apply pw_below_drewN | apply below_drew1 | refine below_set ?_ GE241.out | refine below_set ?_ GE257.out) | exact HB.out)) | with_reducible first | apply Kd.C_alloc | apply Kd.C_drewN | apply Kd.C_drew)); (case side2 => exact HC0_0.out); rintro e w90 ⟨v281, rfl, ho0, hb⟩; refine ⟨_, rfl, ?_⟩; have HO282 := Aside0.mk (Kd.S_lower (Kd.S_new' (Kd.S_new' (Kd.S_new' ho0 (Kd.R_lt (by (with_reducible repeat first | apply Kd.R_alloc | apply Kd.R_drewN | apply Kd.R_drew); exact HO_6.out))) (Kd.R_lt (by (with_reducible repeat first | apply Kd.R_alloc | apply Kd.R_drewN | apply Kd.R_drew); exact HO_10.out))) HO_258000.out) (below_size (by repeat first | (with_reducible first | exact HB.out | apply below_alloc | apply pw_below_drewN | apply below_drew1 | refine below_set ?_ GE241.out | refine below_set ?_ GE257.out) | exact HB.out))); replace HO_6 := Aside0.mk (Kd.R_below (by (with_reducible repeat first | apply Kd.R_alloc | apply Kd.R_drewN | apply Kd.R_drew); exact HO_6.out) hb); replace HO_10 := Aside0.mk (Kd.R_below (by (with_reducible repeat first | apply Kd.R_alloc | apply Kd.R_drewN | apply Kd.R_drew); exact HO_10.out) hb); replace HO_258000 := Aside0.mk (fun k_ h_ => Nat.lt_of_lt_of_le (HO_258000.out k_ h_) hb.size); replace BK241 := Aside0.mk (blk_below (g := gb241) (o := .cells #[.slice A0_0 l0_0.length c0_0] 64 (0, 0)) (by (with_reducible repeat first | apply blk_drewN | apply blk_drew | apply blk_alloc); exact BK241.out) hb); replace BK257 := Aside0.mk (blk_below (g := gb257) (o := .cells #[.slice Ao34 t254.length co34] 38 (0, 0)) (by (with_reducible repeat first | apply blk_drewN | apply blk_drew | apply blk_alloc); exact BK257.out) hb); replace HB := Aside0.mk (below_step (by repeat first | (with_reducible first | exact HB.out | apply below_alloc | apply pw_below_drewN | apply below_drew1 | refine below_set ?_ GE241.out | refine below_set ?_ GE257.out) | exact HB.out) hb); (try clear hb); (try clear ho0)) | ((with_reducible refine gate_callee (f := 27) rfl ?_); refine goesL_ (some 98) rfl rfl Try.func27 (by kernel_rfl) rfl #[.slice A1 l1.length c1] rfl (by (try simp only [List.map_toArray, List.map_cons, List.map_nil]); first | done | rfl) ?_; (with_reducible refine (laws_toCallS.calls kj55 _ _ l1 t283 _ ?side1 ?side2 A83.out).mono ?_); (case side1 => repeat (first | exact (Kd.C_below HR1.out HB.out) | with_reducible first | apply Kd.C_alloc | apply Kd.C_drewN | apply Kd.C_drew)); (case side2 => exact HC1.out); rintro e w91 ⟨v284, rfl, ho0, hb⟩; refine ⟨_, rfl, ?_⟩; replace HO_258000 := Aside0.mk (fun k_ h_ => Nat.lt_of_lt_of_le (HO_258000.out k_ h_) hb.size); replace HO282 := Aside0.mk (Kd.S_below (by (with_reducible repeat first | apply Kd.S_alloc | apply Kd.S_drewN | apply Kd.S_drew); exact HO282.out) hb); have HO285 := Aside0.mk (Kd.S_lower (Kd.S_new' (Kd.S_new' ho0 (Kd.R_lt (by (with_reducible repeat first | apply Kd.R_alloc | apply Kd.R_drewN | apply Kd.R_drew); exact HO_6.out))) (Kd.R_lt (by (with_reducible repeat first | apply Kd.R_alloc | apply Kd.R_drewN | apply Kd.R_drew); exact HO_10.out))) (below_size (by repeat first | (with_reducible first | exact HB.out | apply below_alloc | apply pw_below_drewN | apply below_drew1 | refine below_set ?_ GE241.out | refine below_set ?_ GE257.out) | exact HB.out))); replace HO_6 := Aside0.mk (Kd.R_below (by (with_reducible repeat first | apply Kd.R_alloc | apply Kd.R_drewN | apply Kd.R_drew); exact HO_6.out) hb); replace HO_10 := Aside0.mk (Kd.R_below (by (with_reducible repeat first | apply Kd.R_alloc | apply Kd.R_drewN | apply Kd.R_drew); exact HO_10.out) hb); replace BK241 := Aside0.mk (blk_below (g := gb241) (o := .cells #[.slice A0_0 l0_0.length c0_0] 64 (0, 0)) (by (with_reducible repeat first | apply blk_drewN | apply blk_drew | apply blk_alloc); exact BK241.out) hb); replace BK257 := Aside0.mk (blk_below (g := gb257) (o := .cells #[.slice Ao34 t254.length co34] 38 (0, 0)) (by (with_reducible repeat first | apply blk_drewN | apply blk_drew | apply blk_alloc); exact BK257.out) hb); replace HB := Aside0.mk (below_step (by repeat first | (with_reducible first | exact HB.out | apply below_alloc | apply pw_below_drewN | apply below_drew1 | refine below_set ?_ GE241.out | refine below_set ?_ GE257.out) | exact HB.out) hb); (try clear hb); (try clear ho0); obtain ⟨Ao92, co92, eo92⟩ := Kd.S_slice HO282.out; subst eo92; obtain ⟨Ao93, co93, eo93⟩ := Kd.S_slice HO285.out; subst eo93) | ((with_reducible refine gate_callee (f := 19) rfl ?_); refine goesL_ (some 99) rfl rfl Try.func19 (by kernel_rfl) rfl #[.agg #[.slice Ao92 t280.length co92], .slice Ao93 t283.length co93] rfl (by (try simp only [List.map_toArray, List.map_cons, List.map_nil]); first | done | rfl) ?_; (with_reducible refine (impl_PlayCalls.calls kj55 _ _ t280 _ _ t283 t286 t289 _ ?side1 ?side2 ?side3 ?side4 A84.out).mono ?_); (case side1 => repeat (first | exact (Kd.S_reads' HO282.out).2.2 | with_reducible first | apply Kd.C_alloc | apply Kd.C_drewN | apply Kd.C_drew)); (case side2 => exact (Kd.S_reads' HO282.out).2.1); (case side3 => repeat (first | exact (Kd.S_reads' HO285.out).2.2 | with_reducible first | apply Kd.C_alloc | apply Kd.C_drewN | apply Kd.C_drew)); (case side4 => exact (Kd.S_reads' HO285.out).2.1); rintro e w94 ⟨v287, rfl, ho0, hb⟩; refine ⟨_, rfl, ?_⟩; replace HO_258000 := Aside0.mk (fun k_ h_ => Nat.lt_of_lt_of_le (HO_258000.out k_ h_) hb.size); replace HO282 := Aside0.mk (Kd.S_elder' (by (with_reducible repeat first | apply Kd.S_alloc | apply Kd.S_drewN | apply Kd.S_drew); exact HO282.out) (Kd.R_base ho0) hb); replace HO285 := Aside0.mk (Kd.S_elder' (by (with_reducible repeat first | apply Kd.S_alloc | apply Kd.S_drewN | apply Kd.S_drew); exact HO285.out) (Kd.R_base ho0) hb); have HO288 := Aside0.mk (Kd.R_lower (Kd.R_new' (Kd.R_new' ho0 (Kd.R_lt (by (with_reducible repeat first | apply Kd.R_alloc | apply Kd.R_drewN | apply Kd.R_drew); exact HO_6.out))) (Kd.R_lt (by (with_reducible repeat first | apply Kd.R_alloc | apply Kd.R_drewN | apply Kd.R_drew); exact HO_10.out))) (below_size (by repeat first | (with_reducible first | exact HB.out | apply below_alloc | apply pw_below_drewN | apply below_drew1 | refine below_set ?_ GE241.out | refine below_set ?_ GE257.out) | exact HB.out))); replace HO_6 := Aside0.mk (Kd.R_elder' (by (with_reducible repeat first | apply Kd.R_alloc | apply Kd.R_drewN | apply Kd.R_drew); exact HO_6.out) (Kd.R_base ho0) hb); replace HO_10 := Aside0.mk (Kd.R_elder' (by (with_reducible repeat first | apply Kd.R_alloc | apply Kd.R_drewN | apply Kd.R_drew); exact HO_10.out) (Kd.R_base ho0) hb); replace BK241 := Aside0.mk (blk_below (g := gb241) (o := .cells #[.slice A0_0 l0_0.length c0_0] 64 (0, 0)) (by (with_reducible repeat first | apply blk_drewN | apply blk_drew | apply blk_alloc); exact BK241.out) hb); replace BK257 := Aside0.mk (blk_below (g := gb257) (o := .cells #[.slice Ao34 t254.length co34] 38 (0, 0)) (by (with_reducible repeat first | apply blk_drewN | apply blk_drew | apply blk_alloc); exact BK257.out) hb); replace HB := Aside0.mk (below_step (by repeat first | (with_reducible first | exact HB.out | apply below_alloc | apply pw_below_drewN | apply below_drew1 | refine below_set ?_ GE241.out | refine below_set ?_ GE257.out) | exact HB.out) hb); (try clear hb); (try clear ho0)))
             (try simp only [Act.put, List.setIfInBounds_toArray, List.set_cons_zero, List.set_cons_succ])
             go_cut [110] (fun v110 wc => ∃ (kq : Nat) (x110_84 : Bool), v110 = .bool x110_84 ∧ Aside0 (laws_FnExactPlayCalls.j2 kq t278 t277 x110_84 = some r) ∧ Aside0 (kq ≤ kj55) ∧ Aside0 (Kd.R (Kd.int .i64) 3 wc w.heap.size (fun _ => True) (.slice Ao86 t261.length co86) t278) ∧ Aside0 (∀ k_, (.slice Ao34 t254.length co34 : Value).ownBlock = some k_ → k_ < wc.heap.size) ∧ Aside0 (wc.heap[gb241]? = some (.cells #[(.slice A0_0 l0_0.length c0_0)] 64 (0, 0))) ∧ Aside0 (wc.heap[gb257]? = some (.cells #[(.slice Ao34 t254.length co34)] 38 (0, 0))) ∧ Aside0 (Below w.heap.size w wc))
             case first =>
              have H := HC85.out; clear HC85
              replace H := Option.bind_eq_some_iff.mp H
              obtain ⟨t290, A950, H⟩ := H
              replace H : (if t290 = true then (laws_FnExactPlayCalls.j2 kj55 t278 t277 (t289 != t253)) else (laws_FnExactPlayCalls.j2 kj55 t278 t277 true)) = some r := H
              have A95 := Aside0.mk A950; clear A950
              by_cases c96 : t290 = true
              ·subst c96
               have H1 : (laws_FnExactPlayCalls.j2 kj55 t278 t277 (t289 != t253)) = some r := by rw [if_pos rfl] at H; exact H
               clear H; have H := H1; clear H1; have H' := Aside0.mk H; clear H
               obtain ⟨Ao97, co97, eo97⟩ := Kd.R_slice HO288.out
               subst eo97
               obtain ⟨Ao98, co98, eo98⟩ := Kd.R_slice HO_6.out
               subst eo98
               go_wp2_with (first | ((with_reducible refine gate_callee (f := 36) rfl ?_); refine goesL_ (some 104) rfl rfl Try.func36 (by kernel_rfl) rfl #[.slice Ao97 t286.length co97, .slice Ao98 t250.length co98] rfl (by (try simp only [List.map_toArray, List.map_cons, List.map_nil]); first | done | rfl) ?_; (with_reducible refine (laws_eqIntS.calls kj55 _ _ t286 _ _ t250 true _ ?side1 ?side2 ?side3 ?side4 A95.out).mono ?_); (case side1 => repeat (first | exact (Kd.R_reads' HO288.out).2.2 | with_reducible first | apply Kd.C_alloc | apply Kd.C_drewN | apply Kd.C_drew)); (case side2 => exact (Kd.R_reads' HO288.out).2.1); (case side3 => repeat (first | exact (Kd.R_reads' HO_6.out).2.2 | with_reducible first | apply Kd.C_alloc | apply Kd.C_drewN | apply Kd.C_drew)); (case side4 => exact (Kd.R_reads' HO_6.out).2.1); rintro e w' ⟨rfl, ⟨nd, rfl⟩⟩; refine ⟨_, rfl, ?_⟩))
               go_meet
               case rel => exact ⟨_, ((t289 != t253)), (by first | rfl | (simp; done) | (simp [*]; done)), H', ⟨by have := HJ19.out; have := HJ55.out; first | omega | exact Nat.le_refl _⟩, ⟨by (with_reducible repeat first | apply Kd.R_alloc | apply Kd.R_drewN | apply Kd.R_drew); exact Kd.R_mono HO_10.out (fun _ hk => trivial)⟩, ⟨fun k_ h_ => by have q_ := HO_258000.out k_ h_; simpa using q_⟩, ⟨by (with_reducible repeat first | apply blk_drewN | apply blk_drew | apply blk_alloc); exact BK241.out⟩, ⟨by (with_reducible repeat first | apply blk_drewN | apply blk_drew | apply blk_alloc); exact BK257.out⟩, ⟨by repeat (first | (with_reducible first | exact HB.out | apply below_alloc | apply pw_below_drewN | apply below_drew1 | refine below_set ?_ GE241.out | refine below_set ?_ GE257.out) | exact HB.out)⟩⟩
              ·replace c96 := Bool.eq_false_iff.mpr c96
               subst c96
               have H1 : (laws_FnExactPlayCalls.j2 kj55 t278 t277 true) = some r := by rw [if_neg (show ¬ (false = true) by decide)] at H; exact H
               clear H; have H := H1; clear H1; have H' := Aside0.mk H; clear H
               obtain ⟨Ao99, co99, eo99⟩ := Kd.R_slice HO288.out
               subst eo99
               obtain ⟨Ao100, co100, eo100⟩ := Kd.R_slice HO_6.out
               subst eo100
               go_wp2_with (first | ((with_reducible refine gate_callee (f := 36) rfl ?_); refine goesL_ (some 104) rfl rfl Try.func36 (by kernel_rfl) rfl #[.slice Ao99 t286.length co99, .slice Ao100 t250.length co100] rfl (by (try simp only [List.map_toArray, List.map_cons, List.map_nil]); first | done | rfl) ?_; (with_reducible refine (laws_eqIntS.calls kj55 _ _ t286 _ _ t250 false _ ?side1 ?side2 ?side3 ?side4 A95.out).mono ?_); (case side1 => repeat (first | exact (Kd.R_reads' HO288.out).2.2 | with_reducible first | apply Kd.C_alloc | apply Kd.C_drewN | apply Kd.C_drew)); (case side2 => exact (Kd.R_reads' HO288.out).2.1); (case side3 => repeat (first | exact (Kd.R_reads' HO_6.out).2.2 | with_reducible first | apply Kd.C_alloc | apply Kd.C_drewN | apply Kd.C_drew)); (case side4 => exact (Kd.R_reads' HO_6.out).2.1); rintro e w' ⟨rfl, ⟨nd, rfl⟩⟩; refine ⟨_, rfl, ?_⟩))
               go_meet
               case rel => exact ⟨_, (true), (by first | rfl | (simp; done) | (simp [*]; done)), H', ⟨by have := HJ19.out; have := HJ55.out; first | omega | exact Nat.le_refl _⟩, ⟨by (with_reducible repeat first | apply Kd.R_alloc | apply Kd.R_drewN | apply Kd.R_drew); exact Kd.R_mono HO_10.out (fun _ hk => trivial)⟩, ⟨fun k_ h_ => by have q_ := HO_258000.out k_ h_; simpa using q_⟩, ⟨by (with_reducible repeat first | apply blk_drewN | apply blk_drew | apply blk_alloc); exact BK241.out⟩, ⟨by (with_reducible repeat first | apply blk_drewN | apply blk_drew | apply blk_alloc); exact BK257.out⟩, ⟨by repeat (first | (with_reducible first | exact HB.out | apply below_alloc | apply pw_below_drewN | apply below_drew1 | refine below_set ?_ GE241.out | refine below_set ?_ GE257.out) | exact HB.out)⟩⟩
             case rest =>
              clear HC85; try clear c1; try clear c2; try clear p2; try clear c3; try clear c4; try clear c4b0; try clear c5; try clear c6; try clear c7; try clear c8; try clear c9; try clear c9b0; try clear c19; try clear c20; try clear c26; try clear c27; try clear c29; try clear c30; try clear c35; try clear c36; try clear c37; try clear c38; try clear c39; try clear c40; try clear c41; try clear c42; try clear c47; try clear c50; try clear c53; try clear c64; try clear c68; try clear c68b0; try clear c70; try clear c75; try clear c78; try clear c78b0; try clear c81; try clear c81b0; try clear c81b1; try clear c88; try clear c96; try clear hcz11_0; try clear hcz22_0; try clear hcz25_0; try clear hcz31_0; try clear hcz36_0; try clear hcz38_0; try clear hcz65_0; try clear hcz6_0; try clear hcz89_0; try clear hfz11_0; try clear hfz22_0; try clear hfz25_0; try clear hfz31_0; try clear hfz36_0; try clear hfz38_0; try clear hfz65_0; try clear hfz6_0; try clear hfz89_0; try clear p2
              obtain ⟨kq, x110_84, rfl, HA, HJ84, HO_10, HO_258000, BK241, BK257, HB⟩ := hcut
              have hl10_84 := (Kd.R_reads' HO_10.out).1
              rw [hl10_84] at HO_10
              (try simp only [hl10_84])
              (try simp only [hl10_84] at BK241)
              (try simp only [hl10_84] at BK257)
              (try simp only [hl10_84] at HO_258000)
              cases kq with
              | zero => exact absurd HA.out (by simp [laws_FnExactPlayCalls.j2])
              | succ kj84 =>
               have H := HA.out; clear HA
               simp only [laws_FnExactPlayCalls.j2] at H
               by_cases c101 : x110_84 = true
               ·subst c101
                have H1 : (some false) = some r := by rw [if_pos rfl] at H; exact H
                clear H; have H := H1; clear H1
                obtain rfl := Option.some.inj H
                go_wp2
                go_ret
                exact ⟨by first | rfl | (simp [errW_none, errW_some] <;> rfl) | (simp [*, errW_none, errW_some] <;> rfl), by repeat (first | (with_reducible first | exact HB.out | apply below_alloc | apply pw_below_drewN | apply below_drew1 | refine below_set ?_ GE241.out | refine below_set ?_ GE257.out) | exact HB.out)⟩
               ·replace c101 := Bool.eq_false_iff.mpr c101
                subst c101
                have H1 : ((laws_heldIntS.f kj84 t278 1).bind fun t291 => (if t291 < 0 then (some false) else (if t291 = t277 then (some true) else (some false)))) = some r := by rw [if_neg (show ¬ (false = true) by decide)] at H; exact H
                clear H; have H := H1; clear H1
                replace H := Option.bind_eq_some_iff.mp H
                obtain ⟨t291, A1020, H⟩ := H
                replace H : (if t291 < 0 then (some false) else (if t291 = t277 then (some true) else (some false))) = some r := H
                have A102 := Aside0.mk A1020; clear A1020
                by_cases c103 : t291 < 0
                ·rw [if_pos c103] at H
                 have c103b0 : decide (t291 < 0) = true := decide_eq_true c103
                 clear c103
                 obtain rfl := Option.some.inj H
                 go_wp2_with (first | ((with_reducible refine gate_callee (f := 38) rfl ?_); refine goesL_ (some 113) rfl rfl Try.func38 (by kernel_rfl) rfl #[.slice Ao86 t278.length co86, .int .i64 1] rfl (by (try simp only [List.map_toArray, List.map_cons, List.map_nil]); first | done | rfl) ?_; (with_reducible refine (laws_heldIntS.calls kj84 _ _ t278 1 t291 _ ?side1 ?side2 A102.out).mono ?_); (case side1 => repeat (first | exact (Kd.R_reads' HO_10.out).2.2 | with_reducible first | apply Kd.C_alloc | apply Kd.C_drewN | apply Kd.C_drew)); (case side2 => exact (Kd.R_reads' HO_10.out).2.1); rintro e w' ⟨rfl, ⟨nd, rfl⟩⟩; refine ⟨_, rfl, ?_⟩))
                 go_ret
                 exact ⟨by first | rfl | (simp [errW_none, errW_some] <;> rfl) | (simp [*, errW_none, errW_some] <;> rfl), by repeat (first | (with_reducible first | exact HB.out | apply below_alloc | apply pw_below_drewN | apply below_drew1 | refine below_set ?_ GE241.out | refine below_set ?_ GE257.out) | exact HB.out)⟩
                ·rw [if_neg c103] at H
                 have c103b0 : decide (t291 < 0) = false := decide_eq_false c103
                 clear c103
                 by_cases c104 : t291 = t277
                 ·rw [if_pos c104] at H
                  have c104b0 : (t291 == t277) = true := beq_iff_eq.mpr c104
                  have c104b1 : (t291 != t277) = false := bne_eq_false_iff_eq.mpr c104
                  clear c104
                  obtain rfl := Option.some.inj H
                  go_wp2_with (first | ((with_reducible refine gate_callee (f := 38) rfl ?_); refine goesL_ (some 113) rfl rfl Try.func38 (by kernel_rfl) rfl #[.slice Ao86 t278.length co86, .int .i64 1] rfl (by (try simp only [List.map_toArray, List.map_cons, List.map_nil]); first | done | rfl) ?_; (with_reducible refine (laws_heldIntS.calls kj84 _ _ t278 1 t291 _ ?side1 ?side2 A102.out).mono ?_); (case side1 => repeat (first | exact (Kd.R_reads' HO_10.out).2.2 | with_reducible first | apply Kd.C_alloc | apply Kd.C_drewN | apply Kd.C_drew)); (case side2 => exact (Kd.R_reads' HO_10.out).2.1); rintro e w' ⟨rfl, ⟨nd, rfl⟩⟩; refine ⟨_, rfl, ?_⟩))
                  go_ret
                  exact ⟨by first | rfl | (simp [errW_none, errW_some] <;> rfl) | (simp [*, errW_none, errW_some] <;> rfl), by repeat (first | (with_reducible first | exact HB.out | apply below_alloc | apply pw_below_drewN | apply below_drew1 | refine below_set ?_ GE241.out | refine below_set ?_ GE257.out) | exact HB.out)⟩
                 ·rw [if_neg c104] at H
                  have c104b0 : (t291 == t277) = false := beq_eq_false_iff_ne.mpr c104
                  have c104b1 : (t291 != t277) = true := bne_iff_ne.mpr c104
                  obtain rfl := Option.some.inj H
                  go_wp2_with (first | ((with_reducible refine gate_callee (f := 38) rfl ?_); refine goesL_ (some 113) rfl rfl Try.func38 (by kernel_rfl) rfl #[.slice Ao86 t278.length co86, .int .i64 1] rfl (by (try simp only [List.map_toArray, List.map_cons, List.map_nil]); first | done | rfl) ?_; (with_reducible refine (laws_heldIntS.calls kj84 _ _ t278 1 t291 _ ?side1 ?side2 A102.out).mono ?_); (case side1 => repeat (first | exact (Kd.R_reads' HO_10.out).2.2 | with_reducible first | apply Kd.C_alloc | apply Kd.C_drewN | apply Kd.C_drew)); (case side2 => exact (Kd.R_reads' HO_10.out).2.1); rintro e w' ⟨rfl, ⟨nd, rfl⟩⟩; refine ⟨_, rfl, ?_⟩))
                  go_ret
                  exact ⟨by first | rfl | (simp [errW_none, errW_some] <;> rfl) | (simp [*, errW_none, errW_some] <;> rfl), by repeat (first | (with_reducible first | exact HB.out | apply below_alloc | apply pw_below_drewN | apply below_drew1 | refine below_set ?_ GE241.out | refine below_set ?_ GE257.out) | exact HB.out)⟩
            ·rw [if_neg c81] at H
             have c81b0 : (t279 == t277) = false := beq_eq_false_iff_ne.mpr c81
             have c81b1 : (t279 != t277) = true := bne_iff_ne.mpr c81
             obtain rfl := Option.some.inj H
             obtain ⟨Ao105, co105, eo105⟩ := Kd.R_slice HO_10.out
             subst eo105
             go_wp2_with (first | ((with_reducible refine gate_callee (f := 37) rfl ?_); refine goesL_ (some 85) rfl rfl Try.func37 (by kernel_rfl) rfl #[.slice Ao105 t261.length co105, .int .i64 1] rfl (by (try simp only [List.map_toArray, List.map_cons, List.map_nil]); first | done | rfl) ?_; (with_reducible refine (laws_markIntS.calls kj55 (fun k_ => some k_ = (.slice Ao105 t261.length co105 : Value).ownBlock) (.slice Ao105 t261.length co105) t261 1 t277 t278 w _ ?side1 ?side2 A76.out).mono ?_); (case side1 => repeat (first | (with_reducible first | exact HB.out | apply below_alloc | apply pw_below_drewN | apply below_drew1 | refine below_set ?_ GE241.out | refine below_set ?_ GE257.out) | exact HB.out)); (case side2 => exact Kd.R_tight rfl HO_10.out); rintro e w106 ⟨rfl, hy0, hb, hkp⟩; refine ⟨_, rfl, ?_⟩; replace HO_6 := Aside0.mk (Kd.R_mono (ok' := fun k_ => some k_ ≠ (.slice Ao105 t261.length co105 : Value).ownBlock) (Kd.R_keptB (HO_6.out) hkp (fun k_ hk_ hs_ => (hk_) hs_)) (fun k_ hk_ => hk_.1)); replace HO_258000 := Aside0.mk (fun k_ h_ => Nat.lt_of_lt_of_le (HO_258000.out k_ h_) hkp.1); replace BK241 := Aside0.mk (blk_kept (by (with_reducible repeat first | apply blk_drewN | apply blk_drew | apply blk_alloc); exact BK241.out) hkp (fun hs_ => (fun e_ => (Kd.R_ne HO_10.out BK241.out (by decide)) e_) hs_)); replace BK257 := Aside0.mk (blk_kept (by (with_reducible repeat first | apply blk_drewN | apply blk_drew | apply blk_alloc); exact BK257.out) hkp (fun hs_ => (fun e_ => (Kd.R_ne HO_10.out BK257.out (by decide)) e_) hs_)); replace HO_10 := Aside0.mk (Kd.R_reok rfl hy0 (fun k_ e_ => HO_10.out.1 k_ e_)); replace HB := Aside0.mk (hb); (try clear hb); (try clear hkp); (try clear hy0)) | ((with_reducible refine gate_callee (f := 38) rfl ?_); refine goesL_ (some 88) rfl rfl Try.func38 (by kernel_rfl) rfl #[.slice Ao105 t278.length co105, .int .i64 1] rfl (by (try simp only [List.map_toArray, List.map_cons, List.map_nil]); first | done | (rw [show t278.length = t261.length from (Kd.R_reads' HO_10.out).1.symm] <;> rfl) | rfl | (simp only [List.length_drop, List.length_take]; rfl)) ?_; (with_reducible refine (laws_heldIntS.calls kj55 _ _ t278 1 t279 _ ?side1 ?side2 A77.out).mono ?_); (case side1 => repeat (first | exact (Kd.R_reads' HO_10.out).2.2 | with_reducible first | apply Kd.C_alloc | apply Kd.C_drewN | apply Kd.C_drew)); (case side2 => rw [show t278.length = t261.length from (Kd.R_reads' HO_10.out).1.symm]; exact (Kd.R_reads' HO_10.out).2.1); rintro e w' ⟨rfl, ⟨nd, rfl⟩⟩; refine ⟨_, rfl, ?_⟩))
             go_ret
             exact ⟨by first | rfl | (simp [errW_none, errW_some] <;> rfl) | (simp [*, errW_none, errW_some] <;> rfl), by repeat (first | (with_reducible first | exact HB.out | apply below_alloc | apply pw_below_drewN | apply below_drew1 | refine below_set ?_ GE241.out | refine below_set ?_ GE257.out) | exact HB.out)⟩
       ·replace c53 := Bool.eq_false_iff.mpr c53
        subst c53
        have H1 : (some false) = some r := by rw [if_neg (show ¬ (false = true) by decide)] at H; exact H
        clear H; have H := H1; clear H1
        obtain rfl := Option.some.inj H
        try go_wp2
        replace HX0 := Aside0.mk (Kd.S_drew HX0.out)
        replace HX1 := Aside0.mk (Kd.S_drew HX1.out)
        replace HO_6 := Aside0.mk (Kd.R_drew HO_6.out); replace HO_9 := Aside0.mk (Kd.S_drew HO_9.out); replace HO_10 := Aside0.mk (Kd.R_drew HO_10.out); replace HO_258000 := Aside0.mk (Kd.S_drew HO_258000.out); replace BK241 := Aside0.mk (blk_drew BK241.out); replace BK257 := Aside0.mk (blk_drew BK257.out); replace HB := Aside0.mk (below_drew1 HB.out)
        refine start_ (n := 5) (S := fun w' => w'.cell? ⟨gb257, 0, none⟩ = some (.slice Ao34 t254.length co34) ∧ w'.cell? ⟨gb241, 0, none⟩ = some (.slice A0_0 l0_0.length c0_0)) (ds := []) #[ff,ff,ff,ff,ff] (by kernel_rfl) rfl rfl ⟨(blk_cell BK257.out 0).trans rfl, (blk_cell BK241.out 0).trans rfl⟩ (fun hHeld => ?_)
        generalize wc.drew = w107 at HO_6 HO_9 HO_10 HO_258000 BK241 BK257 HB HX0 HX1 hHeld ⊢
        refine take_ (i := 0) (N := some 54) (v := ?_) (a' := ?_) #[tt,ff,ff,ff,ff] rfl rfl (by kernel_rfl) (fun _ _ _ h => h) (Or.inl ⟨by rfl, ?_⟩) hHeld ?_ ?_
        rotate_left
        ·rintro w' ⟨s0, s1⟩
         go_simp
         with_reducible rfl
        rotate_left
        ·simp only [Act.put, ps_]
         rfl
        refine take_ (i := 1) (N := some 55) (v := ?_) (a' := ?_) #[tt,tt,ff,ff,ff] rfl rfl (by kernel_rfl) (fun _ _ _ h => h) (Or.inl ⟨by rfl, ?_⟩) hHeld ?_ ?_
        rotate_left
        ·rintro w' ⟨s0, s1⟩
         go_simp
         with_reducible rfl
        rotate_left
        ·simp only [Act.put, ps_]
         rfl
        refine one_ (i := 2) (N := some 56) #[tt,tt,tt,ff,ff] rfl rfl (by kernel_rfl) (by decide) (fun K hK => ?_)
        refine goes_ Try.func40 (by kernel_rfl) rfl #[.agg #[.slice A0_0 l0_0.length c0_0]] (by rfl) rfl rfl (by (try simp only [List.map_toArray, List.map_cons, List.map_nil]); first | done | rfl) ?_
        with_reducible refine (laws_toDouble.calls kj19 _ _ l0_0 t266 _ ?side1 ?side2 A48.out).mono ?_
        (case side1 => repeat (first | exact (Kd.C_below HR0_0.out HB.out) | with_reducible first | apply Kd.C_alloc | apply Kd.C_drewN | apply Kd.C_drew))
        (case side2 => exact HC0_0.out)
        rintro e w108 ⟨v267, rfl, ho0, hb⟩
        refine ⟨_, rfl, ?_⟩
        replace HX0 := Aside0.mk (Kd.S_below (by (with_reducible repeat first | apply Kd.S_alloc | apply Kd.S_drewN | apply Kd.S_drew); exact HX0.out) hb)
        replace HX1 := Aside0.mk (Kd.S_below (by (with_reducible repeat first | apply Kd.S_alloc | apply Kd.S_drewN | apply Kd.S_drew); exact HX1.out) hb)
        have n0_ := Aside0.mk (Kd.R_below (by (with_reducible repeat first | apply Kd.R_alloc | apply Kd.R_drewN | apply Kd.R_drew); exact HO_6.out) hb)
        have n1_ := Aside0.mk (Kd.S_below (by (with_reducible repeat first | apply Kd.S_alloc | apply Kd.S_drewN | apply Kd.S_drew); exact HO_9.out) hb)
        have n2_ := Aside0.mk (Kd.R_below (by (with_reducible repeat first | apply Kd.R_alloc | apply Kd.R_drewN | apply Kd.R_drew); exact HO_10.out) hb)
        have n3_ := Aside0.mk (Kd.S_elder' (by (with_reducible repeat first | apply Kd.S_alloc | apply Kd.S_drewN | apply Kd.S_drew); exact HO_258000.out) (Kd.S_base ho0) hb)
        have n4_ := Aside0.mk (Kd.S_lower (Kd.S_new' (Kd.S_new' (Kd.S_new' ho0 (Kd.R_lt (by (with_reducible repeat first | apply Kd.R_alloc | apply Kd.R_drewN | apply Kd.R_drew); exact HO_6.out))) (Kd.R_lt (by (with_reducible repeat first | apply Kd.R_alloc | apply Kd.R_drewN | apply Kd.R_drew); exact HO_10.out))) (Kd.S_lt (by (with_reducible repeat first | apply Kd.S_alloc | apply Kd.S_drewN | apply Kd.S_drew); exact HO_258000.out))) (below_size (by repeat first | (with_reducible first | exact HB.out | apply below_alloc | apply pw_below_drewN | apply below_drew1 | refine below_set ?_ GE241.out | refine below_set ?_ GE257.out) | exact HB.out)))
        have n5_ := Aside0.mk (blk_below (g := gb241) (o := .cells #[.slice A0_0 l0_0.length c0_0] 64 (0, 0)) (by (with_reducible repeat first | apply blk_drewN | apply blk_drew | apply blk_alloc); exact BK241.out) hb)
        have n6_ := Aside0.mk (blk_below (g := gb257) (o := .cells #[.slice Ao34 t254.length co34] 38 (0, 0)) (by (with_reducible repeat first | apply blk_drewN | apply blk_drew | apply blk_alloc); exact BK257.out) hb)
        have n7_ := Aside0.mk (below_step (by repeat first | (with_reducible first | exact HB.out | apply below_alloc | apply pw_below_drewN | apply below_drew1 | refine below_set ?_ GE241.out | refine below_set ?_ GE257.out) | exact HB.out) hb); clear HO_6 HO_9 HO_10 HO_258000 BK241 BK257 HB; have HO_6 := n0_; have HO_9 := n1_; have HO_10 := n2_; have HO_258000 := n3_; have HO268 := n4_; have BK241 := n5_; have BK257 := n6_; have HB := n7_; clear n0_ n1_ n2_ n3_ n4_ n5_ n6_ n7_
        (try clear hb)
        (try clear hb2)
        (try clear hk)
        (try clear hi)
        (try clear ho0)
        obtain ⟨Ao109, co109, eo109⟩ := Kd.S_slice HO268.out
        (first | subst eo109 | (injection eo109 with f1_ f2_ f3_; have f4_ := f1_.symm; have f5_ := f3_.symm; clear f1_ f2_ f3_; subst f4_; subst f5_))
        refine hK.out _ _ ⟨(blk_cell BK257.out 0).trans rfl, (blk_cell BK241.out 0).trans rfl⟩ (fun hHeld => ?_)
        clear hK K
        refine norm_ (a' := ?_) ?_ ?_
        rotate_left
        ·show Act.put _ (some 56) _ = _
         simp only [Act.put, ps_]
         rfl
        refine one_ (i := 3) (N := some 57) #[tt,tt,tt,tt,ff] rfl rfl (by kernel_rfl) (by decide) (fun K hK => ?_)
        refine goes_ Try.func41 (by kernel_rfl) rfl #[.agg #[.slice Ao34 t254.length co34], .agg #[.slice Ao109 t266.length co109]] (by rfl) rfl rfl (by (try simp only [List.map_toArray, List.map_cons, List.map_nil]); first | done | rfl) ?_
        with_reducible refine (laws_eqDouble.calls kj19 _ _ t254 _ _ t266 true _ ?side1 ?side2 ?side3 ?side4 A49.out).mono ?_
        (case side1 => repeat (first | exact (Kd.S_reads' HO_258000.out).2.2 | with_reducible first | apply Kd.C_alloc | apply Kd.C_drewN | apply Kd.C_drew))
        (case side2 => exact (Kd.S_reads' HO_258000.out).2.1)
        (case side3 => repeat (first | exact (Kd.S_reads' HO268.out).2.2 | with_reducible first | apply Kd.C_alloc | apply Kd.C_drewN | apply Kd.C_drew))
        (case side4 => exact (Kd.S_reads' HO268.out).2.1)
        rintro e w110 ⟨rfl, hb⟩
        refine ⟨_, rfl, ?_⟩
        replace HX0 := Aside0.mk (Kd.S_below (by (with_reducible repeat first | apply Kd.S_alloc | apply Kd.S_drewN | apply Kd.S_drew); exact HX0.out) hb)
        replace HX1 := Aside0.mk (Kd.S_below (by (with_reducible repeat first | apply Kd.S_alloc | apply Kd.S_drewN | apply Kd.S_drew); exact HX1.out) hb)
        have n0_ := Aside0.mk (Kd.R_below (by (with_reducible repeat first | apply Kd.R_alloc | apply Kd.R_drewN | apply Kd.R_drew); exact HO_6.out) hb)
        have n1_ := Aside0.mk (Kd.S_below (by (with_reducible repeat first | apply Kd.S_alloc | apply Kd.S_drewN | apply Kd.S_drew); exact HO_9.out) hb)
        have n2_ := Aside0.mk (Kd.R_below (by (with_reducible repeat first | apply Kd.R_alloc | apply Kd.R_drewN | apply Kd.R_drew); exact HO_10.out) hb)
        have n3_ := Aside0.mk (Kd.S_below (by (with_reducible repeat first | apply Kd.S_alloc | apply Kd.S_drewN | apply Kd.S_drew); exact HO_258000.out) hb)
        have n4_ := Aside0.mk (Kd.S_below (by (with_reducible repeat first | apply Kd.S_alloc | apply Kd.S_drewN | apply Kd.S_drew); exact HO268.out) hb)
        have n5_ := Aside0.mk (blk_below (g := gb241) (o := .cells #[.slice A0_0 l0_0.length c0_0] 64 (0, 0)) (by (with_reducible repeat first | apply blk_drewN | apply blk_drew | apply blk_alloc); exact BK241.out) hb)
        have n6_ := Aside0.mk (blk_below (g := gb257) (o := .cells #[.slice Ao34 t254.length co34] 38 (0, 0)) (by (with_reducible repeat first | apply blk_drewN | apply blk_drew | apply blk_alloc); exact BK257.out) hb)
        have n7_ := Aside0.mk (below_step (by repeat first | (with_reducible first | exact HB.out | apply below_alloc | apply pw_below_drewN | apply below_drew1 | refine below_set ?_ GE241.out | refine below_set ?_ GE257.out) | exact HB.out) hb); clear HO_6 HO_9 HO_10 HO_258000 HO268 BK241 BK257 HB; have HO_6 := n0_; have HO_9 := n1_; have HO_10 := n2_; have HO_258000 := n3_; have HO268 := n4_; have BK241 := n5_; have BK257 := n6_; have HB := n7_; clear n0_ n1_ n2_ n3_ n4_ n5_ n6_ n7_
        (try clear hb)
        (try clear hb2)
        (try clear hk)
        (try clear hi)
        refine hK.out _ _ ⟨(blk_cell BK257.out 0).trans rfl, (blk_cell BK241.out 0).trans rfl⟩ (fun hHeld => ?_)
        clear hK K
        refine norm_ (a' := ?_) ?_ ?_
        rotate_left
        ·show Act.put _ (some 57) _ = _
         simp only [Act.put, ps_]
         rfl
        refine pure_ (i := 4) (N := some 58) (v := ?_) (a' := ?_) #[tt,tt,tt,tt,tt] rfl rfl (by kernel_rfl) (fun _ _ _ h => h) (Or.inl ⟨by rfl, ?_⟩) ?_ ?_
        rotate_left
        ·intro w'
         go_simp
         with_reducible rfl
        rotate_left
        ·simp only [Act.put, ps_]
         rfl
        refine done_ (by kernel_rfl) ?_
        try go_wp2_with (first | ((with_reducible refine gate_callee (f := 27) rfl ?_); refine goesL_ (some 61) rfl rfl Try.func27 (by kernel_rfl) rfl #[.slice A1 l1.length c1] rfl (by (try simp only [List.map_toArray, List.map_cons, List.map_nil]); first | done | rfl) ?_; (with_reducible refine (laws_toCallS.calls kj19 _ _ l1 t270 _ ?side1 ?side2 A51.out).mono ?_); (case side1 => repeat (first | exact (Kd.C_below HR1.out HB.out) | with_reducible first | apply Kd.C_alloc | apply Kd.C_drewN | apply Kd.C_drew)); (case side2 => exact HC1.out); rintro e w111 ⟨v271, rfl, ho0, hb⟩; refine ⟨_, rfl, ?_⟩; have nX_ := Aside0.mk (Kd.S_below (by (with_reducible repeat first | apply Kd.S_alloc | apply Kd.S_drewN | apply Kd.S_drew); exact HX0.out) hb); clear HX0; have HX0 := nX_; clear nX_; have nX_ := Aside0.mk (Kd.S_below (by (with_reducible repeat first | apply Kd.S_alloc | apply Kd.S_drewN | apply Kd.S_drew); exact HX1.out) hb); clear HX1; have HX1 := nX_; clear nX_; replace HO_258000 := Aside0.mk (Kd.S_below (by (with_reducible repeat first | apply Kd.S_alloc | apply Kd.S_drewN | apply Kd.S_drew); exact HO_258000.out) hb); replace HO268 := Aside0.mk (Kd.S_below (by (with_reducible repeat first | apply Kd.S_alloc | apply Kd.S_drewN | apply Kd.S_drew); exact HO268.out) hb); have HO272 := Aside0.mk (Kd.S_lower (Kd.S_new' (Kd.S_new' (Kd.S_new' ho0 (Kd.R_lt (by (with_reducible repeat first | apply Kd.R_alloc | apply Kd.R_drewN | apply Kd.R_drew); exact HO_6.out))) (Kd.S_lt (by (with_reducible repeat first | apply Kd.S_alloc | apply Kd.S_drewN | apply Kd.S_drew); exact HO_9.out))) (Kd.R_lt (by (with_reducible repeat first | apply Kd.R_alloc | apply Kd.R_drewN | apply Kd.R_drew); exact HO_10.out))) (below_size (by repeat first | (with_reducible first | exact HB.out | apply below_alloc | apply pw_below_drewN | apply below_drew1 | refine below_set ?_ GE241.out | refine below_set ?_ GE257.out) | exact HB.out))); replace HO_6 := Aside0.mk (Kd.R_below (by (with_reducible repeat first | apply Kd.R_alloc | apply Kd.R_drewN | apply Kd.R_drew); exact HO_6.out) hb); replace HO_9 := Aside0.mk (Kd.S_elder' (by (with_reducible repeat first | apply Kd.S_alloc | apply Kd.S_drewN | apply Kd.S_drew); exact HO_9.out) (Kd.S_base ho0) hb); replace HO_10 := Aside0.mk (Kd.R_below (by (with_reducible repeat first | apply Kd.R_alloc | apply Kd.R_drewN | apply Kd.R_drew); exact HO_10.out) hb); replace BK241 := Aside0.mk (blk_below (g := gb241) (o := .cells #[.slice A0_0 l0_0.length c0_0] 64 (0, 0)) (by (with_reducible repeat first | apply blk_drewN | apply blk_drew | apply blk_alloc); exact BK241.out) hb); replace BK257 := Aside0.mk (blk_below (g := gb257) (o := .cells #[.slice Ao34 t254.length co34] 38 (0, 0)) (by (with_reducible repeat first | apply blk_drewN | apply blk_drew | apply blk_alloc); exact BK257.out) hb); replace HB := Aside0.mk (below_step (by repeat first | (with_reducible first | exact HB.out | apply below_alloc | apply pw_below_drewN | apply below_drew1 | refine below_set ?_ GE241.out | refine below_set ?_ GE257.out) | exact HB.out) hb); (try clear hb); (try clear ho0); obtain ⟨Ao112, co112, eo112⟩ := Kd.S_slice HO272.out; subst eo112) | ((with_reducible refine gate_callee (f := 29) rfl ?_); refine goesL_ (some 62) rfl rfl Try.func29 (by kernel_rfl) rfl #[.slice Ao39 t258.length co39, .slice Ao112 t270.length co112] rfl (by (try simp only [List.map_toArray, List.map_cons, List.map_nil]); first | done | rfl) ?_; (with_reducible refine (laws_eqCallS.calls kj19 _ _ t258 _ _ t270 false _ ?side1 ?side2 ?side3 ?side4 A52.out).mono ?_); (case side1 => repeat (first | exact (Kd.S_reads' HO_9.out).2.2 | with_reducible first | apply Kd.C_alloc | apply Kd.C_drewN | apply Kd.C_drew)); (case side2 => exact (Kd.S_reads' HO_9.out).2.1); (case side3 => repeat (first | exact (Kd.S_reads' HO272.out).2.2 | with_reducible first | apply Kd.C_alloc | apply Kd.C_drewN | apply Kd.C_drew)); (case side4 => exact (Kd.S_reads' HO272.out).2.1); rintro e w113 ⟨rfl, hb⟩; refine ⟨_, rfl, ?_⟩; have nX_ := Aside0.mk (Kd.S_below (by (with_reducible repeat first | apply Kd.S_alloc | apply Kd.S_drewN | apply Kd.S_drew); exact HX0.out) hb); clear HX0; have HX0 := nX_; clear nX_; have nX_ := Aside0.mk (Kd.S_below (by (with_reducible repeat first | apply Kd.S_alloc | apply Kd.S_drewN | apply Kd.S_drew); exact HX1.out) hb); clear HX1; have HX1 := nX_; clear nX_; replace HO_6 := Aside0.mk (Kd.R_below (by (with_reducible repeat first | apply Kd.R_alloc | apply Kd.R_drewN | apply Kd.R_drew); exact HO_6.out) hb); replace HO_9 := Aside0.mk (Kd.S_below (by (with_reducible repeat first | apply Kd.S_alloc | apply Kd.S_drewN | apply Kd.S_drew); exact HO_9.out) hb); replace HO_10 := Aside0.mk (Kd.R_below (by (with_reducible repeat first | apply Kd.R_alloc | apply Kd.R_drewN | apply Kd.R_drew); exact HO_10.out) hb); replace HO_258000 := Aside0.mk (Kd.S_below (by (with_reducible repeat first | apply Kd.S_alloc | apply Kd.S_drewN | apply Kd.S_drew); exact HO_258000.out) hb); replace HO268 := Aside0.mk (Kd.S_below (by (with_reducible repeat first | apply Kd.S_alloc | apply Kd.S_drewN | apply Kd.S_drew); exact HO268.out) hb); replace HO272 := Aside0.mk (Kd.S_below (by (with_reducible repeat first | apply Kd.S_alloc | apply Kd.S_drewN | apply Kd.S_drew); exact HO272.out) hb); replace BK241 := Aside0.mk (blk_below (g := gb241) (o := .cells #[.slice A0_0 l0_0.length c0_0] 64 (0, 0)) (by (with_reducible repeat first | apply blk_drewN | apply blk_drew | apply blk_alloc); exact BK241.out) hb); replace BK257 := Aside0.mk (blk_below (g := gb257) (o := .cells #[.slice Ao34 t254.length co34] 38 (0, 0)) (by (with_reducible repeat first | apply blk_drewN | apply blk_drew | apply blk_alloc); exact BK257.out) hb); replace HB := Aside0.mk (below_step (by repeat first | (with_reducible first | exact HB.out | apply below_alloc | apply pw_below_drewN | apply below_drew1 | refine below_set ?_ GE241.out | refine below_set ?_ GE257.out) | exact HB.out) hb); (try clear hb)))
        go_ret
        exact ⟨by first | rfl | (simp [errW_none, errW_some] <;> rfl) | (simp [*, errW_none, errW_some] <;> rfl), by repeat (first | (with_reducible first | exact HB.out | apply below_alloc | apply pw_below_drewN | apply below_drew1 | refine below_set ?_ GE241.out | refine below_set ?_ GE257.out) | exact HB.out)⟩
      ·replace c50 := Bool.eq_false_iff.mpr c50
       subst c50
       have H1 : (some false) = some r := by rw [if_neg (show ¬ (false = true) by decide)] at H; exact H
       clear H; have H := H1; clear H1
       obtain rfl := Option.some.inj H
       try go_wp2
       replace HX0 := Aside0.mk (Kd.S_drew HX0.out)
       replace HX1 := Aside0.mk (Kd.S_drew HX1.out)
       replace HO_6 := Aside0.mk (Kd.R_drew HO_6.out); replace HO_9 := Aside0.mk (Kd.S_drew HO_9.out); replace HO_10 := Aside0.mk (Kd.R_drew HO_10.out); replace HO_258000 := Aside0.mk (Kd.S_drew HO_258000.out); replace BK241 := Aside0.mk (blk_drew BK241.out); replace BK257 := Aside0.mk (blk_drew BK257.out); replace HB := Aside0.mk (below_drew1 HB.out)
       refine start_ (n := 5) (S := fun w' => w'.cell? ⟨gb257, 0, none⟩ = some (.slice Ao34 t254.length co34) ∧ w'.cell? ⟨gb241, 0, none⟩ = some (.slice A0_0 l0_0.length c0_0)) (ds := []) #[ff,ff,ff,ff,ff] (by kernel_rfl) rfl rfl ⟨(blk_cell BK257.out 0).trans rfl, (blk_cell BK241.out 0).trans rfl⟩ (fun hHeld => ?_)
       generalize wc.drew = w114 at HO_6 HO_9 HO_10 HO_258000 BK241 BK257 HB HX0 HX1 hHeld ⊢
       refine take_ (i := 0) (N := some 54) (v := ?_) (a' := ?_) #[tt,ff,ff,ff,ff] rfl rfl (by kernel_rfl) (fun _ _ _ h => h) (Or.inl ⟨by rfl, ?_⟩) hHeld ?_ ?_
       rotate_left
       ·rintro w' ⟨s0, s1⟩
        go_simp
        with_reducible rfl
       rotate_left
       ·simp only [Act.put, ps_]
        rfl
       refine take_ (i := 1) (N := some 55) (v := ?_) (a' := ?_) #[tt,tt,ff,ff,ff] rfl rfl (by kernel_rfl) (fun _ _ _ h => h) (Or.inl ⟨by rfl, ?_⟩) hHeld ?_ ?_
       rotate_left
       ·rintro w' ⟨s0, s1⟩
        go_simp
        with_reducible rfl
       rotate_left
       ·simp only [Act.put, ps_]
        rfl
       refine one_ (i := 2) (N := some 56) #[tt,tt,tt,ff,ff] rfl rfl (by kernel_rfl) (by decide) (fun K hK => ?_)
       refine goes_ Try.func40 (by kernel_rfl) rfl #[.agg #[.slice A0_0 l0_0.length c0_0]] (by rfl) rfl rfl (by (try simp only [List.map_toArray, List.map_cons, List.map_nil]); first | done | rfl) ?_
       with_reducible refine (laws_toDouble.calls kj19 _ _ l0_0 t266 _ ?side1 ?side2 A48.out).mono ?_
       (case side1 => repeat (first | exact (Kd.C_below HR0_0.out HB.out) | with_reducible first | apply Kd.C_alloc | apply Kd.C_drewN | apply Kd.C_drew))
       (case side2 => exact HC0_0.out)
       rintro e w115 ⟨v267, rfl, ho0, hb⟩
       refine ⟨_, rfl, ?_⟩
       replace HX0 := Aside0.mk (Kd.S_below (by (with_reducible repeat first | apply Kd.S_alloc | apply Kd.S_drewN | apply Kd.S_drew); exact HX0.out) hb)
       replace HX1 := Aside0.mk (Kd.S_below (by (with_reducible repeat first | apply Kd.S_alloc | apply Kd.S_drewN | apply Kd.S_drew); exact HX1.out) hb)
       have n0_ := Aside0.mk (Kd.R_below (by (with_reducible repeat first | apply Kd.R_alloc | apply Kd.R_drewN | apply Kd.R_drew); exact HO_6.out) hb)
       have n1_ := Aside0.mk (Kd.S_below (by (with_reducible repeat first | apply Kd.S_alloc | apply Kd.S_drewN | apply Kd.S_drew); exact HO_9.out) hb)
       have n2_ := Aside0.mk (Kd.R_below (by (with_reducible repeat first | apply Kd.R_alloc | apply Kd.R_drewN | apply Kd.R_drew); exact HO_10.out) hb)
       have n3_ := Aside0.mk (Kd.S_elder' (by (with_reducible repeat first | apply Kd.S_alloc | apply Kd.S_drewN | apply Kd.S_drew); exact HO_258000.out) (Kd.S_base ho0) hb)
       have n4_ := Aside0.mk (Kd.S_lower (Kd.S_new' (Kd.S_new' (Kd.S_new' ho0 (Kd.R_lt (by (with_reducible repeat first | apply Kd.R_alloc | apply Kd.R_drewN | apply Kd.R_drew); exact HO_6.out))) (Kd.R_lt (by (with_reducible repeat first | apply Kd.R_alloc | apply Kd.R_drewN | apply Kd.R_drew); exact HO_10.out))) (Kd.S_lt (by (with_reducible repeat first | apply Kd.S_alloc | apply Kd.S_drewN | apply Kd.S_drew); exact HO_258000.out))) (below_size (by repeat first | (with_reducible first | exact HB.out | apply below_alloc | apply pw_below_drewN | apply below_drew1 | refine below_set ?_ GE241.out | refine below_set ?_ GE257.out) | exact HB.out)))
       have n5_ := Aside0.mk (blk_below (g := gb241) (o := .cells #[.slice A0_0 l0_0.length c0_0] 64 (0, 0)) (by (with_reducible repeat first | apply blk_drewN | apply blk_drew | apply blk_alloc); exact BK241.out) hb)
       have n6_ := Aside0.mk (blk_below (g := gb257) (o := .cells #[.slice Ao34 t254.length co34] 38 (0, 0)) (by (with_reducible repeat first | apply blk_drewN | apply blk_drew | apply blk_alloc); exact BK257.out) hb)
       have n7_ := Aside0.mk (below_step (by repeat first | (with_reducible first | exact HB.out | apply below_alloc | apply pw_below_drewN | apply below_drew1 | refine below_set ?_ GE241.out | refine below_set ?_ GE257.out) | exact HB.out) hb); clear HO_6 HO_9 HO_10 HO_258000 BK241 BK257 HB; have HO_6 := n0_; have HO_9 := n1_; have HO_10 := n2_; have HO_258000 := n3_; have HO268 := n4_; have BK241 := n5_; have BK257 := n6_; have HB := n7_; clear n0_ n1_ n2_ n3_ n4_ n5_ n6_ n7_
       (try clear hb)
       (try clear hb2)
       (try clear hk)
       (try clear hi)
       (try clear ho0)
       obtain ⟨Ao116, co116, eo116⟩ := Kd.S_slice HO268.out
       (first | subst eo116 | (injection eo116 with f1_ f2_ f3_; have f4_ := f1_.symm; have f5_ := f3_.symm; clear f1_ f2_ f3_; subst f4_; subst f5_))
       refine hK.out _ _ ⟨(blk_cell BK257.out 0).trans rfl, (blk_cell BK241.out 0).trans rfl⟩ (fun hHeld => ?_)
       clear hK K
       refine norm_ (a' := ?_) ?_ ?_
       rotate_left
       ·show Act.put _ (some 56) _ = _
        simp only [Act.put, ps_]
        rfl
       refine one_ (i := 3) (N := some 57) #[tt,tt,tt,tt,ff] rfl rfl (by kernel_rfl) (by decide) (fun K hK => ?_)
       refine goes_ Try.func41 (by kernel_rfl) rfl #[.agg #[.slice Ao34 t254.length co34], .agg #[.slice Ao116 t266.length co116]] (by rfl) rfl rfl (by (try simp only [List.map_toArray, List.map_cons, List.map_nil]); first | done | rfl) ?_
       with_reducible refine (laws_eqDouble.calls kj19 _ _ t254 _ _ t266 false _ ?side1 ?side2 ?side3 ?side4 A49.out).mono ?_
       (case side1 => repeat (first | exact (Kd.S_reads' HO_258000.out).2.2 | with_reducible first | apply Kd.C_alloc | apply Kd.C_drewN | apply Kd.C_drew))
       (case side2 => exact (Kd.S_reads' HO_258000.out).2.1)
       (case side3 => repeat (first | exact (Kd.S_reads' HO268.out).2.2 | with_reducible first | apply Kd.C_alloc | apply Kd.C_drewN | apply Kd.C_drew))
       (case side4 => exact (Kd.S_reads' HO268.out).2.1)
       rintro e w117 ⟨rfl, hb⟩
       refine ⟨_, rfl, ?_⟩
       replace HX0 := Aside0.mk (Kd.S_below (by (with_reducible repeat first | apply Kd.S_alloc | apply Kd.S_drewN | apply Kd.S_drew); exact HX0.out) hb)
       replace HX1 := Aside0.mk (Kd.S_below (by (with_reducible repeat first | apply Kd.S_alloc | apply Kd.S_drewN | apply Kd.S_drew); exact HX1.out) hb)
       have n0_ := Aside0.mk (Kd.R_below (by (with_reducible repeat first | apply Kd.R_alloc | apply Kd.R_drewN | apply Kd.R_drew); exact HO_6.out) hb)
       have n1_ := Aside0.mk (Kd.S_below (by (with_reducible repeat first | apply Kd.S_alloc | apply Kd.S_drewN | apply Kd.S_drew); exact HO_9.out) hb)
       have n2_ := Aside0.mk (Kd.R_below (by (with_reducible repeat first | apply Kd.R_alloc | apply Kd.R_drewN | apply Kd.R_drew); exact HO_10.out) hb)
       have n3_ := Aside0.mk (Kd.S_below (by (with_reducible repeat first | apply Kd.S_alloc | apply Kd.S_drewN | apply Kd.S_drew); exact HO_258000.out) hb)
       have n4_ := Aside0.mk (Kd.S_below (by (with_reducible repeat first | apply Kd.S_alloc | apply Kd.S_drewN | apply Kd.S_drew); exact HO268.out) hb)
       have n5_ := Aside0.mk (blk_below (g := gb241) (o := .cells #[.slice A0_0 l0_0.length c0_0] 64 (0, 0)) (by (with_reducible repeat first | apply blk_drewN | apply blk_drew | apply blk_alloc); exact BK241.out) hb)
       have n6_ := Aside0.mk (blk_below (g := gb257) (o := .cells #[.slice Ao34 t254.length co34] 38 (0, 0)) (by (with_reducible repeat first | apply blk_drewN | apply blk_drew | apply blk_alloc); exact BK257.out) hb)
       have n7_ := Aside0.mk (below_step (by repeat first | (with_reducible first | exact HB.out | apply below_alloc | apply pw_below_drewN | apply below_drew1 | refine below_set ?_ GE241.out | refine below_set ?_ GE257.out) | exact HB.out) hb); clear HO_6 HO_9 HO_10 HO_258000 HO268 BK241 BK257 HB; have HO_6 := n0_; have HO_9 := n1_; have HO_10 := n2_; have HO_258000 := n3_; have HO268 := n4_; have BK241 := n5_; have BK257 := n6_; have HB := n7_; clear n0_ n1_ n2_ n3_ n4_ n5_ n6_ n7_
       (try clear hb)
       (try clear hb2)
       (try clear hk)
       (try clear hi)
       refine hK.out _ _ ⟨(blk_cell BK257.out 0).trans rfl, (blk_cell BK241.out 0).trans rfl⟩ (fun hHeld => ?_)
       clear hK K
       refine norm_ (a' := ?_) ?_ ?_
       rotate_left
       ·show Act.put _ (some 57) _ = _
        simp only [Act.put, ps_]
        rfl
       refine pure_ (i := 4) (N := some 58) (v := ?_) (a' := ?_) #[tt,tt,tt,tt,tt] rfl rfl (by kernel_rfl) (fun _ _ _ h => h) (Or.inl ⟨by rfl, ?_⟩) ?_ ?_
       rotate_left
       ·intro w'
        go_simp
        with_reducible rfl
       rotate_left
       ·simp only [Act.put, ps_]
        rfl
       refine done_ (by kernel_rfl) ?_
       try go_wp2
       go_ret
       exact ⟨by first | rfl | (simp [errW_none, errW_some] <;> rfl) | (simp [*, errW_none, errW_some] <;> rfl), by repeat (first | (with_reducible first | exact HB.out | apply below_alloc | apply pw_below_drewN | apply below_drew1 | refine below_set ?_ GE241.out | refine below_set ?_ GE257.out) | exact HB.out)⟩

end Go.Proofs.Ytcbkpdgbijdbbaa.N
