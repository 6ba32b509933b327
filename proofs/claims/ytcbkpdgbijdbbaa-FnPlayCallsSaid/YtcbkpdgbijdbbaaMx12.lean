-- WRITTEN by wip/ext.py
import Derived.Test.YtcbkpdgbijdbbaaMx0
import Derived.Test.YtcbkpdgbijdbbaaMx1
import Derived.Test.YtcbkpdgbijdbbaaMx3
import Derived.Test.YtcbkpdgbijdbbaaMx6
import Derived.Test.YtcbkpdgbijdbbaaMx10
import Derived.Test.YtcbkpdgbijdbbaaMx11
namespace Go.Proofs.Ytcbkpdgbijdbbaa.M
open Go.RowKit Go.Proofs.YtcbkpdgbijdbbaaW.PrintWords Go.Proofs.YtcbkpdgbijdbbaaW.PrintLast Go.Proofs.YtcbkpdgbijdbbaaW.PrintMore
attribute [local go_sem] max2_int min2_int max_two min_two max_three min_three max_four min_four   -- for this text's walks alone
set_option linter.unusedVariables false
set_option linter.unusedSimpArgs false

/-! ### laws_FnPlayCalls: function 4 -/
mutual
def laws_FnPlayCalls.j0 : Nat → List (S33) → List Int → Bool → List Int → Bool → Bool → List (S44) → Option (Bool)
 | 0, _, _, _, _, _, _, _ => none
 | k + 1, x4, x5, x6, x7, x8, x49, x328000 => if x49 = true then ((laws_equalInts.f k x5 x7).bind fun t337 => (if t337 = true then (some (x6 == x8)) else (some false))) else (laws_FnPlayCalls.l0 k x4 x5 0 x328000)
def laws_FnPlayCalls.l0 : Nat → List (S33) → List Int → Int → List (S44) → Option (Bool)
 | 0, _, _, _, _ => none
 | k + 1, x4, x5, x9, x328000 => if x9 ≤ (x4.length : Int) then (if 0 ≤ x9 then ((impl_PlayCalls.f k x328000 (x4.take (x9 : Int).toNat)).bind fun bt342 => (if bt342.2 = true then (if x9 ≤ (x5.length : Int) then ((laws_equalInts.f k bt342.1 (x5.take (x9 : Int).toNat)).bind fun t350 => (if t350 = true then (laws_FnPlayCalls.l0 k x4 x5 (wrap64 (x9 + 1)) x328000) else (some false))) else (none)) else (some false))) else (none)) else (laws_FnPlayCalls.l1 k x4 x5 0 x328000)
def laws_FnPlayCalls.l1 : Nat → List (S33) → List Int → Int → List (S44) → Option (Bool)
 | 0, _, _, _, _ => none
 | k + 1, x4, x5, x12, x328000 => if x12 < (x328000.length : Int) then (laws_FnPlayCalls.l2 k x4 x5 x12 (([] : List Int)) 0 x328000) else (some true)
def laws_FnPlayCalls.l2 : Nat → List (S33) → List Int → Int → List Int → Int → List (S44) → Option (Bool)
 | 0, _, _, _, _, _, _ => none
 | k + 1, x4, x5, x12, x13, x14, x328000 => if x14 < (x4.length : Int) then (if 0 ≤ x14 then (if 0 ≤ x12 then (if x12 < (x328000.length : Int) then (if ((rd_T33 x4 x14).f0).toList = ((rd_T44 x328000 x12).f0).toList then (if x14 < (x5.length : Int) then (if x13.length < 17592186044416 then (laws_FnPlayCalls.l2 k x4 x5 x12 (x13 ++ [rd x5 x14]) (wrap64 (x14 + 1)) x328000) else (none)) else (none)) else (laws_FnPlayCalls.l2 k x4 x5 x12 x13 (wrap64 (x14 + 1)) x328000)) else (none)) else (none)) else (none)) else (if 0 ≤ x12 then (if x12 < (x328000.length : Int) then ((impl_CallsOf.f k x4 ((rd_T44 x328000 x12).f0)).bind fun t361 => ((impl_PlayCalls.f k x328000 t361).bind fun bt364 => (if bt364.2 = true then ((laws_equalInts.f k bt364.1 x13).bind fun t368 => (if t368 = true then (laws_FnPlayCalls.l1 k x4 x5 (wrap64 (x12 + 1)) x328000) else (some false))) else (some false)))) else (none)) else (none))
end
def laws_FnPlayCalls.f (k : Nat) (l0 : List Int) : Option (Bool) := if (l0.length : Int) > 1048576 then (some true) else ((spec_DrawPlayCalls.f k l0).bind fun bt321 => ((impl_PlayCalls.f k bt321.1 bt321.2).bind fun bt328 => ((spec_PlayCalls.f k bt321.1 bt321.2).bind fun bt332 => ((laws_equalInts.f k bt328.1 bt332.1).bind fun t336 => (if t336 = true then (if (bt328.2 != bt332.2) = true then (laws_FnPlayCalls.j0 k bt321.2 bt328.1 bt328.2 bt332.1 bt332.2 true bt321.1) else (laws_FnPlayCalls.j0 k bt321.2 bt328.1 bt328.2 bt332.1 bt332.2 (!bt328.2) bt321.1)) else (laws_FnPlayCalls.j0 k bt321.2 bt328.1 bt328.2 bt332.1 bt332.2 true bt321.1))))))
theorem laws_FnPlayCalls.mono_l : ∀ k, (∀ y0 y1 y2 y3 y4 y5 y6, LeO (laws_FnPlayCalls.j0 k y0 y1 y2 y3 y4 y5 y6) (laws_FnPlayCalls.j0 (k + 1) y0 y1 y2 y3 y4 y5 y6)) ∧ (∀ y0 y1 y2 y3, LeO (laws_FnPlayCalls.l0 k y0 y1 y2 y3) (laws_FnPlayCalls.l0 (k + 1) y0 y1 y2 y3)) ∧ (∀ y0 y1 y2 y3, LeO (laws_FnPlayCalls.l1 k y0 y1 y2 y3) (laws_FnPlayCalls.l1 (k + 1) y0 y1 y2 y3)) ∧ (∀ y0 y1 y2 y3 y4 y5, LeO (laws_FnPlayCalls.l2 k y0 y1 y2 y3 y4 y5) (laws_FnPlayCalls.l2 (k + 1) y0 y1 y2 y3 y4 y5))
 | 0 => ⟨fun _ _ _ _ _ _ _ r h => by simp [laws_FnPlayCalls.j0] at h, fun _ _ _ _ r h => by simp [laws_FnPlayCalls.l0] at h, fun _ _ _ _ r h => by simp [laws_FnPlayCalls.l1] at h, fun _ _ _ _ _ _ r h => by simp [laws_FnPlayCalls.l2] at h⟩
 | k + 1 => by
  obtain ⟨ih0, ih1, ih2, ih3⟩ := laws_FnPlayCalls.mono_l k
  refine ⟨?_, ?_, ?_, ?_⟩
  ·intro y0 y1 y2 y3 y4 y5 y6
   unfold laws_FnPlayCalls.j0
   repeat' first
   | (with_reducible exact ih0 _ _ _ _ _ _ _)
   | (with_reducible exact ih1 _ _ _ _)
   | (with_reducible exact ih2 _ _ _ _)
   | (with_reducible exact ih3 _ _ _ _ _ _)
   | (with_reducible exact impl_CallsOf.mono _ _ _)
   | (with_reducible exact impl_PlayCalls.mono _ _ _)
   | (with_reducible exact laws_equalInts.mono _ _ _)
   | (with_reducible exact spec_DrawPlayCalls.mono _ _)
   | (with_reducible exact spec_PlayCalls.mono _ _ _)
   | (with_reducible exact LeO.refl _)
   | (with_reducible exact LeO.none _)
   | (with_reducible refine LeO.ite ?_ ?_)
   | (with_reducible refine LeO.bind ?_ (fun _ => ?_))
   | refine LeO.ite ?_ ?_
   | refine LeO.bind ?_ (fun _ => ?_)
  ·intro y0 y1 y2 y3
   unfold laws_FnPlayCalls.l0
   repeat' first
   | (with_reducible exact ih0 _ _ _ _ _ _ _)
   | (with_reducible exact ih1 _ _ _ _)
   | (with_reducible exact ih2 _ _ _ _)
   | (with_reducible exact ih3 _ _ _ _ _ _)
   | (with_reducible exact impl_CallsOf.mono _ _ _)
   | (with_reducible exact impl_PlayCalls.mono _ _ _)
   | (with_reducible exact laws_equalInts.mono _ _ _)
   | (with_reducible exact spec_DrawPlayCalls.mono _ _)
   | (with_reducible exact spec_PlayCalls.mono _ _ _)
   | (with_reducible exact LeO.refl _)
   | (with_reducible exact LeO.none _)
   | (with_reducible refine LeO.ite ?_ ?_)
   | (with_reducible refine LeO.bind ?_ (fun _ => ?_))
   | refine LeO.ite ?_ ?_
   | refine LeO.bind ?_ (fun _ => ?_)
  ·intro y0 y1 y2 y3
   unfold laws_FnPlayCalls.l1
   repeat' first
   | (with_reducible exact ih0 _ _ _ _ _ _ _)
   | (with_reducible exact ih1 _ _ _ _)
   | (with_reducible exact ih2 _ _ _ _)
   | (with_reducible exact ih3 _ _ _ _ _ _)
   | (with_reducible exact impl_CallsOf.mono _ _ _)
   | (with_reducible exact impl_PlayCalls.mono _ _ _)
   | (with_reducible exact laws_equalInts.mono _ _ _)
   | (with_reducible exact spec_DrawPlayCalls.mono _ _)
   | (with_reducible exact spec_PlayCalls.mono _ _ _)
   | (with_reducible exact LeO.refl _)
   | (with_reducible exact LeO.none _)
   | (with_reducible refine LeO.ite ?_ ?_)
   | (with_reducible refine LeO.bind ?_ (fun _ => ?_))
   | refine LeO.ite ?_ ?_
   | refine LeO.bind ?_ (fun _ => ?_)
  ·intro y0 y1 y2 y3 y4 y5
   unfold laws_FnPlayCalls.l2
   repeat' first
   | (with_reducible exact ih0 _ _ _ _ _ _ _)
   | (with_reducible exact ih1 _ _ _ _)
   | (with_reducible exact ih2 _ _ _ _)
   | (with_reducible exact ih3 _ _ _ _ _ _)
   | (with_reducible exact impl_CallsOf.mono _ _ _)
   | (with_reducible exact impl_PlayCalls.mono _ _ _)
   | (with_reducible exact laws_equalInts.mono _ _ _)
   | (with_reducible exact spec_DrawPlayCalls.mono _ _)
   | (with_reducible exact spec_PlayCalls.mono _ _ _)
   | (with_reducible exact LeO.refl _)
   | (with_reducible exact LeO.none _)
   | (with_reducible refine LeO.ite ?_ ?_)
   | (with_reducible refine LeO.bind ?_ (fun _ => ?_))
   | refine LeO.ite ?_ ?_
   | refine LeO.bind ?_ (fun _ => ?_)
theorem laws_FnPlayCalls.mono : ∀ a0 k, LeO (laws_FnPlayCalls.f k a0) (laws_FnPlayCalls.f (k + 1) a0) := by
 intro a0 k
 obtain ⟨ih0, ih1, ih2, ih3⟩ := laws_FnPlayCalls.mono_l k
 unfold laws_FnPlayCalls.f
 repeat' first
   | (with_reducible exact ih0 _ _ _ _ _ _ _)
   | (with_reducible exact ih1 _ _ _ _)
   | (with_reducible exact ih2 _ _ _ _)
   | (with_reducible exact ih3 _ _ _ _ _ _)
   | (with_reducible exact impl_CallsOf.mono _ _ _)
   | (with_reducible exact impl_PlayCalls.mono _ _ _)
   | (with_reducible exact laws_equalInts.mono _ _ _)
   | (with_reducible exact spec_DrawPlayCalls.mono _ _)
   | (with_reducible exact spec_PlayCalls.mono _ _ _)
   | (with_reducible exact LeO.refl _)
   | (with_reducible exact LeO.none _)
   | (with_reducible refine LeO.ite ?_ ?_)
   | (with_reducible refine LeO.bind ?_ (fun _ => ?_))
   | refine LeO.ite ?_ ?_
   | refine LeO.bind ?_ (fun _ => ?_)
def laws_FnPlayCalls.T11 : Bool × List (List Nat × List Nat) := (true, [([], []), ([], []), ([], []), ([1, 2], [1, 2]), ([0, 3], [0, 3]), ([4], [4]), ([5], [5]), ([5], [5]), ([6, 4, 0, 1, 2, 3, 4, 5, 6], [6]), ([7, 8, 0, 1, 2, 3, 4, 5, 6, 7, 8], [7])])
def laws_FnPlayCalls.B11 : List Nat := [0, 0, 0, 6, 15, 31, 63, 63, 127, 511]
theorem laws_FnPlayCalls.tab11 : rtab .any (opsOf Try.f4 11) = laws_FnPlayCalls.T11 := by kernel_rfl
theorem laws_FnPlayCalls.bits11 : waitsOk laws_FnPlayCalls.T11.2 laws_FnPlayCalls.B11 = true := by kernel_rfl
def laws_FnPlayCalls.T21 : Bool × List (List Nat × List Nat) := (true, [([], []), ([], []), ([0, 1], [0, 1]), ([2], [2]), ([3], [3]), ([], []), ([5], [5]), ([], []), ([6, 7], [6, 7]), ([8], [8]), ([9], [9]), ([4, 10], [4, 10])])
def laws_FnPlayCalls.B21 : List Nat := [0, 0, 3, 7, 15, 0, 32, 0, 224, 480, 992, 2047]
theorem laws_FnPlayCalls.tab21 : rtab .any (opsOf Try.f4 21) = laws_FnPlayCalls.T21 := by kernel_rfl
theorem laws_FnPlayCalls.bits21 : waitsOk laws_FnPlayCalls.T21.2 laws_FnPlayCalls.B21 = true := by kernel_rfl
def laws_FnPlayCalls.T23 : Bool × List (List Nat × List Nat) := (true, [([], []), ([], []), ([], []), ([2], [2]), ([], []), ([3, 4], [3, 4]), ([5], [5]), ([6], [6]), ([1, 7], [1, 7]), ([0, 8, 8], [0, 8]), ([9], [9]), ([10], [10]), ([10], [10]), ([11, 9, 0, 1, 2, 3, 4, 5, 6, 7, 8, 9, 10, 11], [11]), ([12, 13, 0, 1, 2, 3, 4, 5, 6, 7, 8, 9, 10, 11, 12, 13], [12])])
def laws_FnPlayCalls.B23 : List Nat := [0, 0, 0, 4, 0, 28, 60, 124, 254, 511, 1023, 2047, 2047, 4095, 16383]
theorem laws_FnPlayCalls.tab23 : rtab .any (opsOf Try.f4 23) = laws_FnPlayCalls.T23 := by kernel_rfl
theorem laws_FnPlayCalls.bits23 : waitsOk laws_FnPlayCalls.T23.2 laws_FnPlayCalls.B23 = true := by kernel_rfl
set_option maxHeartbeats 8000000 in
set_option maxRecDepth 100000 in
theorem laws_FnPlayCalls.calls (k : Nat) (A0 : Option Addr) (c0 : Nat) (l0 : List Int) (r : Bool) (w : World) (hr0 : Kd.C (Kd.int .u8) w A0 l0.length l0) (hc0 : l0.length ≤ c0) (h : laws_FnPlayCalls.f k l0 = some r) :
  Calls Try.prog 4 #[.slice A0 l0.length c0] w fun e w' => e = .returned (.bool r) ∧ Below w.heap.size w w' := by
 have hu38 := Try.underlying38; have HR0 := Aside0.mk hr0; have HC0 := Aside0.mk hc0; clear hr0 hc0; have HB := Aside0.mk (Below.refl w.heap.size w)
 have H : (if (l0.length : Int) > 1048576 then (some true) else ((spec_DrawPlayCalls.f k l0).bind fun bt321 => ((impl_PlayCalls.f k bt321.1 bt321.2).bind fun bt328 => ((spec_PlayCalls.f k bt321.1 bt321.2).bind fun bt332 => ((laws_equalInts.f k bt328.1 bt332.1).bind fun t336 => (if t336 = true then (if (bt328.2 != bt332.2) = true then (laws_FnPlayCalls.j0 k bt321.2 bt328.1 bt328.2 bt332.1 bt332.2 true bt321.1) else (laws_FnPlayCalls.j0 k bt321.2 bt328.1 bt328.2 bt332.1 bt332.2 (!bt328.2) bt321.1)) else (laws_FnPlayCalls.j0 k bt321.2 bt328.1 bt328.2 bt332.1 bt332.2 true bt321.1))))))) = some r := h
 clear h
 by_cases c2 : (l0.length : Int) > 1048576
 ·rw [if_pos c2] at H
  have c2b0 : decide (1048576 < (l0.length : Int)) = true := decide_eq_true c2
  have c2b1 : decide (1048576 < l0.length) = true := decide_eq_true (by omega)
  clear c2
  obtain rfl := Option.some.inj H
  go_enter Try.func4, Try.ntmps4
  go_wp2
  go_ret
  exact ⟨by first | rfl | (simp [errW_none, errW_some] <;> rfl) | (simp [*, errW_none, errW_some] <;> rfl), by repeat (first | (with_reducible first | exact HB.out | apply below_alloc | apply pw_below_drewN | apply below_drew1) | exact HB.out)⟩
 ·rw [if_neg c2] at H
  have c2b0 : decide (1048576 < (l0.length : Int)) = false := decide_eq_false c2
  have c2b1 : decide (1048576 < l0.length) = false := decide_eq_false (by omega)
  clear c2
  replace H := Option.bind_eq_some_iff.mp H
  obtain ⟨⟨t321, t324⟩, A30, H⟩ := H
  replace H : ((impl_PlayCalls.f k t321 t324).bind fun bt328 => ((spec_PlayCalls.f k t321 t324).bind fun bt332 => ((laws_equalInts.f k bt328.1 bt332.1).bind fun t336 => (if t336 = true then (if (bt328.2 != bt332.2) = true then (laws_FnPlayCalls.j0 k t324 bt328.1 bt328.2 bt332.1 bt332.2 true t321) else (laws_FnPlayCalls.j0 k t324 bt328.1 bt328.2 bt332.1 bt332.2 (!bt328.2) t321)) else (laws_FnPlayCalls.j0 k t324 bt328.1 bt328.2 bt332.1 bt332.2 true t321))))) = some r := H
  have A3 := Aside0.mk A30; clear A30
  replace H := Option.bind_eq_some_iff.mp H
  obtain ⟨⟨t328, t331⟩, A40, H⟩ := H
  replace H : ((spec_PlayCalls.f k t321 t324).bind fun bt332 => ((laws_equalInts.f k t328 bt332.1).bind fun t336 => (if t336 = true then (if (t331 != bt332.2) = true then (laws_FnPlayCalls.j0 k t324 t328 t331 bt332.1 bt332.2 true t321) else (laws_FnPlayCalls.j0 k t324 t328 t331 bt332.1 bt332.2 (!t331) t321)) else (laws_FnPlayCalls.j0 k t324 t328 t331 bt332.1 bt332.2 true t321)))) = some r := H
  have A4 := Aside0.mk A40; clear A40
  replace H := Option.bind_eq_some_iff.mp H
  obtain ⟨⟨t332, t335⟩, A50, H⟩ := H
  replace H : ((laws_equalInts.f k t328 t332).bind fun t336 => (if t336 = true then (if (t331 != t335) = true then (laws_FnPlayCalls.j0 k t324 t328 t331 t332 t335 true t321) else (laws_FnPlayCalls.j0 k t324 t328 t331 t332 t335 (!t331) t321)) else (laws_FnPlayCalls.j0 k t324 t328 t331 t332 t335 true t321))) = some r := H
  have A5 := Aside0.mk A50; clear A50; have HC6 := Aside0.mk H; clear H
  go_enter Try.func4, Try.ntmps4
  go_upto_region 6 with (first | ((with_reducible refine gate_callee (f := 18) rfl ?_); refine goesL_ (some 22) rfl rfl Try.func18 (by kernel_rfl) rfl #[.slice A0 l0.length c0] rfl (by (try simp only [List.map_toArray, List.map_cons, List.map_nil]); first | done | rfl) ?_; (with_reducible refine (spec_DrawPlayCalls.calls k _ _ l0 t321 t324 _ ?side1 ?side2 A3.out).mono ?_); (case side1 => repeat (first | exact HR0.out | with_reducible first | apply Kd.C_alloc | apply Kd.C_drewN | apply Kd.C_drew)); (case side2 => exact HC0.out); rintro e w7 ⟨v322, v325, rfl, ho0, ho1, hb⟩; refine ⟨_, rfl, ?_⟩; have HO323 := Aside0.mk (Kd.S_lower ho0 (below_size (by repeat first | (with_reducible first | exact HB.out | apply below_alloc | apply pw_below_drewN | apply below_drew1) | exact HB.out))); have HO326 := Aside0.mk (Kd.S_lower ho1 (below_size (by repeat first | (with_reducible first | exact HB.out | apply below_alloc | apply pw_below_drewN | apply below_drew1) | exact HB.out))); replace HB := Aside0.mk (below_step (by repeat first | (with_reducible first | exact HB.out | apply below_alloc | apply pw_below_drewN | apply below_drew1) | exact HB.out) hb); (try clear hb); (try clear ho0); (try clear ho1)) | ((with_reducible refine gate_dst (N := 3) rfl ?_); refine box_event ?hg (N := 3) ?hd (cs := #[.slice none 0 0]) (t := 38) ?hr ?_; (case hd => rfl); (case hg => rfl); (case hr => first | (go_simp; done) | (go_simp; rfl)); intro gb327 hg w8 hbox hb; replace HO323 := Aside0.mk (Kd.S_below (by (with_reducible repeat first | apply Kd.S_alloc | apply Kd.S_drewN | apply Kd.S_drew); exact HO323.out) hb); replace HO326 := Aside0.mk (Kd.S_below (by (with_reducible repeat first | apply Kd.S_alloc | apply Kd.S_drewN | apply Kd.S_drew); exact HO326.out) hb); have BK327 := Aside0.mk (hbox); have GW327 := Aside0.mk ((by rw [hg]; exact (below_size (by repeat first | (with_reducible first | exact HB.out | apply below_alloc | apply pw_below_drewN | apply below_drew1) | exact HB.out)) : w.heap.size ≤ gb327)); have GE327 := Aside0.mk ((by rw [hg]; exact (below_size (by repeat first | (with_reducible first | exact HB.out | apply below_alloc | apply pw_below_drewN | apply below_drew1) | exact HB.out)) : w.heap.size ≤ gb327)); replace HB := Aside0.mk (below_step (by repeat first | (with_reducible first | exact HB.out | apply below_alloc | apply pw_below_drewN | apply below_drew1) | exact HB.out) hb); clear hb hbox hg; obtain ⟨Ao9, co9, eo9⟩ := Kd.S_slice HO323.out; subst eo9; have hcz10_0 : w8.cell? ⟨gb327, 0, none⟩ = some (.slice none 0 0) := (blk_cell BK327.out 0).trans rfl; have hfz10_0 := blk_frozen BK327.out 0; obtain ⟨Ao11, co11, eo11⟩ := Kd.S_slice HO326.out; subst eo11) | ((with_reducible refine gate_callee (f := 19) rfl ?_); refine goesL_ (some 28) rfl rfl Try.func19 (by kernel_rfl) rfl #[.agg #[.slice Ao9 t321.length co9], .slice Ao11 t324.length co11] rfl (by (try simp only [List.map_toArray, List.map_cons, List.map_nil]); first | done | rfl) ?_; (with_reducible refine (impl_PlayCalls.calls k _ _ t321 _ _ t324 t328 t331 _ ?side1 ?side2 ?side3 ?side4 A4.out).mono ?_); (case side1 => refine (Kd.S_reads' (e := 44) (base := w.heap.size) (ok := fun k_ => True) (n := t321.length) (c := co9) ?_).2.2; exact (by (with_reducible repeat first | apply Kd.S_alloc | apply Kd.S_drewN | apply Kd.S_drew); exact (Kd.S_mono (Kd.S_far (p := ⟨gb327, 0, none⟩) (Kd.S_types HO323.out BK327.out (by decide)) (fun _ hk => hk.2) (.slice Ao9 t321.length co9)) (fun _ h_ => h_.1)))); (case side2 => exact (Kd.S_reads' HO323.out).2.1); (case side3 => refine (Kd.S_reads' (e := 33) (base := w.heap.size) (ok := fun k_ => True) (n := t324.length) (c := co11) ?_).2.2; exact (by (with_reducible repeat first | apply Kd.S_alloc | apply Kd.S_drewN | apply Kd.S_drew); exact (Kd.S_mono (Kd.S_far (p := ⟨gb327, 0, none⟩) (Kd.S_types HO326.out BK327.out (by decide)) (fun _ hk => hk.2) (.slice Ao9 t321.length co9)) (fun _ h_ => h_.1)))); (case side4 => exact (Kd.S_reads' HO326.out).2.1); rintro e w12 ⟨v329, rfl, ho0, hb⟩; refine ⟨_, rfl, ?_⟩; replace HO323 := Aside0.mk (Kd.S_elder' (by (with_reducible repeat first | apply Kd.S_alloc | apply Kd.S_drewN | apply Kd.S_drew); exact (Kd.S_mono (Kd.S_far (p := ⟨gb327, 0, none⟩) (Kd.S_types HO323.out BK327.out (by decide)) (fun _ hk => hk.2) (.slice Ao9 t321.length co9)) (fun _ h_ => h_.1))) (Kd.R_base ho0) hb); replace HO326 := Aside0.mk (Kd.S_elder' (by (with_reducible repeat first | apply Kd.S_alloc | apply Kd.S_drewN | apply Kd.S_drew); exact (Kd.S_mono (Kd.S_far (p := ⟨gb327, 0, none⟩) (Kd.S_types HO326.out BK327.out (by decide)) (fun _ hk => hk.2) (.slice Ao9 t321.length co9)) (fun _ h_ => h_.1))) (Kd.R_base ho0) hb); have HO330 := Aside0.mk (Kd.R_lower ho0 (below_size (by repeat first | (with_reducible first | exact HB.out | apply below_alloc | apply pw_below_drewN | apply below_drew1 | refine below_set ?_ GE327.out) | exact HB.out))); replace BK327 := Aside0.mk (blk_below (g := gb327) (o := .cells #[.slice Ao9 t321.length co9] 38 (0, 0)) (by (with_reducible repeat first | apply blk_drewN | apply blk_drew | apply blk_alloc); refine blk_put (cs := #[.slice none 0 0]) ?_ 0 _ rfl; (with_reducible repeat first | apply blk_drewN | apply blk_drew | apply blk_alloc); exact BK327.out) hb); replace HB := Aside0.mk (below_step (by repeat first | (with_reducible first | exact HB.out | apply below_alloc | apply pw_below_drewN | apply below_drew1 | refine below_set ?_ GE327.out) | exact HB.out) hb); (try clear hb); (try clear ho0); have hcz13_0 : w12.cell? ⟨gb327, 0, none⟩ = some (.slice Ao9 t321.length co9) := (blk_cell BK327.out 0).trans rfl; have hfz13_0 := blk_frozen BK327.out 0) | ((with_reducible refine gate_callee (f := 20) rfl ?_); refine goesL_ (some 34) rfl rfl Try.func20 (by kernel_rfl) rfl #[.agg #[.slice Ao9 t321.length co9], .slice Ao11 t324.length co11] rfl (by (try simp only [List.map_toArray, List.map_cons, List.map_nil]); first | done | rfl) ?_; (with_reducible refine (spec_PlayCalls.calls k _ _ t321 _ _ t324 t332 t335 _ ?side1 ?side2 ?side3 ?side4 A5.out).mono ?_); (case side1 => repeat (first | exact (Kd.S_reads' HO323.out).2.2 | with_reducible first | apply Kd.C_alloc | apply Kd.C_drewN | apply Kd.C_drew)); (case side2 => exact (Kd.S_reads' HO323.out).2.1); (case side3 => repeat (first | exact (Kd.S_reads' HO326.out).2.2 | with_reducible first | apply Kd.C_alloc | apply Kd.C_drewN | apply Kd.C_drew)); (case side4 => exact (Kd.S_reads' HO326.out).2.1); rintro e w14 ⟨v333, rfl, ho0, hb⟩; refine ⟨_, rfl, ?_⟩; replace HO323 := Aside0.mk (Kd.S_elder' (by (with_reducible repeat first | apply Kd.S_alloc | apply Kd.S_drewN | apply Kd.S_drew); exact HO323.out) (Kd.R_base ho0) hb); replace HO326 := Aside0.mk (Kd.S_elder' (by (with_reducible repeat first | apply Kd.S_alloc | apply Kd.S_drewN | apply Kd.S_drew); exact HO326.out) (Kd.R_base ho0) hb); have HO334 := Aside0.mk (Kd.R_lower (Kd.R_new' ho0 (Kd.R_lt (by (with_reducible repeat first | apply Kd.R_alloc | apply Kd.R_drewN | apply Kd.R_drew); exact HO330.out))) (below_size (by repeat first | (with_reducible first | exact HB.out | apply below_alloc | apply pw_below_drewN | apply below_drew1 | refine below_set ?_ GE327.out) | exact HB.out))); replace HO330 := Aside0.mk (Kd.R_elder' (by (with_reducible repeat first | apply Kd.R_alloc | apply Kd.R_drewN | apply Kd.R_drew); exact HO330.out) (Kd.R_base ho0) hb); replace BK327 := Aside0.mk (blk_below (g := gb327) (o := .cells #[.slice Ao9 t321.length co9] 38 (0, 0)) (by (with_reducible repeat first | apply blk_drewN | apply blk_drew | apply blk_alloc); exact BK327.out) hb); replace HB := Aside0.mk (below_step (by repeat first | (with_reducible first | exact HB.out | apply below_alloc | apply pw_below_drewN | apply below_drew1 | refine below_set ?_ GE327.out) | exact HB.out) hb); (try clear hb); (try clear ho0)))
  (try simp only [Act.put, List.setIfInBounds_toArray, List.set_cons_zero, List.set_cons_succ])
  go_cut [49] (fun v49 wc => ∃ (kq : Nat) (x49_5 : Bool), v49 = .bool x49_5 ∧ Aside0 (laws_FnPlayCalls.j0 kq t324 t328 t331 t332 t335 x49_5 t321 = some r) ∧ Aside0 (kq ≤ k) ∧ Aside0 (Kd.S k33 33 wc w.heap.size (fun k_ => some k_ ≠ (v329 : Value).ownBlock ∧ some k_ ≠ (v333 : Value).ownBlock) (.slice Ao11 t324.length co11) t324) ∧ Aside0 (Kd.R (Kd.int .i64) 3 wc w.heap.size (fun k_ => some k_ ≠ (v333 : Value).ownBlock) v329 t328) ∧ Aside0 (Kd.R (Kd.int .i64) 3 wc w.heap.size (fun k_ => some k_ ≠ (v329 : Value).ownBlock) v333 t332) ∧ Aside0 (Kd.S k44 44 wc w.heap.size (fun k_ => some k_ ≠ (v329 : Value).ownBlock ∧ some k_ ≠ (v333 : Value).ownBlock) (.slice Ao9 t321.length co9) t321) ∧ Aside0 (wc.heap[gb327]? = some (.cells #[(.slice Ao9 t321.length co9)] 38 (0, 0))) ∧ Aside0 (Below w.heap.size w wc))
  case first =>
   have H := HC6.out; clear HC6
   replace H := Option.bind_eq_some_iff.mp H
   obtain ⟨t336, A150, H⟩ := H
   replace H : (if t336 = true then (if (t331 != t335) = true then (laws_FnPlayCalls.j0 k t324 t328 t331 t332 t335 true t321) else (laws_FnPlayCalls.j0 k t324 t328 t331 t332 t335 (!t331) t321)) else (laws_FnPlayCalls.j0 k t324 t328 t331 t332 t335 true t321)) = some r := H
   have A15 := Aside0.mk A150; clear A150
   by_cases c16 : t336 = true
   ·subst c16
    have H1 : (if (t331 != t335) = true then (laws_FnPlayCalls.j0 k t324 t328 t331 t332 t335 true t321) else (laws_FnPlayCalls.j0 k t324 t328 t331 t332 t335 (!t331) t321)) = some r := by rw [if_pos rfl] at H; exact H
    clear H; have H := H1; clear H1
    by_cases c17 : (t331 != t335) = true
    ·rw [if_pos c17] at H
     have c17b0 : (t331 != t335) = true := c17
     (try (have c17b1 : decide (t331 = t335) = false := by simpa using c17))
     (try (have c17b2 : (t331 == t335) = false := by simpa using c17))
     (try (have c17b3 : ¬ (t331 = t335) := by simpa using c17))
     clear c17
     (first | rw [c17b0] | (simp only [i64_w, i32_w]; rw [c17b0]) | skip)
     have H' := Aside0.mk H; clear H
     obtain ⟨Ao18, co18, eo18⟩ := Kd.R_slice HO330.out
     subst eo18
     obtain ⟨Ao19, co19, eo19⟩ := Kd.R_slice HO334.out
     subst eo19
     go_wp2_with (first | ((with_reducible refine gate_callee (f := 12) rfl ?_); refine goesL_ (some 39) rfl rfl Try.func12 (by kernel_rfl) rfl #[.slice Ao18 t328.length co18, .slice Ao19 t332.length co19] rfl (by (try simp only [List.map_toArray, List.map_cons, List.map_nil]); first | done | rfl) ?_; (with_reducible refine (laws_equalInts.calls k _ _ t328 _ _ t332 true _ ?side1 ?side2 ?side3 ?side4 A15.out).mono ?_); (case side1 => repeat (first | exact (Kd.R_reads' HO330.out).2.2 | with_reducible first | apply Kd.C_alloc | apply Kd.C_drewN | apply Kd.C_drew)); (case side2 => exact (Kd.R_reads' HO330.out).2.1); (case side3 => repeat (first | exact (Kd.R_reads' HO334.out).2.2 | with_reducible first | apply Kd.C_alloc | apply Kd.C_drewN | apply Kd.C_drew)); (case side4 => exact (Kd.R_reads' HO334.out).2.1); rintro e w' ⟨rfl, ⟨nd, rfl⟩⟩; refine ⟨_, rfl, ?_⟩))
     go_meet
     case rel => exact ⟨_, (true), (by first | rfl | (simp; done) | (simp [*]; done)), H', ⟨by first | omega | exact Nat.le_refl _⟩, ⟨by (with_reducible repeat first | apply Kd.S_alloc | apply Kd.S_drewN | apply Kd.S_drew); exact Kd.S_mono HO326.out (fun _ hk => ⟨hk.1.2, hk.2⟩)⟩, ⟨by (with_reducible repeat first | apply Kd.R_alloc | apply Kd.R_drewN | apply Kd.R_drew); exact Kd.R_mono HO330.out (fun _ hk => hk.2)⟩, ⟨by (with_reducible repeat first | apply Kd.R_alloc | apply Kd.R_drewN | apply Kd.R_drew); exact Kd.R_mono HO334.out (fun _ hk => hk.2)⟩, ⟨by (with_reducible repeat first | apply Kd.S_alloc | apply Kd.S_drewN | apply Kd.S_drew); exact Kd.S_mono HO323.out (fun _ hk => ⟨hk.1.2, hk.2⟩)⟩, ⟨by (with_reducible repeat first | apply blk_drewN | apply blk_drew | apply blk_alloc); exact BK327.out⟩, ⟨by repeat (first | (with_reducible first | exact HB.out | apply below_alloc | apply pw_below_drewN | apply below_drew1 | refine below_set ?_ GE327.out) | exact HB.out)⟩⟩
    ·rw [if_neg c17] at H
     have c17b0 : (t331 != t335) = false := by simpa using c17
     (try (have c17b1 : decide (t331 = t335) = true := by simpa using c17))
     (try (have c17b2 : (t331 == t335) = true := by simpa using c17))
     clear c17
     (first | rw [c17b0] | (simp only [i64_w, i32_w]; rw [c17b0]) | skip)
     have H' := Aside0.mk H; clear H
     obtain ⟨Ao20, co20, eo20⟩ := Kd.R_slice HO330.out
     subst eo20
     obtain ⟨Ao21, co21, eo21⟩ := Kd.R_slice HO334.out
     subst eo21
     go_wp2_with (first | ((with_reducible refine gate_callee (f := 12) rfl ?_); refine goesL_ (some 39) rfl rfl Try.func12 (by kernel_rfl) rfl #[.slice Ao20 t328.length co20, .slice Ao21 t332.length co21] rfl (by (try simp only [List.map_toArray, List.map_cons, List.map_nil]); first | done | rfl) ?_; (with_reducible refine (laws_equalInts.calls k _ _ t328 _ _ t332 true _ ?side1 ?side2 ?side3 ?side4 A15.out).mono ?_); (case side1 => repeat (first | exact (Kd.R_reads' HO330.out).2.2 | with_reducible first | apply Kd.C_alloc | apply Kd.C_drewN | apply Kd.C_drew)); (case side2 => exact (Kd.R_reads' HO330.out).2.1); (case side3 => repeat (first | exact (Kd.R_reads' HO334.out).2.2 | with_reducible first | apply Kd.C_alloc | apply Kd.C_drewN | apply Kd.C_drew)); (case side4 => exact (Kd.R_reads' HO334.out).2.1); rintro e w' ⟨rfl, ⟨nd, rfl⟩⟩; refine ⟨_, rfl, ?_⟩))
     go_meet
     case rel => exact ⟨_, (!t331), (by first | rfl | (simp; done) | (simp [*]; done)), H', ⟨by first | omega | exact Nat.le_refl _⟩, ⟨by (with_reducible repeat first | apply Kd.S_alloc | apply Kd.S_drewN | apply Kd.S_drew); exact Kd.S_mono HO326.out (fun _ hk => ⟨hk.1.2, hk.2⟩)⟩, ⟨by (with_reducible repeat first | apply Kd.R_alloc | apply Kd.R_drewN | apply Kd.R_drew); exact Kd.R_mono HO330.out (fun _ hk => hk.2)⟩, ⟨by (with_reducible repeat first | apply Kd.R_alloc | apply Kd.R_drewN | apply Kd.R_drew); exact Kd.R_mono HO334.out (fun _ hk => hk.2)⟩, ⟨by (with_reducible repeat first | apply Kd.S_alloc | apply Kd.S_drewN | apply Kd.S_drew); exact Kd.S_mono HO323.out (fun _ hk => ⟨hk.1.2, hk.2⟩)⟩, ⟨by (with_reducible repeat first | apply blk_drewN | apply blk_drew | apply blk_alloc); exact BK327.out⟩, ⟨by repeat (first | (with_reducible first | exact HB.out | apply below_alloc | apply pw_below_drewN | apply below_drew1 | refine below_set ?_ GE327.out) | exact HB.out)⟩⟩
   ·replace c16 := Bool.eq_false_iff.mpr c16
    subst c16
    have H1 : (laws_FnPlayCalls.j0 k t324 t328 t331 t332 t335 true t321) = some r := by rw [if_neg (show ¬ (false = true) by decide)] at H; exact H
    clear H; have H := H1; clear H1; have H' := Aside0.mk H; clear H
    obtain ⟨Ao22, co22, eo22⟩ := Kd.R_slice HO330.out
    subst eo22
    obtain ⟨Ao23, co23, eo23⟩ := Kd.R_slice HO334.out
    subst eo23
    go_wp2_with (first | ((with_reducible refine gate_callee (f := 12) rfl ?_); refine goesL_ (some 39) rfl rfl Try.func12 (by kernel_rfl) rfl #[.slice Ao22 t328.length co22, .slice Ao23 t332.length co23] rfl (by (try simp only [List.map_toArray, List.map_cons, List.map_nil]); first | done | rfl) ?_; (with_reducible refine (laws_equalInts.calls k _ _ t328 _ _ t332 false _ ?side1 ?side2 ?side3 ?side4 A15.out).mono ?_); (case side1 => repeat (first | exact (Kd.R_reads' HO330.out).2.2 | with_reducible first | apply Kd.C_alloc | apply Kd.C_drewN | apply Kd.C_drew)); (case side2 => exact (Kd.R_reads' HO330.out).2.1); (case side3 => repeat (first | exact (Kd.R_reads' HO334.out).2.2 | with_reducible first | apply Kd.C_alloc | apply Kd.C_drewN | apply Kd.C_drew)); (case side4 => exact (Kd.R_reads' HO334.out).2.1); rintro e w' ⟨rfl, ⟨nd, rfl⟩⟩; refine ⟨_, rfl, ?_⟩))
    go_meet
    case rel => exact ⟨_, (true), (by first | rfl | (simp; done) | (simp [*]; done)), H', ⟨by first | omega | exact Nat.le_refl _⟩, ⟨by (with_reducible repeat first | apply Kd.S_alloc | apply Kd.S_drewN | apply Kd.S_drew); exact Kd.S_mono HO326.out (fun _ hk => ⟨hk.1.2, hk.2⟩)⟩, ⟨by (with_reducible repeat first | apply Kd.R_alloc | apply Kd.R_drewN | apply Kd.R_drew); exact Kd.R_mono HO330.out (fun _ hk => hk.2)⟩, ⟨by (with_reducible repeat first | apply Kd.R_alloc | apply Kd.R_drewN | apply Kd.R_drew); exact Kd.R_mono HO334.out (fun _ hk => hk.2)⟩, ⟨by (with_reducible repeat first | apply Kd.S_alloc | apply Kd.S_drewN | apply Kd.S_drew); exact Kd.S_mono HO323.out (fun _ hk => ⟨hk.1.2, hk.2⟩)⟩, ⟨by (with_reducible repeat first | apply blk_drewN | apply blk_drew | apply blk_alloc); exact BK327.out⟩, ⟨by repeat (first | (with_reducible first | exact HB.out | apply below_alloc | apply pw_below_drewN | apply below_drew1 | refine below_set ?_ GE327.out) | exact HB.out)⟩⟩
  case rest =>
   clear HC6; try clear c1; try clear c2; try clear c2b0; try clear c2b1; try clear p2; try clear c4; try clear c12; try clear c16; try clear c17; try clear c17b0; try clear c17b1; try clear c17b2; try clear c18; try clear c19; try clear c20; try clear hcz10_0; try clear hcz13_0; try clear hfz10_0; try clear hfz13_0
   obtain ⟨kq, x49_5, rfl, HA, HJ5, HO_4, HO_5, HO_7, HO_328000, BK327, HB⟩ := hcut
   cases kq with
   | zero => exact absurd HA.out (by simp [laws_FnPlayCalls.j0])
   | succ kj5 =>
    have H := HA.out; clear HA
    simp only [laws_FnPlayCalls.j0] at H
    by_cases c24 : x49_5 = true
    ·subst c24
     have H1 : ((laws_equalInts.f kj5 t328 t332).bind fun t337 => (if t337 = true then (some (t331 == t335)) else (some false))) = some r := by rw [if_pos rfl] at H; exact H
     clear H; have H := H1; clear H1
     replace H := Option.bind_eq_some_iff.mp H
     obtain ⟨t337, A250, H⟩ := H
     replace H : (if t337 = true then (some (t331 == t335)) else (some false)) = some r := H
     have A25 := Aside0.mk A250; clear A250
     by_cases c26 : t337 = true
     ·subst c26
      have H1 : (some (t331 == t335)) = some r := by rw [if_pos rfl] at H; exact H
      clear H; have H := H1; clear H1
      obtain rfl := Option.some.inj H
      obtain ⟨Ao27, co27, eo27⟩ := Kd.R_slice HO_5.out
      subst eo27
      obtain ⟨Ao28, co28, eo28⟩ := Kd.R_slice HO_7.out
      subst eo28
      go_wp2_with (first | ((with_reducible refine gate_callee (f := 12) rfl ?_); refine goesL_ (some 52) rfl rfl Try.func12 (by kernel_rfl) rfl #[.slice Ao27 t328.length co27, .slice Ao28 t332.length co28] rfl (by (try simp only [List.map_toArray, List.map_cons, List.map_nil]); first | done | rfl) ?_; (with_reducible refine (laws_equalInts.calls kj5 _ _ t328 _ _ t332 true _ ?side1 ?side2 ?side3 ?side4 A25.out).mono ?_); (case side1 => repeat (first | exact (Kd.R_reads' HO_5.out).2.2 | with_reducible first | apply Kd.C_alloc | apply Kd.C_drewN | apply Kd.C_drew)); (case side2 => exact (Kd.R_reads' HO_5.out).2.1); (case side3 => repeat (first | exact (Kd.R_reads' HO_7.out).2.2 | with_reducible first | apply Kd.C_alloc | apply Kd.C_drewN | apply Kd.C_drew)); (case side4 => exact (Kd.R_reads' HO_7.out).2.1); rintro e w' ⟨rfl, ⟨nd, rfl⟩⟩; refine ⟨_, rfl, ?_⟩))
      go_ret
      exact ⟨by first | rfl | (simp [errW_none, errW_some] <;> rfl) | (simp [*, errW_none, errW_some] <;> rfl), by repeat (first | (with_reducible first | exact HB.out | apply below_alloc | apply pw_below_drewN | apply below_drew1 | refine below_set ?_ GE327.out) | exact HB.out)⟩
     ·replace c26 := Bool.eq_false_iff.mpr c26
      subst c26
      have H1 : (some false) = some r := by rw [if_neg (show ¬ (false = true) by decide)] at H; exact H
      clear H; have H := H1; clear H1
      obtain rfl := Option.some.inj H
      obtain ⟨Ao29, co29, eo29⟩ := Kd.R_slice HO_5.out
      subst eo29
      obtain ⟨Ao30, co30, eo30⟩ := Kd.R_slice HO_7.out
      subst eo30
      go_wp2_with (first | ((with_reducible refine gate_callee (f := 12) rfl ?_); refine goesL_ (some 52) rfl rfl Try.func12 (by kernel_rfl) rfl #[.slice Ao29 t328.length co29, .slice Ao30 t332.length co30] rfl (by (try simp only [List.map_toArray, List.map_cons, List.map_nil]); first | done | rfl) ?_; (with_reducible refine (laws_equalInts.calls kj5 _ _ t328 _ _ t332 false _ ?side1 ?side2 ?side3 ?side4 A25.out).mono ?_); (case side1 => repeat (first | exact (Kd.R_reads' HO_5.out).2.2 | with_reducible first | apply Kd.C_alloc | apply Kd.C_drewN | apply Kd.C_drew)); (case side2 => exact (Kd.R_reads' HO_5.out).2.1); (case side3 => repeat (first | exact (Kd.R_reads' HO_7.out).2.2 | with_reducible first | apply Kd.C_alloc | apply Kd.C_drewN | apply Kd.C_drew)); (case side4 => exact (Kd.R_reads' HO_7.out).2.1); rintro e w' ⟨rfl, ⟨nd, rfl⟩⟩; refine ⟨_, rfl, ?_⟩))
      go_ret
      exact ⟨by first | rfl | (simp [errW_none, errW_some] <;> rfl) | (simp [*, errW_none, errW_some] <;> rfl), by repeat (first | (with_reducible first | exact HB.out | apply below_alloc | apply pw_below_drewN | apply below_drew1 | refine below_set ?_ GE327.out) | exact HB.out)⟩
    ·replace c24 := Bool.eq_false_iff.mpr c24
     subst c24
     have H1 : (laws_FnPlayCalls.l0 kj5 t324 t328 0 t321) = some r := by rw [if_neg (show ¬ (false = true) by decide)] at H; exact H
     clear H; have H := H1; clear H1; have H' := Aside0.mk H; clear H
     go_wp2
     go_loopg [9] kj5 (fun kq v9 w' => ∃ (x9_2 : Int), v9 = .int .i64 x9_2 ∧ Aside0 (laws_FnPlayCalls.l0 kq t324 t328 x9_2 t321 = some r) ∧ Aside0 (kq ≤ kj5) ∧ Aside0 (Kd.S k33 33 w' w.heap.size (fun k_ => some k_ ≠ (v329 : Value).ownBlock) (.slice Ao11 t324.length co11) t324) ∧ Aside0 (Kd.R (Kd.int .i64) 3 w' w.heap.size (fun _ => True) v329 t328) ∧ Aside0 (Kd.S k44 44 w' w.heap.size (fun k_ => some k_ ≠ (v329 : Value).ownBlock) (.slice Ao9 t321.length co9) t321) ∧ Aside0 (w'.heap[gb327]? = some (.cells #[(.slice Ao9 t321.length co9)] 38 (0, 0))) ∧ Aside0 (Below w.heap.size w w'))
     case atStart => exact ⟨(0), (by first | rfl | (simp; done) | (simp [*]; done)), H', ⟨Nat.le_refl _⟩, ⟨by (with_reducible repeat first | apply Kd.S_alloc | apply Kd.S_drewN | apply Kd.S_drew); exact Kd.S_mono HO_4.out (fun _ hk => hk.1)⟩, ⟨by (with_reducible repeat first | apply Kd.R_alloc | apply Kd.R_drewN | apply Kd.R_drew); exact Kd.R_mono HO_5.out (fun _ hk => trivial)⟩, ⟨by (with_reducible repeat first | apply Kd.S_alloc | apply Kd.S_drewN | apply Kd.S_drew); exact Kd.S_mono HO_328000.out (fun _ hk => hk.1)⟩, ⟨by (with_reducible repeat first | apply blk_drewN | apply blk_drew | apply blk_alloc); exact BK327.out⟩, ⟨by repeat (first | (with_reducible first | exact HB.out | apply below_alloc | apply pw_below_drewN | apply below_drew1 | refine below_set ?_ GE327.out) | exact HB.out)⟩⟩
     case round =>
      clear H'; try clear c1; try clear c2; try clear c2b0; try clear c2b1; try clear p2; try clear c4; try clear c12; try clear c16; try clear c17; try clear c17b0; try clear c17b1; try clear c17b2; try clear c18; try clear c19; try clear c20; try clear c24; try clear c26; try clear hcz10_0; try clear hcz13_0; try clear hfz10_0; try clear hfz13_0; try clear p2
      obtain ⟨x9_2, rfl, HA, HK2, HO_4, HO_5, HO_328000, BK327, HB⟩ := hrel
      cases gk with
      | zero => exact absurd HA.out (by simp [laws_FnPlayCalls.l0])
      | succ k2 =>
       have H := HA.out; clear HA
       simp only [laws_FnPlayCalls.l0] at H
       by_cases c31 : x9_2 ≤ (t324.length : Int)
       ·rw [if_pos c31] at H
        have c31b0 : decide (x9_2 ≤ (t324.length : Int)) = true := decide_eq_true c31
        clear c31
        by_cases c32 : 0 ≤ x9_2
        ·rw [if_pos c32] at H
         have c32b0 := eq_true c32
         have c32b1 : decide (0 ≤ x9_2) = true := decide_eq_true c32
         clear c32; have c33b0 := eq_true (of_decide_eq_true (by first | (with_reducible assumption) | assumption) : x9_2 ≤ (t324.length : Int))
         obtain ⟨y338, hy338⟩ : ∃ y_ : List (S33), y_ = (t324.take (x9_2 : Int).toNat) := ⟨_, rfl⟩
         replace H : ((impl_PlayCalls.f k2 t321 y338).bind fun bt342 => (if bt342.2 = true then (if x9_2 ≤ (t328.length : Int) then ((laws_equalInts.f k2 bt342.1 (t328.take (x9_2 : Int).toNat)).bind fun t350 => (if t350 = true then (laws_FnPlayCalls.l0 k2 t324 t328 (wrap64 (x9_2 + 1)) t321) else (some false))) else (none)) else (some false))) = some r := by first | (rw [hy338]; with_reducible exact H) | (have H2_ := (Option.bind_some _ _).symm.trans H; rw [hy338]; with_reducible exact H2_) | (have H2_ := (Option.bind_some _ _).symm.trans H; with_reducible exact H2_) | with_reducible exact H | (rw [hy338]; exact H) | exact H
         have Ny338 := Aside0.mk hy338; clear hy338
         replace H := Option.bind_eq_some_iff.mp H
         obtain ⟨⟨t342, t345⟩, A340, H⟩ := H
         replace H : (if t345 = true then (if x9_2 ≤ (t328.length : Int) then ((laws_equalInts.f k2 t342 (t328.take (x9_2 : Int).toNat)).bind fun t350 => (if t350 = true then (laws_FnPlayCalls.l0 k2 t324 t328 (wrap64 (x9_2 + 1)) t321) else (some false))) else (none)) else (some false)) = some r := H
         have A34 := Aside0.mk A340; clear A340
         by_cases c35 : t345 = true
         ·subst c35
          have H1 : (if x9_2 ≤ (t328.length : Int) then ((laws_equalInts.f k2 t342 (t328.take (x9_2 : Int).toNat)).bind fun t350 => (if t350 = true then (laws_FnPlayCalls.l0 k2 t324 t328 (wrap64 (x9_2 + 1)) t321) else (some false))) else (none)) = some r := by rw [if_pos rfl] at H; exact H
          clear H; have H := H1; clear H1; have c36b0 := eq_true (of_decide_eq_true (by first | (with_reducible assumption) | assumption) : 0 ≤ x9_2)
          by_cases c37 : x9_2 ≤ (t328.length : Int)
          ·rw [if_pos c37] at H
           have c37b0 := eq_true c37
           have c37b1 : decide (x9_2 ≤ (t328.length : Int)) = true := decide_eq_true c37
           clear c37
           obtain ⟨y346, hy346⟩ : ∃ y_ : List Int, y_ = (t328.take (x9_2 : Int).toNat) := ⟨_, rfl⟩
           replace H : ((laws_equalInts.f k2 t342 y346).bind fun t350 => (if t350 = true then (laws_FnPlayCalls.l0 k2 t324 t328 (wrap64 (x9_2 + 1)) t321) else (some false))) = some r := by first | (rw [hy346]; with_reducible exact H) | (have H2_ := (Option.bind_some _ _).symm.trans H; rw [hy346]; with_reducible exact H2_) | (have H2_ := (Option.bind_some _ _).symm.trans H; with_reducible exact H2_) | with_reducible exact H | (rw [hy346]; exact H) | exact H
           have Ny346 := Aside0.mk hy346; clear hy346
           replace H := Option.bind_eq_some_iff.mp H
           obtain ⟨t350, A380, H⟩ := H
           replace H : (if t350 = true then (laws_FnPlayCalls.l0 k2 t324 t328 (wrap64 (x9_2 + 1)) t321) else (some false)) = some r := H
           have A38 := Aside0.mk A380; clear A380
           by_cases c39 : t350 = true
           ·subst c39
            have H1 : (laws_FnPlayCalls.l0 k2 t324 t328 (wrap64 (x9_2 + 1)) t321) = some r := by rw [if_pos rfl] at H; exact H
            clear H; have H := H1; clear H1; have H' := Aside0.mk H; clear H; try go_wp2; replace HO_4 := Aside0.mk (Kd.S_drew HO_4.out); replace HO_5 := Aside0.mk (Kd.R_drew HO_5.out); replace HO_328000 := Aside0.mk (Kd.S_drew HO_328000.out); replace BK327 := Aside0.mk (blk_drew BK327.out); replace HB := Aside0.mk (below_drew1 HB.out)
            have q41 : (x9_2 : Int) ≤ ((t324.length : Int) : Int) := of_decide_eq_true (by first | (with_reducible assumption) | assumption)
            obtain ⟨i041, hi041, _, hsz41, _⟩ := info_parts info33
            have hroom41 : t324.length ≤ co11 := (Kd.S_reads' HO_4.out).2.1
            have hC41 : Kd.C k33 _ Ao11 t324.length t324 := (Kd.S_reads' HO_4.out).2.2
            have hcut41 := cut_to (P := Try.prog) 23 33 .i64 Try.underlying23 hi041 Ao11 t324.length co11 x9_2 (of_decide_eq_true (by first | (with_reducible assumption) | assumption)) q41 hroom41; have hr41 := Kd.C_take (m := (x9_2 : Int).toNat) hC41 (by omega)
            have hy41 : y338.length = (x9_2 : Int).toNat := (by rw [Ny338.out, List.length_take]; omega)
            rw [← Ny338.out] at hr41
            rw [← hy41] at hcut41
            have HR341 := Aside0.mk hr41
            have HC341 := Aside0.mk (show y338.length ≤ co11 from by omega)
            clear hr41 hC41 hroom41 hi041 hsz41; have KY41 := Aside0.mk hy41; clear hy41
            have KL41 := Aside0.mk (show (x9_2 : Int).toNat ≤ t324.length from by omega)
            replace q41 := eq_true q41
            refine start_ (n := 10) (S := fun w' => w'.cell? ⟨gb327, 0, none⟩ = some (.slice Ao9 t321.length co9)) (ds := []) #[false, false, false, false, false, false, false, false, false, false] (by kernel_rfl) rfl rfl ((blk_cell BK327.out 0).trans rfl) (fun hHeld => ?_); refine with_tabW laws_FnPlayCalls.tab11 laws_FnPlayCalls.bits11 (fun HT_ HW_ => ?_)
            generalize wr.drew = w40 at HO_4 HO_5 HO_328000 BK327 HB HR341 hHeld ⊢
            refine pure_ (i := 1) (N := some 66) (v := ?_) (a' := ?_) #[false, true, false, false, false, false, false, false, false, false] rfl rfl (any_of HT_.out (by kernel_rfl)) (fun _ _ _ h => h) (Or.inl ⟨by rfl, ?_⟩) ?_ ?_
            rotate_left
            ·intro w'
             go_simp
             with_reducible rfl
            rotate_left
            ·simp only [Act.put, ps_]
             rfl
            refine pure_ (i := 2) (N := some 67) (v := ?_) (a' := ?_) #[false, true, true, false, false, false, false, false, false, false] rfl rfl (any_of HT_.out (by kernel_rfl)) (fun _ _ _ h => h) (Or.inl ⟨by rfl, ?_⟩) ?_ ?_
            rotate_left
            ·intro w'
             go_simp
             with_reducible rfl
            rotate_left
            ·simp only [Act.put, ps_]
             rfl
            refine pure_ (i := 3) (N := some 68) (v := ?_) (a' := ?_) #[false, true, true, true, false, false, false, false, false, false] rfl rfl (any_of HT_.out (by kernel_rfl)) (fun _ _ _ h => h) (Or.inl ⟨by rfl, ?_⟩) ?_ ?_
            rotate_left
            ·intro w'
             go_simp
             with_reducible rfl
            rotate_left
            ·simp only [Act.put, ps_]
             rfl
            refine take_ (i := 0) (N := some 65) (v := ?_) (a' := ?_) #[true, true, true, true, false, false, false, false, false, false] rfl rfl (take_ofW HT_.out HW_.out (by kernel_rfl)) (fun _ _ _ h => h) (Or.inl ⟨by rfl, ?_⟩) hHeld ?_ ?_
            rotate_left
            ·intro w' s0
             go_simp
             with_reducible rfl
            rotate_left
            ·simp only [Act.put, ps_]
             rfl
            refine one_ (i := 4) (N := some 69) #[true, true, true, true, true, false, false, false, false, false] rfl rfl (one_of HT_.out (by kernel_rfl)) (by decide) (fun K hK => ?_)
            refine goes_ Try.func19 (by kernel_rfl) rfl #[.agg #[.slice Ao9 t321.length co9], .slice Ao11 y338.length co11] (by rfl) rfl rfl (by (try simp only [List.map_toArray, List.map_cons, List.map_nil]); first | done | rfl) ?_
            with_reducible refine (impl_PlayCalls.calls k2 _ _ t321 _ _ y338 t342 true _ ?side1 ?side2 ?side3 ?side4 A34.out).mono ?_
            (case side1 => repeat (first | exact (Kd.S_reads' HO_328000.out).2.2 | with_reducible first | apply Kd.C_alloc | apply Kd.C_drewN | apply Kd.C_drew))
            (case side2 => exact (Kd.S_reads' HO_328000.out).2.1)
            (case side3 => repeat (first | exact (by repeat (first | (with_reducible exact HR341.out) | (with_reducible refine Kd.C_alloc ?_ _) | (with_reducible refine Kd.C_drewN ?_ _) | (with_reducible refine Kd.C_drew ?_) | exact HR341.out)) | with_reducible first | apply Kd.C_alloc | apply Kd.C_drewN | apply Kd.C_drew))
            (case side4 => exact HC341.out)
            rintro e w42 ⟨v343, rfl, ho0, hb⟩
            refine ⟨_, rfl, ?_⟩
            have n0_ := Aside0.mk (Kd.S_elder' (by (with_reducible repeat first | apply Kd.S_alloc | apply Kd.S_drewN | apply Kd.S_drew); exact HO_4.out) (Kd.R_base ho0) hb)
            have n1_ := Aside0.mk (Kd.R_elder' (by (with_reducible repeat first | apply Kd.R_alloc | apply Kd.R_drewN | apply Kd.R_drew); exact HO_5.out) (Kd.R_base ho0) hb)
            have n2_ := Aside0.mk (Kd.S_elder' (by (with_reducible repeat first | apply Kd.S_alloc | apply Kd.S_drewN | apply Kd.S_drew); exact HO_328000.out) (Kd.R_base ho0) hb)
            have n3_ := Aside0.mk (Kd.R_lower (Kd.R_new' ho0 (Kd.R_lt (by (with_reducible repeat first | apply Kd.R_alloc | apply Kd.R_drewN | apply Kd.R_drew); exact HO_5.out))) (below_size (by repeat first | (with_reducible first | exact HB.out | apply below_alloc | apply pw_below_drewN | apply below_drew1 | refine below_set ?_ GE327.out) | exact HB.out)))
            have n4_ := Aside0.mk (blk_below (g := gb327) (o := .cells #[.slice Ao9 t321.length co9] 38 (0, 0)) (by (with_reducible repeat first | apply blk_drewN | apply blk_drew | apply blk_alloc); exact BK327.out) hb)
            have n5_ := Aside0.mk (Kd.C_below (by repeat (first | (with_reducible exact HR341.out) | (with_reducible refine Kd.C_alloc ?_ _) | (with_reducible refine Kd.C_drewN ?_ _) | (with_reducible refine Kd.C_drew ?_) | exact HR341.out)) hb); have n6_ := Aside0.mk (below_step (by repeat first | (with_reducible first | exact HB.out | apply below_alloc | apply pw_below_drewN | apply below_drew1 | refine below_set ?_ GE327.out) | exact HB.out) hb); clear HO_4 HO_5 HO_328000 BK327 HR341 HB; have HO_4 := n0_; have HO_5 := n1_; have HO_328000 := n2_; have HO344 := n3_; have BK327 := n4_; have HR341 := n5_; have HB := n6_; clear n0_ n1_ n2_ n3_ n4_ n5_ n6_
            (try clear hb)
            (try clear hb2)
            (try clear hk)
            (try clear hi)
            (try clear ho0)
            refine hK.out _ _ ((blk_cell BK327.out 0).trans rfl) (fun hHeld => ?_)
            clear hK K
            refine norm_ (a' := ?_) ?_ ?_
            rotate_left
            ·show Act.put _ (some 69) _ = _
             simp only [Act.put, ps_]
             rfl
            refine pure_ (i := 5) (N := some 64) (v := ?_) (a' := ?_) #[true, true, true, true, true, true, false, false, false, false] rfl rfl (any_of HT_.out (by kernel_rfl)) (fun _ _ _ h => h) (Or.inl ⟨by rfl, ?_⟩) ?_ ?_
            rotate_left
            ·intro w'
             go_simp
             with_reducible rfl
            rotate_left
            ·simp only [Act.put, ps_]
             rfl
            refine pure_ (i := 6) (N := some 70) (v := ?_) (a' := ?_) #[true, true, true, true, true, true, true, false, false, false] rfl rfl (any_of HT_.out (by kernel_rfl)) (fun _ _ _ h => h) (Or.inl ⟨by rfl, ?_⟩) ?_ ?_
            rotate_left
            ·intro w'
             go_simp
             with_reducible rfl
            rotate_left
            ·simp only [Act.put, ps_]
             rfl
            refine pure_ (i := 7) (N := some 71) (v := ?_) (a' := ?_) #[true, true, true, true, true, true, true, true, false, false] rfl rfl (any_of HT_.out (by kernel_rfl)) (fun _ _ _ h => h) (Or.inl ⟨by rfl, ?_⟩) ?_ ?_
            rotate_left
            ·intro w'
             go_simp
             with_reducible rfl
            rotate_left
            ·simp only [Act.put, ps_]
             rfl
            refine pure_ (i := 8) (N := some 10) (v := ?_) (a' := ?_) #[true, true, true, true, true, true, true, true, true, false] rfl rfl (any_of HT_.out (by kernel_rfl)) (fun _ _ _ h => h) (Or.inl ⟨by rfl, ?_⟩) ?_ ?_
            rotate_left
            ·intro w'
             go_simp
             with_reducible rfl
            rotate_left
            ·simp only [Act.put, ps_]
             rfl
            refine pure_ (i := 9) (N := some 11) (v := ?_) (a' := ?_) #[true, true, true, true, true, true, true, true, true, true] rfl rfl (any_of HT_.out (by kernel_rfl)) (fun _ _ _ h => h) (Or.inl ⟨by rfl, ?_⟩) ?_ ?_
            rotate_left
            ·intro w'
             go_simp
             with_reducible rfl
            rotate_left
            ·simp only [Act.put, ps_]
             rfl
            refine done_ (done_of HT_.out (by kernel_rfl)) ?_
            obtain ⟨Ao44, co44, eo44⟩ := Kd.R_slice HO_5.out
            subst eo44
            have q43 : (x9_2 : Int) ≤ ((t328.length : Int) : Int) := of_decide_eq_true (by first | (with_reducible assumption) | assumption)
            obtain ⟨i043, hi043, _, hsz43, _⟩ := info_parts info3
            have hroom43 : t328.length ≤ co44 := (Kd.R_reads' HO_5.out).2.1
            have hC43 : Kd.C (Kd.int .i64) _ Ao44 t328.length t328 := (Kd.R_reads' HO_5.out).2.2
            have hcut43 := cut_to (P := Try.prog) 27 3 .i64 Try.underlying27 hi043 Ao44 t328.length co44 x9_2 (of_decide_eq_true (by first | (with_reducible assumption) | assumption)) q43 hroom43; have hr43 := Kd.C_take (m := (x9_2 : Int).toNat) hC43 (by omega)
            have hy43 : y346.length = (x9_2 : Int).toNat := (by rw [Ny346.out, List.length_take]; omega)
            rw [← Ny346.out] at hr43
            rw [← hy43] at hcut43
            have HR349 := Aside0.mk hr43
            have HC349 := Aside0.mk (show y346.length ≤ co44 from by omega)
            clear hr43 hC43 hroom43 hi043 hsz43; have KY43 := Aside0.mk hy43; clear hy43
            have KL43 := Aside0.mk (show (x9_2 : Int).toNat ≤ t328.length from by omega)
            replace q43 := eq_true q43
            obtain ⟨Ao45, co45, eo45⟩ := Kd.R_slice HO344.out
            subst eo45
            try go_wp2_with (first | (go_at_call 12; (with_reducible refine (laws_equalInts.calls k2 _ _ t342 _ _ y346 true _ ?side1 ?side2 ?side3 ?side4 A38.out).mono ?_); (case side1 => repeat (first | exact (Kd.R_reads' HO344.out).2.2 | with_reducible first | apply Kd.C_alloc | apply Kd.C_drewN | apply Kd.C_drew)); (case side2 => exact (Kd.R_reads' HO344.out).2.1); (case side3 => repeat (first | exact (by repeat (first | (with_reducible exact HR349.out) | (with_reducible refine Kd.C_alloc ?_ _) | (with_reducible refine Kd.C_drewN ?_ _) | (with_reducible refine Kd.C_drew ?_) | exact HR349.out)) | with_reducible first | apply Kd.C_alloc | apply Kd.C_drewN | apply Kd.C_drew)); (case side4 => exact HC349.out); rintro e w' ⟨rfl, ⟨nd, rfl⟩⟩))
            go_roundg k2
            case measure => have := HJ5.out; have := HK2.out; omega
            case rel => exact ⟨(wrap64 (x9_2 + 1)), (by first | rfl | (simp; done) | (simp [*]; done)), H', ⟨by have := HJ5.out; have := HK2.out; omega⟩, ⟨by (with_reducible repeat first | apply Kd.S_alloc | apply Kd.S_drewN | apply Kd.S_drew); exact Kd.S_mono HO_4.out (fun _ hk => hk.1)⟩, ⟨by (with_reducible repeat first | apply Kd.R_alloc | apply Kd.R_drewN | apply Kd.R_drew); exact Kd.R_mono HO_5.out (fun _ hk => trivial)⟩, ⟨by (with_reducible repeat first | apply Kd.S_alloc | apply Kd.S_drewN | apply Kd.S_drew); exact Kd.S_mono HO_328000.out (fun _ hk => hk.1)⟩, ⟨by (with_reducible repeat first | apply blk_drewN | apply blk_drew | apply blk_alloc); exact BK327.out⟩, ⟨by repeat (first | (with_reducible first | exact HB.out | apply below_alloc | apply pw_below_drewN | apply below_drew1 | refine below_set ?_ GE327.out) | exact HB.out)⟩⟩
           ·replace c39 := Bool.eq_false_iff.mpr c39
            subst c39
            have H1 : (some false) = some r := by rw [if_neg (show ¬ (false = true) by decide)] at H; exact H
            clear H; have H := H1; clear H1
            obtain rfl := Option.some.inj H
            try go_wp2; replace HO_4 := Aside0.mk (Kd.S_drew HO_4.out); replace HO_5 := Aside0.mk (Kd.R_drew HO_5.out); replace HO_328000 := Aside0.mk (Kd.S_drew HO_328000.out); replace BK327 := Aside0.mk (blk_drew BK327.out); replace HB := Aside0.mk (below_drew1 HB.out)
            have q47 : (x9_2 : Int) ≤ ((t324.length : Int) : Int) := of_decide_eq_true (by first | (with_reducible assumption) | assumption)
            obtain ⟨i047, hi047, _, hsz47, _⟩ := info_parts info33
            have hroom47 : t324.length ≤ co11 := (Kd.S_reads' HO_4.out).2.1
            have hC47 : Kd.C k33 _ Ao11 t324.length t324 := (Kd.S_reads' HO_4.out).2.2
            have hcut47 := cut_to (P := Try.prog) 23 33 .i64 Try.underlying23 hi047 Ao11 t324.length co11 x9_2 (of_decide_eq_true (by first | (with_reducible assumption) | assumption)) q47 hroom47; have hr47 := Kd.C_take (m := (x9_2 : Int).toNat) hC47 (by omega)
            have hy47 : y338.length = (x9_2 : Int).toNat := (by rw [Ny338.out, List.length_take]; omega)
            rw [← Ny338.out] at hr47
            rw [← hy47] at hcut47
            have HR341 := Aside0.mk hr47
            have HC341 := Aside0.mk (show y338.length ≤ co11 from by omega)
            clear hr47 hC47 hroom47 hi047 hsz47; have KY47 := Aside0.mk hy47; clear hy47
            have KL47 := Aside0.mk (show (x9_2 : Int).toNat ≤ t324.length from by omega)
            replace q47 := eq_true q47
            refine start_ (n := 10) (S := fun w' => w'.cell? ⟨gb327, 0, none⟩ = some (.slice Ao9 t321.length co9)) (ds := []) #[false, false, false, false, false, false, false, false, false, false] (by kernel_rfl) rfl rfl ((blk_cell BK327.out 0).trans rfl) (fun hHeld => ?_); refine with_tabW laws_FnPlayCalls.tab11 laws_FnPlayCalls.bits11 (fun HT_ HW_ => ?_)
            generalize wr.drew = w46 at HO_4 HO_5 HO_328000 BK327 HB HR341 hHeld ⊢
            refine pure_ (i := 1) (N := some 66) (v := ?_) (a' := ?_) #[false, true, false, false, false, false, false, false, false, false] rfl rfl (any_of HT_.out (by kernel_rfl)) (fun _ _ _ h => h) (Or.inl ⟨by rfl, ?_⟩) ?_ ?_
            rotate_left
            ·intro w'
             go_simp
             with_reducible rfl
            rotate_left
            ·simp only [Act.put, ps_]
             rfl
            refine pure_ (i := 2) (N := some 67) (v := ?_) (a' := ?_) #[false, true, true, false, false, false, false, false, false, false] rfl rfl (any_of HT_.out (by kernel_rfl)) (fun _ _ _ h => h) (Or.inl ⟨by rfl, ?_⟩) ?_ ?_
            rotate_left
            ·intro w'
             go_simp
             with_reducible rfl
            rotate_left
            ·simp only [Act.put, ps_]
             rfl
            refine pure_ (i := 3) (N := some 68) (v := ?_) (a' := ?_) #[false, true, true, true, false, false, false, false, false, false] rfl rfl (any_of HT_.out (by kernel_rfl)) (fun _ _ _ h => h) (Or.inl ⟨by rfl, ?_⟩) ?_ ?_
            rotate_left
            ·intro w'
             go_simp
             with_reducible rfl
            rotate_left
            ·simp only [Act.put, ps_]
             rfl
            refine take_ (i := 0) (N := some 65) (v := ?_) (a' := ?_) #[true, true, true, true, false, false, false, false, false, false] rfl rfl (take_ofW HT_.out HW_.out (by kernel_rfl)) (fun _ _ _ h => h) (Or.inl ⟨by rfl, ?_⟩) hHeld ?_ ?_
            rotate_left
            ·intro w' s0
             go_simp
             with_reducible rfl
            rotate_left
            ·simp only [Act.put, ps_]
             rfl
            refine one_ (i := 4) (N := some 69) #[true, true, true, true, true, false, false, false, false, false] rfl rfl (one_of HT_.out (by kernel_rfl)) (by decide) (fun K hK => ?_)
            refine goes_ Try.func19 (by kernel_rfl) rfl #[.agg #[.slice Ao9 t321.length co9], .slice Ao11 y338.length co11] (by rfl) rfl rfl (by (try simp only [List.map_toArray, List.map_cons, List.map_nil]); first | done | rfl) ?_
            with_reducible refine (impl_PlayCalls.calls k2 _ _ t321 _ _ y338 t342 true _ ?side1 ?side2 ?side3 ?side4 A34.out).mono ?_
            (case side1 => repeat (first | exact (Kd.S_reads' HO_328000.out).2.2 | with_reducible first | apply Kd.C_alloc | apply Kd.C_drewN | apply Kd.C_drew))
            (case side2 => exact (Kd.S_reads' HO_328000.out).2.1)
            (case side3 => repeat (first | exact (by repeat (first | (with_reducible exact HR341.out) | (with_reducible refine Kd.C_alloc ?_ _) | (with_reducible refine Kd.C_drewN ?_ _) | (with_reducible refine Kd.C_drew ?_) | exact HR341.out)) | with_reducible first | apply Kd.C_alloc | apply Kd.C_drewN | apply Kd.C_drew))
            (case side4 => exact HC341.out)
            rintro e w48 ⟨v343, rfl, ho0, hb⟩
            refine ⟨_, rfl, ?_⟩
            have n0_ := Aside0.mk (Kd.S_elder' (by (with_reducible repeat first | apply Kd.S_alloc | apply Kd.S_drewN | apply Kd.S_drew); exact HO_4.out) (Kd.R_base ho0) hb)
            have n1_ := Aside0.mk (Kd.R_elder' (by (with_reducible repeat first | apply Kd.R_alloc | apply Kd.R_drewN | apply Kd.R_drew); exact HO_5.out) (Kd.R_base ho0) hb)
            have n2_ := Aside0.mk (Kd.S_elder' (by (with_reducible repeat first | apply Kd.S_alloc | apply Kd.S_drewN | apply Kd.S_drew); exact HO_328000.out) (Kd.R_base ho0) hb)
            have n3_ := Aside0.mk (Kd.R_lower (Kd.R_new' ho0 (Kd.R_lt (by (with_reducible repeat first | apply Kd.R_alloc | apply Kd.R_drewN | apply Kd.R_drew); exact HO_5.out))) (below_size (by repeat first | (with_reducible first | exact HB.out | apply below_alloc | apply pw_below_drewN | apply below_drew1 | refine below_set ?_ GE327.out) | exact HB.out)))
            have n4_ := Aside0.mk (blk_below (g := gb327) (o := .cells #[.slice Ao9 t321.length co9] 38 (0, 0)) (by (with_reducible repeat first | apply blk_drewN | apply blk_drew | apply blk_alloc); exact BK327.out) hb)
            have n5_ := Aside0.mk (Kd.C_below (by repeat (first | (with_reducible exact HR341.out) | (with_reducible refine Kd.C_alloc ?_ _) | (with_reducible refine Kd.C_drewN ?_ _) | (with_reducible refine Kd.C_drew ?_) | exact HR341.out)) hb); have n6_ := Aside0.mk (below_step (by repeat first | (with_reducible first | exact HB.out | apply below_alloc | apply pw_below_drewN | apply below_drew1 | refine below_set ?_ GE327.out) | exact HB.out) hb); clear HO_4 HO_5 HO_328000 BK327 HR341 HB; have HO_4 := n0_; have HO_5 := n1_; have HO_328000 := n2_; have HO344 := n3_; have BK327 := n4_; have HR341 := n5_; have HB := n6_; clear n0_ n1_ n2_ n3_ n4_ n5_ n6_
            (try clear hb)
            (try clear hb2)
            (try clear hk)
            (try clear hi)
            (try clear ho0)
            refine hK.out _ _ ((blk_cell BK327.out 0).trans rfl) (fun hHeld => ?_)
            clear hK K
            refine norm_ (a' := ?_) ?_ ?_
            rotate_left
            ·show Act.put _ (some 69) _ = _
             simp only [Act.put, ps_]
             rfl
            refine pure_ (i := 5) (N := some 64) (v := ?_) (a' := ?_) #[true, true, true, true, true, true, false, false, false, false] rfl rfl (any_of HT_.out (by kernel_rfl)) (fun _ _ _ h => h) (Or.inl ⟨by rfl, ?_⟩) ?_ ?_
            rotate_left
            ·intro w'
             go_simp
             with_reducible rfl
            rotate_left
            ·simp only [Act.put, ps_]
             rfl
            refine pure_ (i := 6) (N := some 70) (v := ?_) (a' := ?_) #[true, true, true, true, true, true, true, false, false, false] rfl rfl (any_of HT_.out (by kernel_rfl)) (fun _ _ _ h => h) (Or.inl ⟨by rfl, ?_⟩) ?_ ?_
            rotate_left
            ·intro w'
             go_simp
             with_reducible rfl
            rotate_left
            ·simp only [Act.put, ps_]
             rfl
            refine pure_ (i := 7) (N := some 71) (v := ?_) (a' := ?_) #[true, true, true, true, true, true, true, true, false, false] rfl rfl (any_of HT_.out (by kernel_rfl)) (fun _ _ _ h => h) (Or.inl ⟨by rfl, ?_⟩) ?_ ?_
            rotate_left
            ·intro w'
             go_simp
             with_reducible rfl
            rotate_left
            ·simp only [Act.put, ps_]
             rfl
            refine pure_ (i := 8) (N := some 10) (v := ?_) (a' := ?_) #[true, true, true, true, true, true, true, true, true, false] rfl rfl (any_of HT_.out (by kernel_rfl)) (fun _ _ _ h => h) (Or.inl ⟨by rfl, ?_⟩) ?_ ?_
            rotate_left
            ·intro w'
             go_simp
             with_reducible rfl
            rotate_left
            ·simp only [Act.put, ps_]
             rfl
            refine pure_ (i := 9) (N := some 11) (v := ?_) (a' := ?_) #[true, true, true, true, true, true, true, true, true, true] rfl rfl (any_of HT_.out (by kernel_rfl)) (fun _ _ _ h => h) (Or.inl ⟨by rfl, ?_⟩) ?_ ?_
            rotate_left
            ·intro w'
             go_simp
             with_reducible rfl
            rotate_left
            ·simp only [Act.put, ps_]
             rfl
            refine done_ (done_of HT_.out (by kernel_rfl)) ?_
            obtain ⟨Ao50, co50, eo50⟩ := Kd.R_slice HO_5.out
            subst eo50
            have q49 : (x9_2 : Int) ≤ ((t328.length : Int) : Int) := of_decide_eq_true (by first | (with_reducible assumption) | assumption)
            obtain ⟨i049, hi049, _, hsz49, _⟩ := info_parts info3
            have hroom49 : t328.length ≤ co50 := (Kd.R_reads' HO_5.out).2.1
            have hC49 : Kd.C (Kd.int .i64) _ Ao50 t328.length t328 := (Kd.R_reads' HO_5.out).2.2
            have hcut49 := cut_to (P := Try.prog) 27 3 .i64 Try.underlying27 hi049 Ao50 t328.length co50 x9_2 (of_decide_eq_true (by first | (with_reducible assumption) | assumption)) q49 hroom49; have hr49 := Kd.C_take (m := (x9_2 : Int).toNat) hC49 (by omega)
            have hy49 : y346.length = (x9_2 : Int).toNat := (by rw [Ny346.out, List.length_take]; omega)
            rw [← Ny346.out] at hr49
            rw [← hy49] at hcut49
            have HR349 := Aside0.mk hr49
            have HC349 := Aside0.mk (show y346.length ≤ co50 from by omega)
            clear hr49 hC49 hroom49 hi049 hsz49; have KY49 := Aside0.mk hy49; clear hy49
            have KL49 := Aside0.mk (show (x9_2 : Int).toNat ≤ t328.length from by omega)
            replace q49 := eq_true q49
            obtain ⟨Ao51, co51, eo51⟩ := Kd.R_slice HO344.out
            subst eo51
            try go_wp2_with (first | (go_at_call 12; (with_reducible refine (laws_equalInts.calls k2 _ _ t342 _ _ y346 false _ ?side1 ?side2 ?side3 ?side4 A38.out).mono ?_); (case side1 => repeat (first | exact (Kd.R_reads' HO344.out).2.2 | with_reducible first | apply Kd.C_alloc | apply Kd.C_drewN | apply Kd.C_drew)); (case side2 => exact (Kd.R_reads' HO344.out).2.1); (case side3 => repeat (first | exact (by repeat (first | (with_reducible exact HR349.out) | (with_reducible refine Kd.C_alloc ?_ _) | (with_reducible refine Kd.C_drewN ?_ _) | (with_reducible refine Kd.C_drew ?_) | exact HR349.out)) | with_reducible first | apply Kd.C_alloc | apply Kd.C_drewN | apply Kd.C_drew)); (case side4 => exact HC349.out); rintro e w' ⟨rfl, ⟨nd, rfl⟩⟩))
            go_ret
            exact ⟨by first | rfl | (simp [errW_none, errW_some] <;> rfl) | (simp [*, errW_none, errW_some] <;> rfl), by repeat (first | (with_reducible first | exact HB.out | apply below_alloc | apply pw_below_drewN | apply below_drew1 | refine below_set ?_ GE327.out) | exact HB.out)⟩
          ·rw [if_neg c37] at H
           exact absurd H (by simp)
         ·replace c35 := Bool.eq_false_iff.mpr c35
          subst c35
          have H1 : (some false) = some r := by rw [if_neg (show ¬ (false = true) by decide)] at H; exact H
          clear H; have H := H1; clear H1
          obtain rfl := Option.some.inj H
          try go_wp2; replace HO_4 := Aside0.mk (Kd.S_drew HO_4.out); replace HO_5 := Aside0.mk (Kd.R_drew HO_5.out); replace HO_328000 := Aside0.mk (Kd.S_drew HO_328000.out); replace BK327 := Aside0.mk (blk_drew BK327.out); replace HB := Aside0.mk (below_drew1 HB.out)
          have q53 : (x9_2 : Int) ≤ ((t324.length : Int) : Int) := of_decide_eq_true (by first | (with_reducible assumption) | assumption)
          obtain ⟨i053, hi053, _, hsz53, _⟩ := info_parts info33
          have hroom53 : t324.length ≤ co11 := (Kd.S_reads' HO_4.out).2.1
          have hC53 : Kd.C k33 _ Ao11 t324.length t324 := (Kd.S_reads' HO_4.out).2.2
          have hcut53 := cut_to (P := Try.prog) 23 33 .i64 Try.underlying23 hi053 Ao11 t324.length co11 x9_2 (of_decide_eq_true (by first | (with_reducible assumption) | assumption)) q53 hroom53; have hr53 := Kd.C_take (m := (x9_2 : Int).toNat) hC53 (by omega)
          have hy53 : y338.length = (x9_2 : Int).toNat := (by rw [Ny338.out, List.length_take]; omega)
          rw [← Ny338.out] at hr53
          rw [← hy53] at hcut53
          have HR341 := Aside0.mk hr53
          have HC341 := Aside0.mk (show y338.length ≤ co11 from by omega)
          clear hr53 hC53 hroom53 hi053 hsz53; have KY53 := Aside0.mk hy53; clear hy53
          have KL53 := Aside0.mk (show (x9_2 : Int).toNat ≤ t324.length from by omega)
          replace q53 := eq_true q53
          refine start_ (n := 10) (S := fun w' => w'.cell? ⟨gb327, 0, none⟩ = some (.slice Ao9 t321.length co9)) (ds := []) #[false, false, false, false, false, false, false, false, false, false] (by kernel_rfl) rfl rfl ((blk_cell BK327.out 0).trans rfl) (fun hHeld => ?_); refine with_tabW laws_FnPlayCalls.tab11 laws_FnPlayCalls.bits11 (fun HT_ HW_ => ?_)
          generalize wr.drew = w52 at HO_4 HO_5 HO_328000 BK327 HB HR341 hHeld ⊢
          refine pure_ (i := 1) (N := some 66) (v := ?_) (a' := ?_) #[false, true, false, false, false, false, false, false, false, false] rfl rfl (any_of HT_.out (by kernel_rfl)) (fun _ _ _ h => h) (Or.inl ⟨by rfl, ?_⟩) ?_ ?_
          rotate_left
          ·intro w'
           go_simp
           with_reducible rfl
          rotate_left
          ·simp only [Act.put, ps_]
           rfl
          refine pure_ (i := 2) (N := some 67) (v := ?_) (a' := ?_) #[false, true, true, false, false, false, false, false, false, false] rfl rfl (any_of HT_.out (by kernel_rfl)) (fun _ _ _ h => h) (Or.inl ⟨by rfl, ?_⟩) ?_ ?_
          rotate_left
          ·intro w'
           go_simp
           with_reducible rfl
          rotate_left
          ·simp only [Act.put, ps_]
           rfl
          refine pure_ (i := 3) (N := some 68) (v := ?_) (a' := ?_) #[false, true, true, true, false, false, false, false, false, false] rfl rfl (any_of HT_.out (by kernel_rfl)) (fun _ _ _ h => h) (Or.inl ⟨by rfl, ?_⟩) ?_ ?_
          rotate_left
          ·intro w'
           go_simp
           with_reducible rfl
          rotate_left
          ·simp only [Act.put, ps_]
           rfl
          refine take_ (i := 0) (N := some 65) (v := ?_) (a' := ?_) #[true, true, true, true, false, false, false, false, false, false] rfl rfl (take_ofW HT_.out HW_.out (by kernel_rfl)) (fun _ _ _ h => h) (Or.inl ⟨by rfl, ?_⟩) hHeld ?_ ?_
          rotate_left
          ·intro w' s0
           go_simp
           with_reducible rfl
          rotate_left
          ·simp only [Act.put, ps_]
           rfl
          refine one_ (i := 4) (N := some 69) #[true, true, true, true, true, false, false, false, false, false] rfl rfl (one_of HT_.out (by kernel_rfl)) (by decide) (fun K hK => ?_)
          refine goes_ Try.func19 (by kernel_rfl) rfl #[.agg #[.slice Ao9 t321.length co9], .slice Ao11 y338.length co11] (by rfl) rfl rfl (by (try simp only [List.map_toArray, List.map_cons, List.map_nil]); first | done | rfl) ?_
          with_reducible refine (impl_PlayCalls.calls k2 _ _ t321 _ _ y338 t342 false _ ?side1 ?side2 ?side3 ?side4 A34.out).mono ?_
          (case side1 => repeat (first | exact (Kd.S_reads' HO_328000.out).2.2 | with_reducible first | apply Kd.C_alloc | apply Kd.C_drewN | apply Kd.C_drew))
          (case side2 => exact (Kd.S_reads' HO_328000.out).2.1)
          (case side3 => repeat (first | exact (by repeat (first | (with_reducible exact HR341.out) | (with_reducible refine Kd.C_alloc ?_ _) | (with_reducible refine Kd.C_drewN ?_ _) | (with_reducible refine Kd.C_drew ?_) | exact HR341.out)) | with_reducible first | apply Kd.C_alloc | apply Kd.C_drewN | apply Kd.C_drew))
          (case side4 => exact HC341.out)
          rintro e w54 ⟨v343, rfl, ho0, hb⟩
          refine ⟨_, rfl, ?_⟩
          have n0_ := Aside0.mk (Kd.S_elder' (by (with_reducible repeat first | apply Kd.S_alloc | apply Kd.S_drewN | apply Kd.S_drew); exact HO_4.out) (Kd.R_base ho0) hb)
          have n1_ := Aside0.mk (Kd.R_elder' (by (with_reducible repeat first | apply Kd.R_alloc | apply Kd.R_drewN | apply Kd.R_drew); exact HO_5.out) (Kd.R_base ho0) hb)
          have n2_ := Aside0.mk (Kd.S_elder' (by (with_reducible repeat first | apply Kd.S_alloc | apply Kd.S_drewN | apply Kd.S_drew); exact HO_328000.out) (Kd.R_base ho0) hb)
          have n3_ := Aside0.mk (Kd.R_lower (Kd.R_new' ho0 (Kd.R_lt (by (with_reducible repeat first | apply Kd.R_alloc | apply Kd.R_drewN | apply Kd.R_drew); exact HO_5.out))) (below_size (by repeat first | (with_reducible first | exact HB.out | apply below_alloc | apply pw_below_drewN | apply below_drew1 | refine below_set ?_ GE327.out) | exact HB.out)))
          have n4_ := Aside0.mk (blk_below (g := gb327) (o := .cells #[.slice Ao9 t321.length co9] 38 (0, 0)) (by (with_reducible repeat first | apply blk_drewN | apply blk_drew | apply blk_alloc); exact BK327.out) hb)
          have n5_ := Aside0.mk (Kd.C_below (by repeat (first | (with_reducible exact HR341.out) | (with_reducible refine Kd.C_alloc ?_ _) | (with_reducible refine Kd.C_drewN ?_ _) | (with_reducible refine Kd.C_drew ?_) | exact HR341.out)) hb); have n6_ := Aside0.mk (below_step (by repeat first | (with_reducible first | exact HB.out | apply below_alloc | apply pw_below_drewN | apply below_drew1 | refine below_set ?_ GE327.out) | exact HB.out) hb); clear HO_4 HO_5 HO_328000 BK327 HR341 HB; have HO_4 := n0_; have HO_5 := n1_; have HO_328000 := n2_; have HO344 := n3_; have BK327 := n4_; have HR341 := n5_; have HB := n6_; clear n0_ n1_ n2_ n3_ n4_ n5_ n6_
          (try clear hb)
          (try clear hb2)
          (try clear hk)
          (try clear hi)
          (try clear ho0)
          refine hK.out _ _ ((blk_cell BK327.out 0).trans rfl) (fun hHeld => ?_)
          clear hK K
          refine norm_ (a' := ?_) ?_ ?_
          rotate_left
          ·show Act.put _ (some 69) _ = _
           simp only [Act.put, ps_]
           rfl
          refine pure_ (i := 5) (N := some 64) (v := ?_) (a' := ?_) #[true, true, true, true, true, true, false, false, false, false] rfl rfl (any_of HT_.out (by kernel_rfl)) (fun _ _ _ h => h) (Or.inl ⟨by rfl, ?_⟩) ?_ ?_
          rotate_left
          ·intro w'
           go_simp
           with_reducible rfl
          rotate_left
          ·simp only [Act.put, ps_]
           rfl
          refine pure_ (i := 6) (N := some 70) (v := ?_) (a' := ?_) #[true, true, true, true, true, true, true, false, false, false] rfl rfl (any_of HT_.out (by kernel_rfl)) (fun _ _ _ h => h) (Or.inl ⟨by rfl, ?_⟩) ?_ ?_
          rotate_left
          ·intro w'
           go_simp
           with_reducible rfl
          rotate_left
          ·simp only [Act.put, ps_]
           rfl
          refine pure_ (i := 7) (N := some 71) (v := ?_) (a' := ?_) #[true, true, true, true, true, true, true, true, false, false] rfl rfl (any_of HT_.out (by kernel_rfl)) (fun _ _ _ h => h) (Or.inl ⟨by rfl, ?_⟩) ?_ ?_
          rotate_left
          ·intro w'
           go_simp
           with_reducible rfl
          rotate_left
          ·simp only [Act.put, ps_]
           rfl
          refine pure_ (i := 8) (N := some 10) (v := ?_) (a' := ?_) #[true, true, true, true, true, true, true, true, true, false] rfl rfl (any_of HT_.out (by kernel_rfl)) (fun _ _ _ h => h) (Or.inl ⟨by rfl, ?_⟩) ?_ ?_
          rotate_left
          ·intro w'
           go_simp
           with_reducible rfl
          rotate_left
          ·simp only [Act.put, ps_]
           rfl
          refine pure_ (i := 9) (N := some 11) (v := ?_) (a' := ?_) #[true, true, true, true, true, true, true, true, true, true] rfl rfl (any_of HT_.out (by kernel_rfl)) (fun _ _ _ h => h) (Or.inl ⟨by rfl, ?_⟩) ?_ ?_
          rotate_left
          ·intro w'
           go_simp
           with_reducible rfl
          rotate_left
          ·simp only [Act.put, ps_]
           rfl
          refine done_ (done_of HT_.out (by kernel_rfl)) ?_
          try go_wp2
          go_ret
          exact ⟨by first | rfl | (simp [errW_none, errW_some] <;> rfl) | (simp [*, errW_none, errW_some] <;> rfl), by repeat (first | (with_reducible first | exact HB.out | apply below_alloc | apply pw_below_drewN | apply below_drew1 | refine below_set ?_ GE327.out) | exact HB.out)⟩
        ·rw [if_neg c32] at H
         exact absurd H (by simp)
       ·rw [if_neg c31] at H
        have c31b0 : decide (x9_2 ≤ (t324.length : Int)) = false := decide_eq_false c31
        clear c31; have H' := Aside0.mk H; clear H
        go_wp2
        go_loopg [12] k2 (fun kq v12 w' => ∃ (x12_3 : Int), v12 = .int .i64 x12_3 ∧ Aside0 (laws_FnPlayCalls.l1 kq t324 t328 x12_3 t321 = some r) ∧ Aside0 (kq ≤ k2) ∧ Aside0 (Kd.S k33 33 w' w.heap.size (fun k_ => some k_ ≠ (v329 : Value).ownBlock) (.slice Ao11 t324.length co11) t324) ∧ Aside0 (Kd.R (Kd.int .i64) 3 w' w.heap.size (fun _ => True) v329 t328) ∧ Aside0 (Kd.S k44 44 w' w.heap.size (fun k_ => some k_ ≠ (v329 : Value).ownBlock) (.slice Ao9 t321.length co9) t321) ∧ Aside0 (w'.heap[gb327]? = some (.cells #[(.slice Ao9 t321.length co9)] 38 (0, 0))) ∧ Aside0 (Below w.heap.size w w'))
        case atStart => exact ⟨(0), (by first | rfl | (simp; done) | (simp [*]; done)), H', ⟨Nat.le_refl _⟩, ⟨by (with_reducible repeat first | apply Kd.S_alloc | apply Kd.S_drewN | apply Kd.S_drew); exact HO_4.out⟩, ⟨by (with_reducible repeat first | apply Kd.R_alloc | apply Kd.R_drewN | apply Kd.R_drew); exact HO_5.out⟩, ⟨by (with_reducible repeat first | apply Kd.S_alloc | apply Kd.S_drewN | apply Kd.S_drew); exact HO_328000.out⟩, ⟨by (with_reducible repeat first | apply blk_drewN | apply blk_drew | apply blk_alloc); exact BK327.out⟩, ⟨by repeat (first | (with_reducible first | exact HB.out | apply below_alloc | apply pw_below_drewN | apply below_drew1 | refine below_set ?_ GE327.out) | exact HB.out)⟩⟩
        case round =>
         clear H'; try clear c1; try clear c2; try clear p2; try clear c3; try clear c4; try clear q4; try clear q5; try clear p6; try clear c12; try clear c16; try clear c17; try clear c17b0; try clear c17b1; try clear c17b2; try clear c18; try clear c19; try clear c20; try clear c24; try clear c26; try clear c31; try clear c31b0; try clear c32; try clear c32b0; try clear c32b1; try clear c33; try clear c33b0; try clear c35; try clear c36; try clear c36b0; try clear c37; try clear c37b0; try clear c37b1; try clear c39; try clear q41; try clear q43; try clear q47; try clear q49; try clear q53; try clear hcz10_0; try clear hcz13_0; try clear hfz10_0; try clear hfz13_0; try clear p2; try clear q41; try clear q43; try clear q47; try clear q49; try clear q53
         obtain ⟨x12_3, rfl, HA, HK3, HO_4, HO_5, HO_328000, BK327, HB⟩ := hrel
         cases gk with
         | zero => exact absurd HA.out (by simp [laws_FnPlayCalls.l1])
         | succ k3 =>
          have H := HA.out; clear HA
          simp only [laws_FnPlayCalls.l1] at H
          by_cases c55 : x12_3 < (t321.length : Int)
          ·rw [if_pos c55] at H
           have c55b0 : decide (x12_3 < (t321.length : Int)) = true := decide_eq_true c55
           clear c55
           obtain ⟨y351, hy351⟩ : ∃ y_ : List Int, y_ = (([] : List Int)) := ⟨_, rfl⟩
           replace H : (laws_FnPlayCalls.l2 k3 t324 t328 x12_3 y351 0 t321) = some r := by first | (rw [hy351]; with_reducible exact H) | (have H2_ := (Option.bind_some _ _).symm.trans H; rw [hy351]; with_reducible exact H2_) | (have H2_ := (Option.bind_some _ _).symm.trans H; with_reducible exact H2_) | with_reducible exact H | (rw [hy351]; exact H) | exact H
           have Ny351 := Aside0.mk hy351; clear hy351; have H' := Aside0.mk H; clear H
           have hcz56_0 : wr.cell? ⟨gb327, 0, none⟩ = some (.slice Ao9 t321.length co9) := (blk_cell BK327.out 0).trans rfl
           have hfz56_0 := blk_frozen BK327.out 0
           go_wp2_with (first | ((with_reducible refine gate_dst (N := 89) rfl ?_); refine Kd.R_lit (Kd.int .i64) _ 3 ?hg (N := 89) ?hd (xs := ([] : List Int)) (inner := []) (ok := fun _ => True) (okp := fun _ => True) ?hr ?hp (fun _ hk => hk) trivial (Below.refl _ _) (Nat.le_refl _) (by simp) ?_; (case hd => rfl); (case hg => rfl); (case hr => first | (go_simp; done) | (go_simp; rfl)); (case hp => exact (Reps.none _ _)); intro v352 w57 ho58 hb hg_ hnew_; clear hg_ hnew_; (first | rw [← Ny351.out] at ho58 | (simp only [Int.reduceToNat] at ho58; rw [← Ny351.out] at ho58)); replace HO_4 := Aside0.mk (Kd.S_elder' (by (with_reducible repeat first | apply Kd.S_alloc | apply Kd.S_drewN | apply Kd.S_drew); exact HO_4.out) (Kd.R_base ho58) hb); replace HO_328000 := Aside0.mk (Kd.S_elder' (by (with_reducible repeat first | apply Kd.S_alloc | apply Kd.S_drewN | apply Kd.S_drew); exact HO_328000.out) (Kd.R_base ho58) hb); have HO353 := Aside0.mk (Kd.R_lower (Kd.R_new' ho58 (Kd.R_lt (by (with_reducible repeat first | apply Kd.R_alloc | apply Kd.R_drewN | apply Kd.R_drew); exact HO_5.out))) (below_size (by repeat first | (with_reducible first | exact HB.out | apply below_alloc | apply pw_below_drewN | apply below_drew1 | refine below_set ?_ GE327.out) | exact HB.out))); replace HO_5 := Aside0.mk (Kd.R_elder' (by (with_reducible repeat first | apply Kd.R_alloc | apply Kd.R_drewN | apply Kd.R_drew); exact HO_5.out) (Kd.R_base ho58) hb); replace BK327 := Aside0.mk (blk_below (g := gb327) (o := .cells #[.slice Ao9 t321.length co9] 38 (0, 0)) (by (with_reducible repeat first | apply blk_drewN | apply blk_drew | apply blk_alloc); exact BK327.out) hb); replace HB := Aside0.mk (below_step (by repeat first | (with_reducible first | exact HB.out | apply below_alloc | apply pw_below_drewN | apply below_drew1 | refine below_set ?_ GE327.out) | exact HB.out) hb); clear hb ho58))
           go_loopg [13, 14] k3 (fun kq v13 v14 w' => ∃ (x13_4 : List Int) (x14_4 : Int), v14 = .int .i64 x14_4 ∧ Aside0 (laws_FnPlayCalls.l2 kq t324 t328 x12_3 x13_4 x14_4 t321 = some r) ∧ Aside0 (kq ≤ k3) ∧ Aside0 (Kd.S k33 33 w' w.heap.size (fun k_ => some k_ ≠ (v329 : Value).ownBlock ∧ some k_ ≠ (v13 : Value).ownBlock) (.slice Ao11 t324.length co11) t324) ∧ Aside0 (Kd.R (Kd.int .i64) 3 w' w.heap.size (fun k_ => some k_ ≠ (v13 : Value).ownBlock) v329 t328) ∧ Aside0 (Kd.R (Kd.int .i64) 3 w' w.heap.size (fun k_ => some k_ ≠ (v329 : Value).ownBlock) v13 x13_4) ∧ Aside0 (Kd.S k44 44 w' w.heap.size (fun k_ => some k_ ≠ (v329 : Value).ownBlock ∧ some k_ ≠ (v13 : Value).ownBlock) (.slice Ao9 t321.length co9) t321) ∧ Aside0 (w'.heap[gb327]? = some (.cells #[(.slice Ao9 t321.length co9)] 38 (0, 0))) ∧ Aside0 (Below w.heap.size w w'))
           case atStart => exact ⟨(y351), (0), (by first | rfl | (simp; done) | (simp [*]; done)), H', ⟨Nat.le_refl _⟩, ⟨by (with_reducible repeat first | apply Kd.S_alloc | apply Kd.S_drewN | apply Kd.S_drew); exact HO_4.out⟩, ⟨by (with_reducible repeat first | apply Kd.R_alloc | apply Kd.R_drewN | apply Kd.R_drew); exact Kd.R_mono HO_5.out (fun _ hk => hk.2)⟩, ⟨by (with_reducible repeat first | apply Kd.R_alloc | apply Kd.R_drewN | apply Kd.R_drew); exact Kd.R_mono HO353.out (fun _ hk => hk.2)⟩, ⟨by (with_reducible repeat first | apply Kd.S_alloc | apply Kd.S_drewN | apply Kd.S_drew); exact HO_328000.out⟩, ⟨by (with_reducible repeat first | apply blk_drewN | apply blk_drew | apply blk_alloc); exact BK327.out⟩, ⟨by repeat (first | (with_reducible first | exact HB.out | apply below_alloc | apply pw_below_drewN | apply below_drew1 | refine below_set ?_ GE327.out) | exact HB.out)⟩⟩
           case round =>
            clear H'; try clear c1; try clear c2; try clear p2; try clear c3; try clear c4; try clear q4; try clear c5; try clear q5; try clear p6; try clear c12; try clear c16; try clear c17; try clear c17b0; try clear c17b1; try clear c17b2; try clear c18; try clear c19; try clear c20; try clear c24; try clear c26; try clear c31; try clear c31b0; try clear c32; try clear c32b0; try clear c32b1; try clear c33; try clear c33b0; try clear c35; try clear c36; try clear c36b0; try clear c37; try clear c37b0; try clear c37b1; try clear c39; try clear q41; try clear q43; try clear q47; try clear q49; try clear q53; try clear c55; try clear c55b0; try clear hcz10_0; try clear hcz13_0; try clear hcz56_0; try clear hfz10_0; try clear hfz13_0; try clear hfz56_0; try clear p2; try clear p6; try clear q4; try clear q41; try clear q43; try clear q47; try clear q49; try clear q5; try clear q53
            obtain ⟨x13_4, x14_4, rfl, HA, HK4, HO_4, HO_5, HO_13, HO_328000, BK327, HB⟩ := hrel
            cases gk with
            | zero => exact absurd HA.out (by simp [laws_FnPlayCalls.l2])
            | succ k4 =>
             have H := HA.out; clear HA
             simp only [laws_FnPlayCalls.l2] at H
             by_cases c59 : x14_4 < (t324.length : Int)
             ·rw [if_pos c59] at H
              have c59b0 : decide (x14_4 < (t324.length : Int)) = true := decide_eq_true c59
              clear c59
              by_cases c60 : 0 ≤ x14_4
              ·rw [if_pos c60] at H
               have c60b0 : decide (0 ≤ x14_4) = true := decide_eq_true c60
               clear c60
               by_cases c61 : 0 ≤ x12_3
               ·rw [if_pos c61] at H
                have c61b0 : decide (0 ≤ x12_3) = true := decide_eq_true c61
                clear c61
                by_cases c62 : x12_3 < (t321.length : Int)
                ·rw [if_pos c62] at H
                 have c62b0 : decide (x12_3 < (t321.length : Int)) = true := decide_eq_true c62
                 clear c62
                 by_cases c63 : ((rd_T33 t324 x14_4).f0).toList = ((rd_T44 t321 x12_3).f0).toList
                 ·rw [if_pos c63] at H
                  have c63b0 : (((rd_T33 t324 x14_4).f0).toList == ((rd_T44 t321 x12_3).f0).toList) = true := beq_iff_eq.mpr c63
                  have c63b1 : (((rd_T33 t324 x14_4).f0).toList != ((rd_T44 t321 x12_3).f0).toList) = false := bne_eq_false_iff_eq.mpr c63
                  clear c63
                  by_cases c64 : x14_4 < (t328.length : Int)
                  ·rw [if_pos c64] at H
                   have c64b0 : decide (x14_4 < (t328.length : Int)) = true := decide_eq_true c64
                   clear c64
                   by_cases c65 : x13_4.length < 17592186044416
                   ·rw [if_pos c65] at H
                    have LMc65 := Aside0.mk c65; clear c65
                    obtain ⟨y357, hy357⟩ : ∃ y_ : List Int, y_ = (x13_4 ++ [rd t328 x14_4]) := ⟨_, rfl⟩
                    replace H : (laws_FnPlayCalls.l2 k4 t324 t328 x12_3 y357 (wrap64 (x14_4 + 1)) t321) = some r := by first | (rw [hy357]; with_reducible exact H) | (have H2_ := (Option.bind_some _ _).symm.trans H; rw [hy357]; with_reducible exact H2_) | (have H2_ := (Option.bind_some _ _).symm.trans H; with_reducible exact H2_) | with_reducible exact H | (rw [hy357]; exact H) | exact H
                    have Ny357 := Aside0.mk hy357; clear hy357; have H' := Aside0.mk H; clear H; try go_wp2; replace HO_4 := Aside0.mk (Kd.S_drew HO_4.out); replace HO_5 := Aside0.mk (Kd.R_drew HO_5.out); replace HO_13 := Aside0.mk (Kd.R_drew HO_13.out); replace HO_328000 := Aside0.mk (Kd.S_drew HO_328000.out); replace BK327 := Aside0.mk (blk_drew BK327.out); replace HB := Aside0.mk (below_drew1 HB.out)
                    have p354 : 0 ≤ (x14_4 : Int) := of_decide_eq_true (by first | (with_reducible assumption) | assumption)
                    have q354 : x14_4 < (t324.length : Int) := of_decide_eq_true (by first | (with_reducible assumption) | assumption)
                    obtain ⟨ad354, A354_1, c354_1, e354, hx354_0, hx354_1, hl354_1, hi354_1⟩ := at_T33 (Kd.S_reads' HO_4.out).2.2 x14_4 p354 q354
                    cases e354
                    obtain ⟨ce354, hce354, hMe354, hcc354⟩ := Kd.S_get HO_4.out z33 x14_4 p354 (by first | exact q354 | exact of_decide_eq_true (by first | (with_reducible assumption) | assumption) | (have e_ := (Kd.S_reads' HO_4.out).1; omega))
                    obtain ⟨ve354_1, rfl, ge354_1⟩ := k33_openM hMe354
                    have hv354_1 := hcc354 1 _ rfl
                    rw [add_field _ _ 1 (by omega)] at hv354_1
                    replace hv354_1 := Option.some.inj (hv354_1.symm.trans hx354_1)
                    rw [hv354_1] at ge354_1
                    have HL354_1 := Aside0.mk (show Kd.R (Kd.int .i64) 3 _ _ _ _ ((rd_T33 t324 x14_4).f1) from ge354_1); clear hv354_1 ge354_1 hcc354 hce354; have HR354_1 := Aside0.mk hi354_1; have HC354_1 := Aside0.mk hl354_1; clear hi354_1 hl354_1
                    replace p354 := eq_true p354
                    replace q354 := eq_true q354
                    have p355 : 0 ≤ (x12_3 : Int) := of_decide_eq_true (by first | (with_reducible assumption) | assumption)
                    have q355 : x12_3 < (t321.length : Int) := of_decide_eq_true (by first | (with_reducible assumption) | assumption)
                    obtain ⟨ad355, A355_1, c355_1, e355, hx355_0, hx355_1, hl355_1, hi355_1⟩ := at_T44 (Kd.S_reads' HO_328000.out).2.2 x12_3 p355 q355
                    cases e355
                    obtain ⟨ce355, hce355, hMe355, hcc355⟩ := Kd.S_get HO_328000.out z44 x12_3 p355 (by first | exact q355 | exact of_decide_eq_true (by first | (with_reducible assumption) | assumption) | (have e_ := (Kd.S_reads' HO_328000.out).1; omega))
                    obtain ⟨ve355_1, rfl, ge355_1⟩ := k44_openM hMe355
                    have hv355_1 := hcc355 1 _ rfl
                    rw [add_field _ _ 1 (by omega)] at hv355_1
                    replace hv355_1 := Option.some.inj (hv355_1.symm.trans hx355_1)
                    rw [hv355_1] at ge355_1
                    have HL355_1 := Aside0.mk (show Kd.R (Kd.int .i64) 3 _ _ _ _ ((rd_T44 t321 x12_3).f1) from ge355_1); clear hv355_1 ge355_1 hcc355 hce355; have HR355_1 := Aside0.mk hi355_1; have HC355_1 := Aside0.mk hl355_1; clear hi355_1 hl355_1
                    replace p355 := eq_true p355
                    replace q355 := eq_true q355
                    refine start_ (n := 12) (S := fun w' => w'.cell? ⟨gb327, 0, none⟩ = some (.slice (some ad355) t321.length co9) ∧ w'.cell? (ad354.add ((x14_4).toNat * 2)) = some (.string ((rd_T33 t324 x14_4).f0)) ∧ w'.cell? ⟨(ad354.add ((x14_4).toNat * 2)).block, (ad354.add ((x14_4).toNat * 2)).off + 1, none⟩ = some (.slice A354_1 ((rd_T33 t324 x14_4).f1).length c354_1) ∧ w'.cell? (ad355.add ((x12_3).toNat * 2)) = some (.string ((rd_T44 t321 x12_3).f0)) ∧ w'.cell? ⟨(ad355.add ((x12_3).toNat * 2)).block, (ad355.add ((x12_3).toNat * 2)).off + 1, none⟩ = some (.slice A355_1 ((rd_T44 t321 x12_3).f1).length c355_1)) (ds := []) #[false, false, false, false, false, false, false, false, false, false, false, false] (by kernel_rfl) rfl rfl ⟨(blk_cell BK327.out 0).trans rfl, hx354_0, hx354_1, hx355_0, hx355_1⟩ (fun hHeld => ?_); refine with_tabW laws_FnPlayCalls.tab21 laws_FnPlayCalls.bits21 (fun HT_ HW_ => ?_)
                    generalize wr.drew = w66 at HO_4 HO_5 HO_13 HO_328000 BK327 HB HL354_1 HL355_1 HR354_1 HR355_1 hx354_0 hx354_1 hx355_0 hx355_1 hHeld ⊢
                    refine pure_ (i := 0) (N := some 96) (v := ?_) (a' := ?_) #[true, false, false, false, false, false, false, false, false, false, false, false] rfl rfl (any_of HT_.out (by kernel_rfl)) (fun _ _ _ h => h) (Or.inl ⟨by rfl, ?_⟩) ?_ ?_
                    rotate_left
                    ·intro w'
                     go_simp
                     with_reducible rfl
                    rotate_left
                    ·simp only [Act.put, ps_]
                     rfl
                    refine pure_ (i := 1) (N := some 97) (v := ?_) (a' := ?_) #[true, true, false, false, false, false, false, false, false, false, false, false] rfl rfl (any_of HT_.out (by kernel_rfl)) (fun _ _ _ h => h) (Or.inl ⟨by rfl, ?_⟩) ?_ ?_
                    rotate_left
                    ·intro w'
                     go_simp
                     with_reducible rfl
                    rotate_left
                    ·simp only [Act.put, ps_]
                     rfl
                    refine pure_ (i := 2) (N := some 98) (v := ?_) (a' := ?_) #[true, true, true, false, false, false, false, false, false, false, false, false] rfl rfl (any_of HT_.out (by kernel_rfl)) (fun _ _ _ h => h) (Or.inl ⟨by rfl, ?_⟩) ?_ ?_
                    rotate_left
                    ·intro w'
                     go_simp
                     with_reducible rfl
                    rotate_left
                    ·simp only [Act.put, ps_]
                     rfl
                    refine pure_ (i := 3) (N := some 99) (v := ?_) (a' := ?_) #[true, true, true, true, false, false, false, false, false, false, false, false] rfl rfl (any_of HT_.out (by kernel_rfl)) (fun _ _ _ h => h) (Or.inl ⟨by rfl, ?_⟩) ?_ ?_
                    rotate_left
                    ·intro w'
                     go_simp
                     with_reducible rfl
                    rotate_left
                    ·simp only [Act.put, ps_]
                     rfl
                    refine pure_ (i := 5) (N := some 101) (v := ?_) (a' := ?_) #[true, true, true, true, false, true, false, false, false, false, false, false] rfl rfl (any_of HT_.out (by kernel_rfl)) (fun _ _ _ h => h) (Or.inl ⟨by rfl, ?_⟩) ?_ ?_
                    rotate_left
                    ·intro w'
                     go_simp
                     with_reducible rfl
                    rotate_left
                    ·simp only [Act.put, ps_]
                     rfl
                    refine pure_ (i := 7) (N := some 103) (v := ?_) (a' := ?_) #[true, true, true, true, false, true, false, true, false, false, false, false] rfl rfl (any_of HT_.out (by kernel_rfl)) (fun _ _ _ h => h) (Or.inl ⟨by rfl, ?_⟩) ?_ ?_
                    rotate_left
                    ·intro w'
                     go_simp
                     with_reducible rfl
                    rotate_left
                    ·simp only [Act.put, ps_]
                     rfl
                    refine take_ (i := 4) (N := some 100) (v := ?_) (a' := ?_) #[true, true, true, true, true, true, false, true, false, false, false, false] rfl rfl (take_ofW HT_.out HW_.out (by kernel_rfl)) (fun _ _ _ h => h) (Or.inl ⟨by rfl, ?_⟩) hHeld ?_ ?_
                    rotate_left
                    ·rintro w' ⟨s0, s1, s2, s3, s4⟩
                     go_simp
                     with_reducible rfl
                    rotate_left
                    ·simp only [Act.put, ps_]
                     rfl
                    refine take_ (i := 6) (N := some 102) (v := ?_) (a' := ?_) #[true, true, true, true, true, true, true, true, false, false, false, false] rfl rfl (take_ofW HT_.out HW_.out (by kernel_rfl)) (fun _ _ _ h => h) (Or.inl ⟨by rfl, ?_⟩) hHeld ?_ ?_
                    rotate_left
                    ·rintro w' ⟨s0, s1, s2, s3, s4⟩
                     go_simp
                     with_reducible rfl
                    rotate_left
                    ·simp only [Act.put, ps_]
                     rfl
                    refine pure_ (i := 8) (N := some 104) (v := ?_) (a' := ?_) #[true, true, true, true, true, true, true, true, true, false, false, false] rfl rfl (any_of HT_.out (by kernel_rfl)) (fun _ _ _ h => h) (Or.inl ⟨by rfl, ?_⟩) ?_ ?_
                    rotate_left
                    ·intro w'
                     go_simp
                     with_reducible rfl
                    rotate_left
                    ·simp only [Act.put, ps_]
                     rfl
                    refine pure_ (i := 9) (N := some 105) (v := ?_) (a' := ?_) #[true, true, true, true, true, true, true, true, true, true, false, false] rfl rfl (any_of HT_.out (by kernel_rfl)) (fun _ _ _ h => h) (Or.inl ⟨by rfl, ?_⟩) ?_ ?_
                    rotate_left
                    ·intro w'
                     go_simp
                     with_reducible rfl
                    rotate_left
                    ·simp only [Act.put, ps_]
                     rfl
                    refine take_ (i := 10) (N := some 106) (v := ?_) (a' := ?_) #[true, true, true, true, true, true, true, true, true, true, true, false] rfl rfl (take_ofW HT_.out HW_.out (by kernel_rfl)) (fun _ _ _ h => h) (Or.inl ⟨by rfl, ?_⟩) hHeld ?_ ?_
                    rotate_left
                    ·rintro w' ⟨s0, s1, s2, s3, s4⟩
                     go_simp
                     with_reducible rfl
                    rotate_left
                    ·simp only [Act.put, ps_]
                     rfl
                    refine pure_ (i := 11) (N := some 107) (v := ?_) (a' := ?_) #[true, true, true, true, true, true, true, true, true, true, true, true] rfl rfl (any_of HT_.out (by kernel_rfl)) (fun _ _ _ h => h) (Or.inl ⟨by rfl, ?_⟩) ?_ ?_
                    rotate_left
                    ·intro w'
                     go_simp
                     with_reducible rfl
                    rotate_left
                    ·simp only [Act.put, ps_]
                     rfl
                    refine done_ (done_of HT_.out (by kernel_rfl)) ?_
                    obtain ⟨Ao67, co67, eo67⟩ := Kd.R_slice HO_5.out
                    subst eo67
                    have p356 : 0 ≤ (x14_4 : Int) := of_decide_eq_true (by first | (with_reducible assumption) | assumption)
                    have q356 : x14_4 < (t328.length : Int) := of_decide_eq_true (by first | (with_reducible assumption) | assumption)
                    obtain ⟨ad356, e356, hx356_0⟩ := Kd.at_int (Kd.R_reads' HO_5.out).2.2 x14_4 p356 q356
                    cases e356
                    replace p356 := eq_true p356
                    replace q356 := eq_true q356
                    try go_wp2_with (first | ((with_reducible refine gate_builtin (b := .append) (xs := #[.tmp 108, .tmp 113]) rfl ?_); at_builtin; refine Kd.R_append (Kd.int .i64) (w0 := w) w.heap.size rfl (.tmp 108) (.tmp 113) 27 3 (.int .i64 0) 8 rfl Try.underlying27 info3 rfl (by decide) (by omega) u13 x13_4 (rd t328 x14_4) [.int .i64 (rd t328 x14_4)] (fun k_ => some k_ ≠ (.slice (some ad356) t328.length co67 : Value).ownBlock) (fun _ => False) rfl rfl ?aP (fun _ hk => hk.elim) ?aF ?aO ?aB ?aS ?aL ?_; (case aP => exact rfl); (case aB => exact (by repeat first | (with_reducible first | exact HB.out | apply below_alloc | apply pw_below_drewN | apply below_drew1 | refine below_set ?_ GE327.out) | exact HB.out)); (case aF => exact (fun k_ hk => Kd.fresh' (Kd.R_lt (by (with_reducible repeat first | apply Kd.R_alloc | apply Kd.R_drewN | apply Kd.R_drew); exact HO_5.out)) k_ hk)); (case aO => exact (by (with_reducible repeat first | apply Kd.R_alloc | apply Kd.R_drewN | apply Kd.R_drew); exact HO_13.out)); (case aS => exact (below_size (by repeat first | (with_reducible first | exact HB.out | apply below_alloc | apply pw_below_drewN | apply below_drew1 | refine below_set ?_ GE327.out) | exact HB.out))); (case aL => have := LMc65.out; omega); intro v358 w68 ho hb hg hat; rw [← Ny357.out] at ho; replace HO_4 := Aside0.mk (Kd.S_after (ok := (fun k_ => some k_ ≠ (.slice (some ad356) t328.length co67 : Value).ownBlock)) (by (with_reducible repeat first | apply Kd.S_alloc | apply Kd.S_drewN | apply Kd.S_drew); exact HO_4.out) hg hat); replace HO_5 := Aside0.mk (Kd.R_after (ok := (fun _ => True)) (by (with_reducible repeat first | apply Kd.R_alloc | apply Kd.R_drewN | apply Kd.R_drew); exact Kd.R_mono HO_5.out (fun _ hk => ⟨trivial, hk⟩)) hg hat); replace HO_328000 := Aside0.mk (Kd.S_after (ok := (fun k_ => some k_ ≠ (.slice (some ad356) t328.length co67 : Value).ownBlock)) (by (with_reducible repeat first | apply Kd.S_alloc | apply Kd.S_drewN | apply Kd.S_drew); exact HO_328000.out) hg hat); replace BK327 := Aside0.mk (blk_grown (g := gb327) (o := .cells #[.slice (some ad355) t321.length co9] 38 (0, 0)) (by (with_reducible repeat first | apply blk_drewN | apply blk_drew | apply blk_alloc); exact BK327.out) hg (Kd.R_ne HO_13.out BK327.out (by decide))); replace HL354_1 := Aside0.mk (Kd.R_after (ok := (fun k_ => some k_ ≠ (.slice (some ad354) t324.length co11 : Value).ownBlock ∧ some k_ ≠ (.slice (some ad356) t328.length co67 : Value).ownBlock)) (by (with_reducible repeat first | apply Kd.R_alloc | apply Kd.R_drewN | apply Kd.R_drew); exact Kd.R_mono HL354_1.out (fun _ hk => ⟨⟨hk.2, hk.1.1⟩, hk.1.2⟩)) hg hat); replace HL355_1 := Aside0.mk (Kd.R_after (ok := (fun k_ => some k_ ≠ (.slice (some ad356) t328.length co67 : Value).ownBlock ∧ some k_ ≠ (.slice (some ad355) t321.length co9 : Value).ownBlock)) (by (with_reducible repeat first | apply Kd.R_alloc | apply Kd.R_drewN | apply Kd.R_drew); exact Kd.R_mono HL355_1.out (fun _ hk => ⟨⟨hk.1.1, hk.2⟩, hk.1.2⟩)) hg hat); replace HB := Aside0.mk (hb); have HO359 := Aside0.mk (ho); clear HO_13; clear ho hb hg hat))
                    go_roundg k4
                    case measure => have := HJ5.out; have := HK2.out; have := HK3.out; have := HK4.out; omega
                    case rel => exact ⟨(y357), (wrap64 (x14_4 + 1)), (by first | rfl | (simp; done) | (simp [*]; done)), H', ⟨by have := HJ5.out; have := HK2.out; have := HK3.out; have := HK4.out; omega⟩, ⟨by (with_reducible repeat first | apply Kd.S_alloc | apply Kd.S_drewN | apply Kd.S_drew); exact HO_4.out⟩, ⟨by (with_reducible repeat first | apply Kd.R_alloc | apply Kd.R_drewN | apply Kd.R_drew); exact Kd.R_mono HO_5.out (fun _ hk => hk.2)⟩, ⟨by (with_reducible repeat first | apply Kd.R_alloc | apply Kd.R_drewN | apply Kd.R_drew); exact HO359.out⟩, ⟨by (with_reducible repeat first | apply Kd.S_alloc | apply Kd.S_drewN | apply Kd.S_drew); exact HO_328000.out⟩, ⟨by (with_reducible repeat first | apply blk_drewN | apply blk_drew | apply blk_alloc); exact BK327.out⟩, ⟨by repeat (first | (with_reducible first | exact HB.out | apply below_alloc | apply pw_below_drewN | apply below_drew1 | refine below_set ?_ GE327.out) | exact HB.out)⟩⟩
                   ·rw [if_neg c65] at H
                    exact absurd H (by simp)
                  ·rw [if_neg c64] at H
                   exact absurd H (by simp)
                 ·rw [if_neg c63] at H
                  have c63b0 : (((rd_T33 t324 x14_4).f0).toList == ((rd_T44 t321 x12_3).f0).toList) = false := beq_eq_false_iff_ne.mpr c63
                  have c63b1 : (((rd_T33 t324 x14_4).f0).toList != ((rd_T44 t321 x12_3).f0).toList) = true := bne_iff_ne.mpr c63
                  have H' := Aside0.mk H; clear H; try go_wp2; replace HO_4 := Aside0.mk (Kd.S_drew HO_4.out); replace HO_5 := Aside0.mk (Kd.R_drew HO_5.out); replace HO_13 := Aside0.mk (Kd.R_drew HO_13.out); replace HO_328000 := Aside0.mk (Kd.S_drew HO_328000.out); replace BK327 := Aside0.mk (blk_drew BK327.out); replace HB := Aside0.mk (below_drew1 HB.out)
                  have p354 : 0 ≤ (x14_4 : Int) := of_decide_eq_true (by first | (with_reducible assumption) | assumption)
                  have q354 : x14_4 < (t324.length : Int) := of_decide_eq_true (by first | (with_reducible assumption) | assumption)
                  obtain ⟨ad354, A354_1, c354_1, e354, hx354_0, hx354_1, hl354_1, hi354_1⟩ := at_T33 (Kd.S_reads' HO_4.out).2.2 x14_4 p354 q354
                  cases e354
                  obtain ⟨ce354, hce354, hMe354, hcc354⟩ := Kd.S_get HO_4.out z33 x14_4 p354 (by first | exact q354 | exact of_decide_eq_true (by first | (with_reducible assumption) | assumption) | (have e_ := (Kd.S_reads' HO_4.out).1; omega))
                  obtain ⟨ve354_1, rfl, ge354_1⟩ := k33_openM hMe354
                  have hv354_1 := hcc354 1 _ rfl
                  rw [add_field _ _ 1 (by omega)] at hv354_1
                  replace hv354_1 := Option.some.inj (hv354_1.symm.trans hx354_1)
                  rw [hv354_1] at ge354_1
                  have HL354_1 := Aside0.mk (show Kd.R (Kd.int .i64) 3 _ _ _ _ ((rd_T33 t324 x14_4).f1) from ge354_1); clear hv354_1 ge354_1 hcc354 hce354; have HR354_1 := Aside0.mk hi354_1; have HC354_1 := Aside0.mk hl354_1; clear hi354_1 hl354_1
                  replace p354 := eq_true p354
                  replace q354 := eq_true q354
                  have p355 : 0 ≤ (x12_3 : Int) := of_decide_eq_true (by first | (with_reducible assumption) | assumption)
                  have q355 : x12_3 < (t321.length : Int) := of_decide_eq_true (by first | (with_reducible assumption) | assumption)
                  obtain ⟨ad355, A355_1, c355_1, e355, hx355_0, hx355_1, hl355_1, hi355_1⟩ := at_T44 (Kd.S_reads' HO_328000.out).2.2 x12_3 p355 q355
                  cases e355
                  obtain ⟨ce355, hce355, hMe355, hcc355⟩ := Kd.S_get HO_328000.out z44 x12_3 p355 (by first | exact q355 | exact of_decide_eq_true (by first | (with_reducible assumption) | assumption) | (have e_ := (Kd.S_reads' HO_328000.out).1; omega))
                  obtain ⟨ve355_1, rfl, ge355_1⟩ := k44_openM hMe355
                  have hv355_1 := hcc355 1 _ rfl
                  rw [add_field _ _ 1 (by omega)] at hv355_1
                  replace hv355_1 := Option.some.inj (hv355_1.symm.trans hx355_1)
                  rw [hv355_1] at ge355_1
                  have HL355_1 := Aside0.mk (show Kd.R (Kd.int .i64) 3 _ _ _ _ ((rd_T44 t321 x12_3).f1) from ge355_1); clear hv355_1 ge355_1 hcc355 hce355; have HR355_1 := Aside0.mk hi355_1; have HC355_1 := Aside0.mk hl355_1; clear hi355_1 hl355_1
                  replace p355 := eq_true p355
                  replace q355 := eq_true q355
                  refine start_ (n := 12) (S := fun w' => w'.cell? ⟨gb327, 0, none⟩ = some (.slice (some ad355) t321.length co9) ∧ w'.cell? (ad354.add ((x14_4).toNat * 2)) = some (.string ((rd_T33 t324 x14_4).f0)) ∧ w'.cell? ⟨(ad354.add ((x14_4).toNat * 2)).block, (ad354.add ((x14_4).toNat * 2)).off + 1, none⟩ = some (.slice A354_1 ((rd_T33 t324 x14_4).f1).length c354_1) ∧ w'.cell? (ad355.add ((x12_3).toNat * 2)) = some (.string ((rd_T44 t321 x12_3).f0)) ∧ w'.cell? ⟨(ad355.add ((x12_3).toNat * 2)).block, (ad355.add ((x12_3).toNat * 2)).off + 1, none⟩ = some (.slice A355_1 ((rd_T44 t321 x12_3).f1).length c355_1)) (ds := []) #[false, false, false, false, false, false, false, false, false, false, false, false] (by kernel_rfl) rfl rfl ⟨(blk_cell BK327.out 0).trans rfl, hx354_0, hx354_1, hx355_0, hx355_1⟩ (fun hHeld => ?_); refine with_tabW laws_FnPlayCalls.tab21 laws_FnPlayCalls.bits21 (fun HT_ HW_ => ?_)
                  generalize wr.drew = w69 at HO_4 HO_5 HO_13 HO_328000 BK327 HB HL354_1 HL355_1 HR354_1 HR355_1 hx354_0 hx354_1 hx355_0 hx355_1 hHeld ⊢
                  refine pure_ (i := 0) (N := some 96) (v := ?_) (a' := ?_) #[true, false, false, false, false, false, false, false, false, false, false, false] rfl rfl (any_of HT_.out (by kernel_rfl)) (fun _ _ _ h => h) (Or.inl ⟨by rfl, ?_⟩) ?_ ?_
                  rotate_left
                  ·intro w'
                   go_simp
                   with_reducible rfl
                  rotate_left
                  ·simp only [Act.put, ps_]
                   rfl
                  refine pure_ (i := 1) (N := some 97) (v := ?_) (a' := ?_) #[true, true, false, false, false, false, false, false, false, false, false, false] rfl rfl (any_of HT_.out (by kernel_rfl)) (fun _ _ _ h => h) (Or.inl ⟨by rfl, ?_⟩) ?_ ?_
                  rotate_left
                  ·intro w'
                   go_simp
                   with_reducible rfl
                  rotate_left
                  ·simp only [Act.put, ps_]
                   rfl
                  refine pure_ (i := 2) (N := some 98) (v := ?_) (a' := ?_) #[true, true, true, false, false, false, false, false, false, false, false, false] rfl rfl (any_of HT_.out (by kernel_rfl)) (fun _ _ _ h => h) (Or.inl ⟨by rfl, ?_⟩) ?_ ?_
                  rotate_left
                  ·intro w'
                   go_simp
                   with_reducible rfl
                  rotate_left
                  ·simp only [Act.put, ps_]
                   rfl
                  refine pure_ (i := 3) (N := some 99) (v := ?_) (a' := ?_) #[true, true, true, true, false, false, false, false, false, false, false, false] rfl rfl (any_of HT_.out (by kernel_rfl)) (fun _ _ _ h => h) (Or.inl ⟨by rfl, ?_⟩) ?_ ?_
                  rotate_left
                  ·intro w'
                   go_simp
                   with_reducible rfl
                  rotate_left
                  ·simp only [Act.put, ps_]
                   rfl
                  refine pure_ (i := 5) (N := some 101) (v := ?_) (a' := ?_) #[true, true, true, true, false, true, false, false, false, false, false, false] rfl rfl (any_of HT_.out (by kernel_rfl)) (fun _ _ _ h => h) (Or.inl ⟨by rfl, ?_⟩) ?_ ?_
                  rotate_left
                  ·intro w'
                   go_simp
                   with_reducible rfl
                  rotate_left
                  ·simp only [Act.put, ps_]
                   rfl
                  refine pure_ (i := 7) (N := some 103) (v := ?_) (a' := ?_) #[true, true, true, true, false, true, false, true, false, false, false, false] rfl rfl (any_of HT_.out (by kernel_rfl)) (fun _ _ _ h => h) (Or.inl ⟨by rfl, ?_⟩) ?_ ?_
                  rotate_left
                  ·intro w'
                   go_simp
                   with_reducible rfl
                  rotate_left
                  ·simp only [Act.put, ps_]
                   rfl
                  refine take_ (i := 4) (N := some 100) (v := ?_) (a' := ?_) #[true, true, true, true, true, true, false, true, false, false, false, false] rfl rfl (take_ofW HT_.out HW_.out (by kernel_rfl)) (fun _ _ _ h => h) (Or.inl ⟨by rfl, ?_⟩) hHeld ?_ ?_
                  rotate_left
                  ·rintro w' ⟨s0, s1, s2, s3, s4⟩
                   go_simp
                   with_reducible rfl
                  rotate_left
                  ·simp only [Act.put, ps_]
                   rfl
                  refine take_ (i := 6) (N := some 102) (v := ?_) (a' := ?_) #[true, true, true, true, true, true, true, true, false, false, false, false] rfl rfl (take_ofW HT_.out HW_.out (by kernel_rfl)) (fun _ _ _ h => h) (Or.inl ⟨by rfl, ?_⟩) hHeld ?_ ?_
                  rotate_left
                  ·rintro w' ⟨s0, s1, s2, s3, s4⟩
                   go_simp
                   with_reducible rfl
                  rotate_left
                  ·simp only [Act.put, ps_]
                   rfl
                  refine pure_ (i := 8) (N := some 104) (v := ?_) (a' := ?_) #[true, true, true, true, true, true, true, true, true, false, false, false] rfl rfl (any_of HT_.out (by kernel_rfl)) (fun _ _ _ h => h) (Or.inl ⟨by rfl, ?_⟩) ?_ ?_
                  rotate_left
                  ·intro w'
                   go_simp
                   with_reducible rfl
                  rotate_left
                  ·simp only [Act.put, ps_]
                   rfl
                  refine pure_ (i := 9) (N := some 105) (v := ?_) (a' := ?_) #[true, true, true, true, true, true, true, true, true, true, false, false] rfl rfl (any_of HT_.out (by kernel_rfl)) (fun _ _ _ h => h) (Or.inl ⟨by rfl, ?_⟩) ?_ ?_
                  rotate_left
                  ·intro w'
                   go_simp
                   with_reducible rfl
                  rotate_left
                  ·simp only [Act.put, ps_]
                   rfl
                  refine take_ (i := 10) (N := some 106) (v := ?_) (a' := ?_) #[true, true, true, true, true, true, true, true, true, true, true, false] rfl rfl (take_ofW HT_.out HW_.out (by kernel_rfl)) (fun _ _ _ h => h) (Or.inl ⟨by rfl, ?_⟩) hHeld ?_ ?_
                  rotate_left
                  ·rintro w' ⟨s0, s1, s2, s3, s4⟩
                   go_simp
                   with_reducible rfl
                  rotate_left
                  ·simp only [Act.put, ps_]
                   rfl
                  refine pure_ (i := 11) (N := some 107) (v := ?_) (a' := ?_) #[true, true, true, true, true, true, true, true, true, true, true, true] rfl rfl (any_of HT_.out (by kernel_rfl)) (fun _ _ _ h => h) (Or.inl ⟨by rfl, ?_⟩) ?_ ?_
                  rotate_left
                  ·intro w'
                   go_simp
                   with_reducible rfl
                  rotate_left
                  ·simp only [Act.put, ps_]
                   rfl
                  refine done_ (done_of HT_.out (by kernel_rfl)) ?_
                  try go_wp2
                  go_roundg k4
                  case measure => have := HJ5.out; have := HK2.out; have := HK3.out; have := HK4.out; omega
                  case rel => exact ⟨(x13_4), (wrap64 (x14_4 + 1)), (by first | rfl | (simp; done) | (simp [*]; done)), H', ⟨by have := HJ5.out; have := HK2.out; have := HK3.out; have := HK4.out; omega⟩, ⟨by (with_reducible repeat first | apply Kd.S_alloc | apply Kd.S_drewN | apply Kd.S_drew); exact HO_4.out⟩, ⟨by (with_reducible repeat first | apply Kd.R_alloc | apply Kd.R_drewN | apply Kd.R_drew); exact HO_5.out⟩, ⟨by (with_reducible repeat first | apply Kd.R_alloc | apply Kd.R_drewN | apply Kd.R_drew); exact HO_13.out⟩, ⟨by (with_reducible repeat first | apply Kd.S_alloc | apply Kd.S_drewN | apply Kd.S_drew); exact HO_328000.out⟩, ⟨by (with_reducible repeat first | apply blk_drewN | apply blk_drew | apply blk_alloc); exact BK327.out⟩, ⟨by repeat (first | (with_reducible first | exact HB.out | apply below_alloc | apply pw_below_drewN | apply below_drew1 | refine below_set ?_ GE327.out) | exact HB.out)⟩⟩
                ·rw [if_neg c62] at H
                 exact absurd H (by simp)
               ·rw [if_neg c61] at H
                exact absurd H (by simp)
              ·rw [if_neg c60] at H
               exact absurd H (by simp)
             ·rw [if_neg c59] at H
              have c59b0 : decide (x14_4 < (t324.length : Int)) = false := decide_eq_false c59
              clear c59
              by_cases c70 : 0 ≤ x12_3
              ·rw [if_pos c70] at H
               have c70b0 : decide (0 ≤ x12_3) = true := decide_eq_true c70
               clear c70
               by_cases c71 : x12_3 < (t321.length : Int)
               ·rw [if_pos c71] at H
                have c71b0 : decide (x12_3 < (t321.length : Int)) = true := decide_eq_true c71
                clear c71
                replace H := Option.bind_eq_some_iff.mp H
                obtain ⟨t361, A720, H⟩ := H
                replace H : ((impl_PlayCalls.f k4 t321 t361).bind fun bt364 => (if bt364.2 = true then ((laws_equalInts.f k4 bt364.1 x13_4).bind fun t368 => (if t368 = true then (laws_FnPlayCalls.l1 k4 t324 t328 (wrap64 (x12_3 + 1)) t321) else (some false))) else (some false))) = some r := H
                have A72 := Aside0.mk A720; clear A720
                replace H := Option.bind_eq_some_iff.mp H
                obtain ⟨⟨t364, t367⟩, A730, H⟩ := H
                replace H : (if t367 = true then ((laws_equalInts.f k4 t364 x13_4).bind fun t368 => (if t368 = true then (laws_FnPlayCalls.l1 k4 t324 t328 (wrap64 (x12_3 + 1)) t321) else (some false))) else (some false)) = some r := H
                have A73 := Aside0.mk A730; clear A730
                by_cases c74 : t367 = true
                ·subst c74
                 have H1 : ((laws_equalInts.f k4 t364 x13_4).bind fun t368 => (if t368 = true then (laws_FnPlayCalls.l1 k4 t324 t328 (wrap64 (x12_3 + 1)) t321) else (some false))) = some r := by rw [if_pos rfl] at H; exact H
                 clear H; have H := H1; clear H1
                 replace H := Option.bind_eq_some_iff.mp H
                 obtain ⟨t368, A750, H⟩ := H
                 replace H : (if t368 = true then (laws_FnPlayCalls.l1 k4 t324 t328 (wrap64 (x12_3 + 1)) t321) else (some false)) = some r := H
                 have A75 := Aside0.mk A750; clear A750
                 by_cases c76 : t368 = true
                 ·subst c76
                  have H1 : (laws_FnPlayCalls.l1 k4 t324 t328 (wrap64 (x12_3 + 1)) t321) = some r := by rw [if_pos rfl] at H; exact H
                  clear H; have H := H1; clear H1; have H' := Aside0.mk H; clear H; try go_wp2; replace HO_4 := Aside0.mk (Kd.S_drew HO_4.out); replace HO_5 := Aside0.mk (Kd.R_drew HO_5.out); replace HO_13 := Aside0.mk (Kd.R_drew HO_13.out); replace HO_328000 := Aside0.mk (Kd.S_drew HO_328000.out); replace BK327 := Aside0.mk (blk_drew BK327.out); replace HB := Aside0.mk (below_drew1 HB.out)
                  have p360 : 0 ≤ (x12_3 : Int) := of_decide_eq_true (by first | (with_reducible assumption) | assumption)
                  have q360 : x12_3 < (t321.length : Int) := of_decide_eq_true (by first | (with_reducible assumption) | assumption)
                  obtain ⟨ad360, A360_1, c360_1, e360, hx360_0, hx360_1, hl360_1, hi360_1⟩ := at_T44 (Kd.S_reads' HO_328000.out).2.2 x12_3 p360 q360
                  cases e360
                  obtain ⟨ce360, hce360, hMe360, hcc360⟩ := Kd.S_get HO_328000.out z44 x12_3 p360 (by first | exact q360 | exact of_decide_eq_true (by first | (with_reducible assumption) | assumption) | (have e_ := (Kd.S_reads' HO_328000.out).1; omega))
                  obtain ⟨ve360_1, rfl, ge360_1⟩ := k44_openM hMe360
                  have hv360_1 := hcc360 1 _ rfl
                  rw [add_field _ _ 1 (by omega)] at hv360_1
                  replace hv360_1 := Option.some.inj (hv360_1.symm.trans hx360_1)
                  rw [hv360_1] at ge360_1
                  have HL360_1 := Aside0.mk (show Kd.R (Kd.int .i64) 3 _ _ _ _ ((rd_T44 t321 x12_3).f1) from ge360_1); clear hv360_1 ge360_1 hcc360 hce360; have HR360_1 := Aside0.mk hi360_1; have HC360_1 := Aside0.mk hl360_1; clear hi360_1 hl360_1
                  replace p360 := eq_true p360
                  replace q360 := eq_true q360
                  refine start_ (n := 15) (S := fun w' => w'.cell? ⟨gb327, 0, none⟩ = some (.slice (some ad360) t321.length co9) ∧ w'.cell? (ad360.add ((x12_3).toNat * 2)) = some (.string ((rd_T44 t321 x12_3).f0)) ∧ w'.cell? ⟨(ad360.add ((x12_3).toNat * 2)).block, (ad360.add ((x12_3).toNat * 2)).off + 1, none⟩ = some (.slice A360_1 ((rd_T44 t321 x12_3).f1).length c360_1)) (ds := []) #[false, false, false, false, false, false, false, false, false, false, false, false, false, false, false] (by kernel_rfl) rfl rfl ⟨(blk_cell BK327.out 0).trans rfl, hx360_0, hx360_1⟩ (fun hHeld => ?_); refine with_tabW laws_FnPlayCalls.tab23 laws_FnPlayCalls.bits23 (fun HT_ HW_ => ?_)
                  generalize wr.drew = w77 at HO_4 HO_5 HO_13 HO_328000 BK327 HB HL360_1 HR360_1 hx360_0 hx360_1 hHeld ⊢
                  refine pure_ (i := 1) (N := some 117) (v := ?_) (a' := ?_) #[false, true, false, false, false, false, false, false, false, false, false, false, false, false, false] rfl rfl (any_of HT_.out (by kernel_rfl)) (fun _ _ _ h => h) (Or.inl ⟨by rfl, ?_⟩) ?_ ?_
                  rotate_left
                  ·intro w'
                   go_simp
                   with_reducible rfl
                  rotate_left
                  ·simp only [Act.put, ps_]
                   rfl
                  refine pure_ (i := 2) (N := some 118) (v := ?_) (a' := ?_) #[false, true, true, false, false, false, false, false, false, false, false, false, false, false, false] rfl rfl (any_of HT_.out (by kernel_rfl)) (fun _ _ _ h => h) (Or.inl ⟨by rfl, ?_⟩) ?_ ?_
                  rotate_left
                  ·intro w'
                   go_simp
                   with_reducible rfl
                  rotate_left
                  ·simp only [Act.put, ps_]
                   rfl
                  refine pure_ (i := 4) (N := some 120) (v := ?_) (a' := ?_) #[false, true, true, false, true, false, false, false, false, false, false, false, false, false, false] rfl rfl (any_of HT_.out (by kernel_rfl)) (fun _ _ _ h => h) (Or.inl ⟨by rfl, ?_⟩) ?_ ?_
                  rotate_left
                  ·intro w'
                   go_simp
                   with_reducible rfl
                  rotate_left
                  ·simp only [Act.put, ps_]
                   rfl
                  refine take_ (i := 0) (N := some 116) (v := ?_) (a' := ?_) #[true, true, true, false, true, false, false, false, false, false, false, false, false, false, false] rfl rfl (take_ofW HT_.out HW_.out (by kernel_rfl)) (fun _ _ _ h => h) (Or.inl ⟨by rfl, ?_⟩) hHeld ?_ ?_
                  rotate_left
                  ·rintro w' ⟨s0, s1, s2⟩
                   go_simp
                   with_reducible rfl
                  rotate_left
                  ·simp only [Act.put, ps_]
                   rfl
                  refine take_ (i := 3) (N := some 119) (v := ?_) (a' := ?_) #[true, true, true, true, true, false, false, false, false, false, false, false, false, false, false] rfl rfl (take_ofW HT_.out HW_.out (by kernel_rfl)) (fun _ _ _ h => h) (Or.inl ⟨by rfl, ?_⟩) hHeld ?_ ?_
                  rotate_left
                  ·rintro w' ⟨s0, s1, s2⟩
                   go_simp
                   with_reducible rfl
                  rotate_left
                  ·simp only [Act.put, ps_]
                   rfl
                  refine pure_ (i := 5) (N := some 121) (v := ?_) (a' := ?_) #[true, true, true, true, true, true, false, false, false, false, false, false, false, false, false] rfl rfl (any_of HT_.out (by kernel_rfl)) (fun _ _ _ h => h) (Or.inl ⟨by rfl, ?_⟩) ?_ ?_
                  rotate_left
                  ·intro w'
                   go_simp
                   with_reducible rfl
                  rotate_left
                  ·simp only [Act.put, ps_]
                   rfl
                  refine pure_ (i := 6) (N := some 122) (v := ?_) (a' := ?_) #[true, true, true, true, true, true, true, false, false, false, false, false, false, false, false] rfl rfl (any_of HT_.out (by kernel_rfl)) (fun _ _ _ h => h) (Or.inl ⟨by rfl, ?_⟩) ?_ ?_
                  rotate_left
                  ·intro w'
                   go_simp
                   with_reducible rfl
                  rotate_left
                  ·simp only [Act.put, ps_]
                   rfl
                  refine take_ (i := 7) (N := some 123) (v := ?_) (a' := ?_) #[true, true, true, true, true, true, true, true, false, false, false, false, false, false, false] rfl rfl (take_ofW HT_.out HW_.out (by kernel_rfl)) (fun _ _ _ h => h) (Or.inl ⟨by rfl, ?_⟩) hHeld ?_ ?_
                  rotate_left
                  ·rintro w' ⟨s0, s1, s2⟩
                   go_simp
                   with_reducible rfl
                  rotate_left
                  ·simp only [Act.put, ps_]
                   rfl
                  refine one_ (i := 8) (N := some 124) #[true, true, true, true, true, true, true, true, true, false, false, false, false, false, false] rfl rfl (one_of HT_.out (by kernel_rfl)) (by decide) (fun K hK => ?_)
                  refine goes_ Try.func21 (by kernel_rfl) rfl #[.slice Ao11 t324.length co11, .string ((rd_T44 t321 x12_3).f0)] (by rfl) rfl rfl (by (try simp only [List.map_toArray, List.map_cons, List.map_nil]); first | done | rfl) ?_
                  with_reducible refine (impl_CallsOf.calls k4 _ _ t324 ((rd_T44 t321 x12_3).f0) t361 _ ?side1 ?side2 A72.out).mono ?_
                  (case side1 => repeat (first | exact (Kd.S_reads' HO_4.out).2.2 | with_reducible first | apply Kd.C_alloc | apply Kd.C_drewN | apply Kd.C_drew))
                  (case side2 => exact (Kd.S_reads' HO_4.out).2.1)
                  rintro e w78 ⟨v362, rfl, ho0, hb⟩
                  have HS1_ := (hb.cell (World.block_lt_of_cell? _ _ (hHeld.2.1))).trans (hHeld.2.1); have HS2_ := (hb.cell (World.block_lt_of_cell? _ _ (hHeld.2.2))).trans (hHeld.2.2)
                  refine ⟨_, rfl, ?_⟩
                  have n0_ := Aside0.mk (Kd.S_elder' (by (with_reducible repeat first | apply Kd.S_alloc | apply Kd.S_drewN | apply Kd.S_drew); exact HO_4.out) (Kd.S_base ho0) hb)
                  have n1_ := Aside0.mk (Kd.R_below (by (with_reducible repeat first | apply Kd.R_alloc | apply Kd.R_drewN | apply Kd.R_drew); exact HO_5.out) hb)
                  have n2_ := Aside0.mk (Kd.R_below (by (with_reducible repeat first | apply Kd.R_alloc | apply Kd.R_drewN | apply Kd.R_drew); exact HO_13.out) hb)
                  have n3_ := Aside0.mk (Kd.S_below (by (with_reducible repeat first | apply Kd.S_alloc | apply Kd.S_drewN | apply Kd.S_drew); exact HO_328000.out) hb)
                  have n4_ := Aside0.mk (Kd.R_below (by (with_reducible repeat first | apply Kd.R_alloc | apply Kd.R_drewN | apply Kd.R_drew); exact HL360_1.out) hb)
                  have n5_ := Aside0.mk (Kd.S_lower (Kd.S_new' (Kd.S_new' (Kd.S_new' (Kd.S_new' ho0 (Kd.S_lt (by (with_reducible repeat first | apply Kd.S_alloc | apply Kd.S_drewN | apply Kd.S_drew); exact HO_4.out))) (Kd.R_lt (by (with_reducible repeat first | apply Kd.R_alloc | apply Kd.R_drewN | apply Kd.R_drew); exact HO_5.out))) (Kd.R_lt (by (with_reducible repeat first | apply Kd.R_alloc | apply Kd.R_drewN | apply Kd.R_drew); exact HO_13.out))) (Kd.R_lt (by (with_reducible repeat first | apply Kd.R_alloc | apply Kd.R_drewN | apply Kd.R_drew); exact HL360_1.out))) (below_size (by repeat first | (with_reducible first | exact HB.out | apply below_alloc | apply pw_below_drewN | apply below_drew1 | refine below_set ?_ GE327.out) | exact HB.out)))
                  have n6_ := Aside0.mk (blk_below (g := gb327) (o := .cells #[.slice (some ad360) t321.length co9] 38 (0, 0)) (by (with_reducible repeat first | apply blk_drewN | apply blk_drew | apply blk_alloc); exact BK327.out) hb)
                  have n7_ := Aside0.mk (Kd.C_below (by repeat (first | (with_reducible exact HR360_1.out) | (with_reducible refine Kd.C_alloc ?_ _) | (with_reducible refine Kd.C_drewN ?_ _) | (with_reducible refine Kd.C_drew ?_) | exact HR360_1.out)) hb); have n8_ := Aside0.mk (below_step (by repeat first | (with_reducible first | exact HB.out | apply below_alloc | apply pw_below_drewN | apply below_drew1 | refine below_set ?_ GE327.out) | exact HB.out) hb); clear HO_4 HO_5 HO_13 HO_328000 HL360_1 BK327 HR360_1 HB; have HO_4 := n0_; have HO_5 := n1_; have HO_13 := n2_; have HO_328000 := n3_; have HL360_1 := n4_; have HO363 := n5_; have BK327 := n6_; have HR360_1 := n7_; have HB := n8_; clear n0_ n1_ n2_ n3_ n4_ n5_ n6_ n7_ n8_
                  (try clear hb)
                  (try clear hb2)
                  (try clear hk)
                  (try clear hi)
                  (try clear ho0)
                  obtain ⟨Ao79, co79, eo79⟩ := Kd.S_slice HO363.out
                  (first | subst eo79 | (injection eo79 with f1_ f2_ f3_; have f4_ := f1_.symm; have f5_ := f3_.symm; clear f1_ f2_ f3_; subst f4_; subst f5_))
                  refine hK.out _ _ ⟨(blk_cell BK327.out 0).trans rfl, HS1_, HS2_⟩ (fun hHeld => ?_)
                  clear hK K
                  refine norm_ (a' := ?_) ?_ ?_
                  rotate_left
                  ·show Act.put _ (some 124) _ = _
                   simp only [Act.put, ps_]
                   rfl
                  refine one_ (i := 9) (N := some 125) #[true, true, true, true, true, true, true, true, true, true, false, false, false, false, false] rfl rfl (one_of HT_.out (by kernel_rfl)) (by decide) (fun K hK => ?_)
                  refine goes_ Try.func19 (by kernel_rfl) rfl #[.agg #[.slice (some ad360) t321.length co9], .slice Ao79 t361.length co79] (by rfl) rfl rfl (by (try simp only [List.map_toArray, List.map_cons, List.map_nil]); first | done | rfl) ?_
                  with_reducible refine (impl_PlayCalls.calls k4 _ _ t321 _ _ t361 t364 true _ ?side1 ?side2 ?side3 ?side4 A73.out).mono ?_
                  (case side1 => repeat (first | exact (Kd.S_reads' HO_328000.out).2.2 | with_reducible first | apply Kd.C_alloc | apply Kd.C_drewN | apply Kd.C_drew))
                  (case side2 => exact (Kd.S_reads' HO_328000.out).2.1)
                  (case side3 => repeat (first | exact (Kd.S_reads' HO363.out).2.2 | with_reducible first | apply Kd.C_alloc | apply Kd.C_drewN | apply Kd.C_drew))
                  (case side4 => exact (Kd.S_reads' HO363.out).2.1)
                  rintro e w80 ⟨v365, rfl, ho0, hb⟩
                  have HS1_ := (hb.cell (World.block_lt_of_cell? _ _ (hHeld.2.1))).trans (hHeld.2.1); have HS2_ := (hb.cell (World.block_lt_of_cell? _ _ (hHeld.2.2))).trans (hHeld.2.2)
                  refine ⟨_, rfl, ?_⟩
                  have n0_ := Aside0.mk (Kd.S_elder' (by (with_reducible repeat first | apply Kd.S_alloc | apply Kd.S_drewN | apply Kd.S_drew); exact HO_4.out) (Kd.R_base ho0) hb)
                  have n1_ := Aside0.mk (Kd.R_elder' (by (with_reducible repeat first | apply Kd.R_alloc | apply Kd.R_drewN | apply Kd.R_drew); exact HO_5.out) (Kd.R_base ho0) hb)
                  have n2_ := Aside0.mk (Kd.R_elder' (by (with_reducible repeat first | apply Kd.R_alloc | apply Kd.R_drewN | apply Kd.R_drew); exact HO_13.out) (Kd.R_base ho0) hb)
                  have n3_ := Aside0.mk (Kd.S_elder' (by (with_reducible repeat first | apply Kd.S_alloc | apply Kd.S_drewN | apply Kd.S_drew); exact HO_328000.out) (Kd.R_base ho0) hb)
                  have n4_ := Aside0.mk (Kd.R_elder' (by (with_reducible repeat first | apply Kd.R_alloc | apply Kd.R_drewN | apply Kd.R_drew); exact HL360_1.out) (Kd.R_base ho0) hb)
                  have n5_ := Aside0.mk (Kd.S_elder' (by (with_reducible repeat first | apply Kd.S_alloc | apply Kd.S_drewN | apply Kd.S_drew); exact HO363.out) (Kd.R_base ho0) hb)
                  have n6_ := Aside0.mk (Kd.R_lower (Kd.R_new' (Kd.R_new' (Kd.R_new' ho0 (Kd.R_lt (by (with_reducible repeat first | apply Kd.R_alloc | apply Kd.R_drewN | apply Kd.R_drew); exact HO_5.out))) (Kd.R_lt (by (with_reducible repeat first | apply Kd.R_alloc | apply Kd.R_drewN | apply Kd.R_drew); exact HO_13.out))) (Kd.R_lt (by (with_reducible repeat first | apply Kd.R_alloc | apply Kd.R_drewN | apply Kd.R_drew); exact HL360_1.out))) (below_size (by repeat first | (with_reducible first | exact HB.out | apply below_alloc | apply pw_below_drewN | apply below_drew1 | refine below_set ?_ GE327.out) | exact HB.out)))
                  have n7_ := Aside0.mk (blk_below (g := gb327) (o := .cells #[.slice (some ad360) t321.length co9] 38 (0, 0)) (by (with_reducible repeat first | apply blk_drewN | apply blk_drew | apply blk_alloc); exact BK327.out) hb)
                  have n8_ := Aside0.mk (Kd.C_below (by repeat (first | (with_reducible exact HR360_1.out) | (with_reducible refine Kd.C_alloc ?_ _) | (with_reducible refine Kd.C_drewN ?_ _) | (with_reducible refine Kd.C_drew ?_) | exact HR360_1.out)) hb); have n9_ := Aside0.mk (below_step (by repeat first | (with_reducible first | exact HB.out | apply below_alloc | apply pw_below_drewN | apply below_drew1 | refine below_set ?_ GE327.out) | exact HB.out) hb); clear HO_4 HO_5 HO_13 HO_328000 HL360_1 HO363 BK327 HR360_1 HB; have HO_4 := n0_; have HO_5 := n1_; have HO_13 := n2_; have HO_328000 := n3_; have HL360_1 := n4_; have HO363 := n5_; have HO366 := n6_; have BK327 := n7_; have HR360_1 := n8_; have HB := n9_; clear n0_ n1_ n2_ n3_ n4_ n5_ n6_ n7_ n8_ n9_
                  (try clear hb)
                  (try clear hb2)
                  (try clear hk)
                  (try clear hi)
                  (try clear ho0)
                  refine hK.out _ _ ⟨(blk_cell BK327.out 0).trans rfl, HS1_, HS2_⟩ (fun hHeld => ?_)
                  clear hK K
                  refine norm_ (a' := ?_) ?_ ?_
                  rotate_left
                  ·show Act.put _ (some 125) _ = _
                   simp only [Act.put, ps_]
                   rfl
                  refine pure_ (i := 10) (N := some 115) (v := ?_) (a' := ?_) #[true, true, true, true, true, true, true, true, true, true, true, false, false, false, false] rfl rfl (any_of HT_.out (by kernel_rfl)) (fun _ _ _ h => h) (Or.inl ⟨by rfl, ?_⟩) ?_ ?_
                  rotate_left
                  ·intro w'
                   go_simp
                   with_reducible rfl
                  rotate_left
                  ·simp only [Act.put, ps_]
                   rfl
                  refine pure_ (i := 11) (N := some 126) (v := ?_) (a' := ?_) #[true, true, true, true, true, true, true, true, true, true, true, true, false, false, false] rfl rfl (any_of HT_.out (by kernel_rfl)) (fun _ _ _ h => h) (Or.inl ⟨by rfl, ?_⟩) ?_ ?_
                  rotate_left
                  ·intro w'
                   go_simp
                   with_reducible rfl
                  rotate_left
                  ·simp only [Act.put, ps_]
                   rfl
                  refine pure_ (i := 12) (N := some 127) (v := ?_) (a' := ?_) #[true, true, true, true, true, true, true, true, true, true, true, true, true, false, false] rfl rfl (any_of HT_.out (by kernel_rfl)) (fun _ _ _ h => h) (Or.inl ⟨by rfl, ?_⟩) ?_ ?_
                  rotate_left
                  ·intro w'
                   go_simp
                   with_reducible rfl
                  rotate_left
                  ·simp only [Act.put, ps_]
                   rfl
                  refine pure_ (i := 13) (N := some 15) (v := ?_) (a' := ?_) #[true, true, true, true, true, true, true, true, true, true, true, true, true, true, false] rfl rfl (any_of HT_.out (by kernel_rfl)) (fun _ _ _ h => h) (Or.inl ⟨by rfl, ?_⟩) ?_ ?_
                  rotate_left
                  ·intro w'
                   go_simp
                   with_reducible rfl
                  rotate_left
                  ·simp only [Act.put, ps_]
                   rfl
                  refine pure_ (i := 14) (N := some 16) (v := ?_) (a' := ?_) #[true, true, true, true, true, true, true, true, true, true, true, true, true, true, true] rfl rfl (any_of HT_.out (by kernel_rfl)) (fun _ _ _ h => h) (Or.inl ⟨by rfl, ?_⟩) ?_ ?_
                  rotate_left
                  ·intro w'
                   go_simp
                   with_reducible rfl
                  rotate_left
                  ·simp only [Act.put, ps_]
                   rfl
                  refine done_ (done_of HT_.out (by kernel_rfl)) ?_
                  obtain ⟨Ao81, co81, eo81⟩ := Kd.R_slice HO366.out
                  subst eo81
                  obtain ⟨Ao82, co82, eo82⟩ := Kd.R_slice HO_13.out
                  subst eo82
                  try go_wp2_with (first | (go_at_call 12; (with_reducible refine (laws_equalInts.calls k4 _ _ t364 _ _ x13_4 true _ ?side1 ?side2 ?side3 ?side4 A75.out).mono ?_); (case side1 => repeat (first | exact (Kd.R_reads' HO366.out).2.2 | with_reducible first | apply Kd.C_alloc | apply Kd.C_drewN | apply Kd.C_drew)); (case side2 => exact (Kd.R_reads' HO366.out).2.1); (case side3 => repeat (first | exact (Kd.R_reads' HO_13.out).2.2 | with_reducible first | apply Kd.C_alloc | apply Kd.C_drewN | apply Kd.C_drew)); (case side4 => exact (Kd.R_reads' HO_13.out).2.1); rintro e w' ⟨rfl, ⟨nd, rfl⟩⟩))
                  go_roundg k4
                  case measure => have := HJ5.out; have := HK2.out; have := HK3.out; have := HK4.out; omega
                  case rel => exact ⟨(wrap64 (x12_3 + 1)), (by first | rfl | (simp; done) | (simp [*]; done)), H', ⟨by have := HJ5.out; have := HK2.out; have := HK3.out; have := HK4.out; omega⟩, ⟨by (with_reducible repeat first | apply Kd.S_alloc | apply Kd.S_drewN | apply Kd.S_drew); exact Kd.S_mono HO_4.out (fun _ hk => hk.1.1.1)⟩, ⟨by (with_reducible repeat first | apply Kd.R_alloc | apply Kd.R_drewN | apply Kd.R_drew); exact Kd.R_mono HO_5.out (fun _ hk => trivial)⟩, ⟨by (with_reducible repeat first | apply Kd.S_alloc | apply Kd.S_drewN | apply Kd.S_drew); exact Kd.S_mono HO_328000.out (fun _ hk => hk.1.1)⟩, ⟨by (with_reducible repeat first | apply blk_drewN | apply blk_drew | apply blk_alloc); exact BK327.out⟩, ⟨by repeat (first | (with_reducible first | exact HB.out | apply below_alloc | apply pw_below_drewN | apply below_drew1 | refine below_set ?_ GE327.out) | exact HB.out)⟩⟩
                 ·replace c76 := Bool.eq_false_iff.mpr c76
                  subst c76
                  have H1 : (some false) = some r := by rw [if_neg (show ¬ (false = true) by decide)] at H; exact H
                  clear H; have H := H1; clear H1
                  obtain rfl := Option.some.inj H
                  try go_wp2; replace HO_4 := Aside0.mk (Kd.S_drew HO_4.out); replace HO_5 := Aside0.mk (Kd.R_drew HO_5.out); replace HO_13 := Aside0.mk (Kd.R_drew HO_13.out); replace HO_328000 := Aside0.mk (Kd.S_drew HO_328000.out); replace BK327 := Aside0.mk (blk_drew BK327.out); replace HB := Aside0.mk (below_drew1 HB.out)
                  have p360 : 0 ≤ (x12_3 : Int) := of_decide_eq_true (by first | (with_reducible assumption) | assumption)
                  have q360 : x12_3 < (t321.length : Int) := of_decide_eq_true (by first | (with_reducible assumption) | assumption)
                  obtain ⟨ad360, A360_1, c360_1, e360, hx360_0, hx360_1, hl360_1, hi360_1⟩ := at_T44 (Kd.S_reads' HO_328000.out).2.2 x12_3 p360 q360
                  cases e360
                  obtain ⟨ce360, hce360, hMe360, hcc360⟩ := Kd.S_get HO_328000.out z44 x12_3 p360 (by first | exact q360 | exact of_decide_eq_true (by first | (with_reducible assumption) | assumption) | (have e_ := (Kd.S_reads' HO_328000.out).1; omega))
                  obtain ⟨ve360_1, rfl, ge360_1⟩ := k44_openM hMe360
                  have hv360_1 := hcc360 1 _ rfl
                  rw [add_field _ _ 1 (by omega)] at hv360_1
                  replace hv360_1 := Option.some.inj (hv360_1.symm.trans hx360_1)
                  rw [hv360_1] at ge360_1
                  have HL360_1 := Aside0.mk (show Kd.R (Kd.int .i64) 3 _ _ _ _ ((rd_T44 t321 x12_3).f1) from ge360_1); clear hv360_1 ge360_1 hcc360 hce360; have HR360_1 := Aside0.mk hi360_1; have HC360_1 := Aside0.mk hl360_1; clear hi360_1 hl360_1
                  replace p360 := eq_true p360
                  replace q360 := eq_true q360
                  refine start_ (n := 15) (S := fun w' => w'.cell? ⟨gb327, 0, none⟩ = some (.slice (some ad360) t321.length co9) ∧ w'.cell? (ad360.add ((x12_3).toNat * 2)) = some (.string ((rd_T44 t321 x12_3).f0)) ∧ w'.cell? ⟨(ad360.add ((x12_3).toNat * 2)).block, (ad360.add ((x12_3).toNat * 2)).off + 1, none⟩ = some (.slice A360_1 ((rd_T44 t321 x12_3).f1).length c360_1)) (ds := []) #[false, false, false, false, false, false, false, false, false, false, false, false, false, false, false] (by kernel_rfl) rfl rfl ⟨(blk_cell BK327.out 0).trans rfl, hx360_0, hx360_1⟩ (fun hHeld => ?_); refine with_tabW laws_FnPlayCalls.tab23 laws_FnPlayCalls.bits23 (fun HT_ HW_ => ?_)
                  generalize wr.drew = w83 at HO_4 HO_5 HO_13 HO_328000 BK327 HB HL360_1 HR360_1 hx360_0 hx360_1 hHeld ⊢
                  refine pure_ (i := 1) (N := some 117) (v := ?_) (a' := ?_) #[false, true, false, false, false, false, false, false, false, false, false, false, false, false, false] rfl rfl (any_of HT_.out (by kernel_rfl)) (fun _ _ _ h => h) (Or.inl ⟨by rfl, ?_⟩) ?_ ?_
                  rotate_left
                  ·intro w'
                   go_simp
                   with_reducible rfl
                  rotate_left
                  ·simp only [Act.put, ps_]
                   rfl
                  refine pure_ (i := 2) (N := some 118) (v := ?_) (a' := ?_) #[false, true, true, false, false, false, false, false, false, false, false, false, false, false, false] rfl rfl (any_of HT_.out (by kernel_rfl)) (fun _ _ _ h => h) (Or.inl ⟨by rfl, ?_⟩) ?_ ?_
                  rotate_left
                  ·intro w'
                   go_simp
                   with_reducible rfl
                  rotate_left
                  ·simp only [Act.put, ps_]
                   rfl
                  refine pure_ (i := 4) (N := some 120) (v := ?_) (a' := ?_) #[false, true, true, false, true, false, false, false, false, false, false, false, false, false, false] rfl rfl (any_of HT_.out (by kernel_rfl)) (fun _ _ _ h => h) (Or.inl ⟨by rfl, ?_⟩) ?_ ?_
                  rotate_left
                  ·intro w'
                   go_simp
                   with_reducible rfl
                  rotate_left
                  ·simp only [Act.put, ps_]
                   rfl
                  refine take_ (i := 0) (N := some 116) (v := ?_) (a' := ?_) #[true, true, true, false, true, false, false, false, false, false, false, false, false, false, false] rfl rfl (take_ofW HT_.out HW_.out (by kernel_rfl)) (fun _ _ _ h => h) (Or.inl ⟨by rfl, ?_⟩) hHeld ?_ ?_
                  rotate_left
                  ·rintro w' ⟨s0, s1, s2⟩
                   go_simp
                   with_reducible rfl
                  rotate_left
                  ·simp only [Act.put, ps_]
                   rfl
                  refine take_ (i := 3) (N := some 119) (v := ?_) (a' := ?_) #[true, true, true, true, true, false, false, false, false, false, false, false, false, false, false] rfl rfl (take_ofW HT_.out HW_.out (by kernel_rfl)) (fun _ _ _ h => h) (Or.inl ⟨by rfl, ?_⟩) hHeld ?_ ?_
                  rotate_left
                  ·rintro w' ⟨s0, s1, s2⟩
                   go_simp
                   with_reducible rfl
                  rotate_left
                  ·simp only [Act.put, ps_]
                   rfl
                  refine pure_ (i := 5) (N := some 121) (v := ?_) (a' := ?_) #[true, true, true, true, true, true, false, false, false, false, false, false, false, false, false] rfl rfl (any_of HT_.out (by kernel_rfl)) (fun _ _ _ h => h) (Or.inl ⟨by rfl, ?_⟩) ?_ ?_
                  rotate_left
                  ·intro w'
                   go_simp
                   with_reducible rfl
                  rotate_left
                  ·simp only [Act.put, ps_]
                   rfl
                  refine pure_ (i := 6) (N := some 122) (v := ?_) (a' := ?_) #[true, true, true, true, true, true, true, false, false, false, false, false, false, false, false] rfl rfl (any_of HT_.out (by kernel_rfl)) (fun _ _ _ h => h) (Or.inl ⟨by rfl, ?_⟩) ?_ ?_
                  rotate_left
                  ·intro w'
                   go_simp
                   with_reducible rfl
                  rotate_left
                  ·simp only [Act.put, ps_]
                   rfl
                  refine take_ (i := 7) (N := some 123) (v := ?_) (a' := ?_) #[true, true, true, true, true, true, true, true, false, false, false, false, false, false, false] rfl rfl (take_ofW HT_.out HW_.out (by kernel_rfl)) (fun _ _ _ h => h) (Or.inl ⟨by rfl, ?_⟩) hHeld ?_ ?_
                  rotate_left
                  ·rintro w' ⟨s0, s1, s2⟩
                   go_simp
                   with_reducible rfl
                  rotate_left
                  ·simp only [Act.put, ps_]
                   rfl
                  refine one_ (i := 8) (N := some 124) #[true, true, true, true, true, true, true, true, true, false, false, false, false, false, false] rfl rfl (one_of HT_.out (by kernel_rfl)) (by decide) (fun K hK => ?_)
                  refine goes_ Try.func21 (by kernel_rfl) rfl #[.slice Ao11 t324.length co11, .string ((rd_T44 t321 x12_3).f0)] (by rfl) rfl rfl (by (try simp only [List.map_toArray, List.map_cons, List.map_nil]); first | done | rfl) ?_
                  with_reducible refine (impl_CallsOf.calls k4 _ _ t324 ((rd_T44 t321 x12_3).f0) t361 _ ?side1 ?side2 A72.out).mono ?_
                  (case side1 => repeat (first | exact (Kd.S_reads' HO_4.out).2.2 | with_reducible first | apply Kd.C_alloc | apply Kd.C_drewN | apply Kd.C_drew))
                  (case side2 => exact (Kd.S_reads' HO_4.out).2.1)
                  rintro e w84 ⟨v362, rfl, ho0, hb⟩
                  have HS1_ := (hb.cell (World.block_lt_of_cell? _ _ (hHeld.2.1))).trans (hHeld.2.1); have HS2_ := (hb.cell (World.block_lt_of_cell? _ _ (hHeld.2.2))).trans (hHeld.2.2)
                  refine ⟨_, rfl, ?_⟩
                  have n0_ := Aside0.mk (Kd.S_elder' (by (with_reducible repeat first | apply Kd.S_alloc | apply Kd.S_drewN | apply Kd.S_drew); exact HO_4.out) (Kd.S_base ho0) hb)
                  have n1_ := Aside0.mk (Kd.R_below (by (with_reducible repeat first | apply Kd.R_alloc | apply Kd.R_drewN | apply Kd.R_drew); exact HO_5.out) hb)
                  have n2_ := Aside0.mk (Kd.R_below (by (with_reducible repeat first | apply Kd.R_alloc | apply Kd.R_drewN | apply Kd.R_drew); exact HO_13.out) hb)
                  have n3_ := Aside0.mk (Kd.S_below (by (with_reducible repeat first | apply Kd.S_alloc | apply Kd.S_drewN | apply Kd.S_drew); exact HO_328000.out) hb)
                  have n4_ := Aside0.mk (Kd.R_below (by (with_reducible repeat first | apply Kd.R_alloc | apply Kd.R_drewN | apply Kd.R_drew); exact HL360_1.out) hb)
                  have n5_ := Aside0.mk (Kd.S_lower (Kd.S_new' (Kd.S_new' (Kd.S_new' (Kd.S_new' ho0 (Kd.S_lt (by (with_reducible repeat first | apply Kd.S_alloc | apply Kd.S_drewN | apply Kd.S_drew); exact HO_4.out))) (Kd.R_lt (by (with_reducible repeat first | apply Kd.R_alloc | apply Kd.R_drewN | apply Kd.R_drew); exact HO_5.out))) (Kd.R_lt (by (with_reducible repeat first | apply Kd.R_alloc | apply Kd.R_drewN | apply Kd.R_drew); exact HO_13.out))) (Kd.R_lt (by (with_reducible repeat first | apply Kd.R_alloc | apply Kd.R_drewN | apply Kd.R_drew); exact HL360_1.out))) (below_size (by repeat first | (with_reducible first | exact HB.out | apply below_alloc | apply pw_below_drewN | apply below_drew1 | refine below_set ?_ GE327.out) | exact HB.out)))
                  have n6_ := Aside0.mk (blk_below (g := gb327) (o := .cells #[.slice (some ad360) t321.length co9] 38 (0, 0)) (by (with_reducible repeat first | apply blk_drewN | apply blk_drew | apply blk_alloc); exact BK327.out) hb)
                  have n7_ := Aside0.mk (Kd.C_below (by repeat (first | (with_reducible exact HR360_1.out) | (with_reducible refine Kd.C_alloc ?_ _) | (with_reducible refine Kd.C_drewN ?_ _) | (with_reducible refine Kd.C_drew ?_) | exact HR360_1.out)) hb); have n8_ := Aside0.mk (below_step (by repeat first | (with_reducible first | exact HB.out | apply below_alloc | apply pw_below_drewN | apply below_drew1 | refine below_set ?_ GE327.out) | exact HB.out) hb); clear HO_4 HO_5 HO_13 HO_328000 HL360_1 BK327 HR360_1 HB; have HO_4 := n0_; have HO_5 := n1_; have HO_13 := n2_; have HO_328000 := n3_; have HL360_1 := n4_; have HO363 := n5_; have BK327 := n6_; have HR360_1 := n7_; have HB := n8_; clear n0_ n1_ n2_ n3_ n4_ n5_ n6_ n7_ n8_
                  (try clear hb)
                  (try clear hb2)
                  (try clear hk)
                  (try clear hi)
                  (try clear ho0)
                  obtain ⟨Ao85, co85, eo85⟩ := Kd.S_slice HO363.out
                  (first | subst eo85 | (injection eo85 with f1_ f2_ f3_; have f4_ := f1_.symm; have f5_ := f3_.symm; clear f1_ f2_ f3_; subst f4_; subst f5_))
                  refine hK.out _ _ ⟨(blk_cell BK327.out 0).trans rfl, HS1_, HS2_⟩ (fun hHeld => ?_)
                  clear hK K
                  refine norm_ (a' := ?_) ?_ ?_
                  rotate_left
                  ·show Act.put _ (some 124) _ = _
                   simp only [Act.put, ps_]
                   rfl
                  refine one_ (i := 9) (N := some 125) #[true, true, true, true, true, true, true, true, true, true, false, false, false, false, false] rfl rfl (one_of HT_.out (by kernel_rfl)) (by decide) (fun K hK => ?_)
                  refine goes_ Try.func19 (by kernel_rfl) rfl #[.agg #[.slice (some ad360) t321.length co9], .slice Ao85 t361.length co85] (by rfl) rfl rfl (by (try simp only [List.map_toArray, List.map_cons, List.map_nil]); first | done | rfl) ?_
                  with_reducible refine (impl_PlayCalls.calls k4 _ _ t321 _ _ t361 t364 true _ ?side1 ?side2 ?side3 ?side4 A73.out).mono ?_
                  (case side1 => repeat (first | exact (Kd.S_reads' HO_328000.out).2.2 | with_reducible first | apply Kd.C_alloc | apply Kd.C_drewN | apply Kd.C_drew))
                  (case side2 => exact (Kd.S_reads' HO_328000.out).2.1)
                  (case side3 => repeat (first | exact (Kd.S_reads' HO363.out).2.2 | with_reducible first | apply Kd.C_alloc | apply Kd.C_drewN | apply Kd.C_drew))
                  (case side4 => exact (Kd.S_reads' HO363.out).2.1)
                  rintro e w86 ⟨v365, rfl, ho0, hb⟩
                  have HS1_ := (hb.cell (World.block_lt_of_cell? _ _ (hHeld.2.1))).trans (hHeld.2.1); have HS2_ := (hb.cell (World.block_lt_of_cell? _ _ (hHeld.2.2))).trans (hHeld.2.2)
                  refine ⟨_, rfl, ?_⟩
                  have n0_ := Aside0.mk (Kd.S_elder' (by (with_reducible repeat first | apply Kd.S_alloc | apply Kd.S_drewN | apply Kd.S_drew); exact HO_4.out) (Kd.R_base ho0) hb)
                  have n1_ := Aside0.mk (Kd.R_elder' (by (with_reducible repeat first | apply Kd.R_alloc | apply Kd.R_drewN | apply Kd.R_drew); exact HO_5.out) (Kd.R_base ho0) hb)
                  have n2_ := Aside0.mk (Kd.R_elder' (by (with_reducible repeat first | apply Kd.R_alloc | apply Kd.R_drewN | apply Kd.R_drew); exact HO_13.out) (Kd.R_base ho0) hb)
                  have n3_ := Aside0.mk (Kd.S_elder' (by (with_reducible repeat first | apply Kd.S_alloc | apply Kd.S_drewN | apply Kd.S_drew); exact HO_328000.out) (Kd.R_base ho0) hb)
                  have n4_ := Aside0.mk (Kd.R_elder' (by (with_reducible repeat first | apply Kd.R_alloc | apply Kd.R_drewN | apply Kd.R_drew); exact HL360_1.out) (Kd.R_base ho0) hb)
                  have n5_ := Aside0.mk (Kd.S_elder' (by (with_reducible repeat first | apply Kd.S_alloc | apply Kd.S_drewN | apply Kd.S_drew); exact HO363.out) (Kd.R_base ho0) hb)
                  have n6_ := Aside0.mk (Kd.R_lower (Kd.R_new' (Kd.R_new' (Kd.R_new' ho0 (Kd.R_lt (by (with_reducible repeat first | apply Kd.R_alloc | apply Kd.R_drewN | apply Kd.R_drew); exact HO_5.out))) (Kd.R_lt (by (with_reducible repeat first | apply Kd.R_alloc | apply Kd.R_drewN | apply Kd.R_drew); exact HO_13.out))) (Kd.R_lt (by (with_reducible repeat first | apply Kd.R_alloc | apply Kd.R_drewN | apply Kd.R_drew); exact HL360_1.out))) (below_size (by repeat first | (with_reducible first | exact HB.out | apply below_alloc | apply pw_below_drewN | apply below_drew1 | refine below_set ?_ GE327.out) | exact HB.out)))
                  have n7_ := Aside0.mk (blk_below (g := gb327) (o := .cells #[.slice (some ad360) t321.length co9] 38 (0, 0)) (by (with_reducible repeat first | apply blk_drewN | apply blk_drew | apply blk_alloc); exact BK327.out) hb)
                  have n8_ := Aside0.mk (Kd.C_below (by repeat (first | (with_reducible exact HR360_1.out) | (with_reducible refine Kd.C_alloc ?_ _) | (with_reducible refine Kd.C_drewN ?_ _) | (with_reducible refine Kd.C_drew ?_) | exact HR360_1.out)) hb); have n9_ := Aside0.mk (below_step (by repeat first | (with_reducible first | exact HB.out | apply below_alloc | apply pw_below_drewN | apply below_drew1 | refine below_set ?_ GE327.out) | exact HB.out) hb); clear HO_4 HO_5 HO_13 HO_328000 HL360_1 HO363 BK327 HR360_1 HB; have HO_4 := n0_; have HO_5 := n1_; have HO_13 := n2_; have HO_328000 := n3_; have HL360_1 := n4_; have HO363 := n5_; have HO366 := n6_; have BK327 := n7_; have HR360_1 := n8_; have HB := n9_; clear n0_ n1_ n2_ n3_ n4_ n5_ n6_ n7_ n8_ n9_
                  (try clear hb)
                  (try clear hb2)
                  (try clear hk)
                  (try clear hi)
                  (try clear ho0)
                  refine hK.out _ _ ⟨(blk_cell BK327.out 0).trans rfl, HS1_, HS2_⟩ (fun hHeld => ?_)
                  clear hK K
                  refine norm_ (a' := ?_) ?_ ?_
                  rotate_left
                  ·show Act.put _ (some 125) _ = _
                   simp only [Act.put, ps_]
                   rfl
                  refine pure_ (i := 10) (N := some 115) (v := ?_) (a' := ?_) #[true, true, true, true, true, true, true, true, true, true, true, false, false, false, false] rfl rfl (any_of HT_.out (by kernel_rfl)) (fun _ _ _ h => h) (Or.inl ⟨by rfl, ?_⟩) ?_ ?_
                  rotate_left
                  ·intro w'
                   go_simp
                   with_reducible rfl
                  rotate_left
                  ·simp only [Act.put, ps_]
                   rfl
                  refine pure_ (i := 11) (N := some 126) (v := ?_) (a' := ?_) #[true, true, true, true, true, true, true, true, true, true, true, true, false, false, false] rfl rfl (any_of HT_.out (by kernel_rfl)) (fun _ _ _ h => h) (Or.inl ⟨by rfl, ?_⟩) ?_ ?_
                  rotate_left
                  ·intro w'
                   go_simp
                   with_reducible rfl
                  rotate_left
                  ·simp only [Act.put, ps_]
                   rfl
                  refine pure_ (i := 12) (N := some 127) (v := ?_) (a' := ?_) #[true, true, true, true, true, true, true, true, true, true, true, true, true, false, false] rfl rfl (any_of HT_.out (by kernel_rfl)) (fun _ _ _ h => h) (Or.inl ⟨by rfl, ?_⟩) ?_ ?_
                  rotate_left
                  ·intro w'
                   go_simp
                   with_reducible rfl
                  rotate_left
                  ·simp only [Act.put, ps_]
                   rfl
                  refine pure_ (i := 13) (N := some 15) (v := ?_) (a' := ?_) #[true, true, true, true, true, true, true, true, true, true, true, true, true, true, false] rfl rfl (any_of HT_.out (by kernel_rfl)) (fun _ _ _ h => h) (Or.inl ⟨by rfl, ?_⟩) ?_ ?_
                  rotate_left
                  ·intro w'
                   go_simp
                   with_reducible rfl
                  rotate_left
                  ·simp only [Act.put, ps_]
                   rfl
                  refine pure_ (i := 14) (N := some 16) (v := ?_) (a' := ?_) #[true, true, true, true, true, true, true, true, true, true, true, true, true, true, true] rfl rfl (any_of HT_.out (by kernel_rfl)) (fun _ _ _ h => h) (Or.inl ⟨by rfl, ?_⟩) ?_ ?_
                  rotate_left
                  ·intro w'
                   go_simp
                   with_reducible rfl
                  rotate_left
                  ·simp only [Act.put, ps_]
                   rfl
                  refine done_ (done_of HT_.out (by kernel_rfl)) ?_
                  obtain ⟨Ao87, co87, eo87⟩ := Kd.R_slice HO366.out
                  subst eo87
                  obtain ⟨Ao88, co88, eo88⟩ := Kd.R_slice HO_13.out
                  subst eo88
                  try go_wp2_with (first | (go_at_call 12; (with_reducible refine (laws_equalInts.calls k4 _ _ t364 _ _ x13_4 false _ ?side1 ?side2 ?side3 ?side4 A75.out).mono ?_); (case side1 => repeat (first | exact (Kd.R_reads' HO366.out).2.2 | with_reducible first | apply Kd.C_alloc | apply Kd.C_drewN | apply Kd.C_drew)); (case side2 => exact (Kd.R_reads' HO366.out).2.1); (case side3 => repeat (first | exact (Kd.R_reads' HO_13.out).2.2 | with_reducible first | apply Kd.C_alloc | apply Kd.C_drewN | apply Kd.C_drew)); (case side4 => exact (Kd.R_reads' HO_13.out).2.1); rintro e w' ⟨rfl, ⟨nd, rfl⟩⟩))
                  go_ret
                  exact ⟨by first | rfl | (simp [errW_none, errW_some] <;> rfl) | (simp [*, errW_none, errW_some] <;> rfl), by repeat (first | (with_reducible first | exact HB.out | apply below_alloc | apply pw_below_drewN | apply below_drew1 | refine below_set ?_ GE327.out) | exact HB.out)⟩
                ·replace c74 := Bool.eq_false_iff.mpr c74
                 subst c74
                 have H1 : (some false) = some r := by rw [if_neg (show ¬ (false = true) by decide)] at H; exact H
                 clear H; have H := H1; clear H1
                 obtain rfl := Option.some.inj H
                 try go_wp2; replace HO_4 := Aside0.mk (Kd.S_drew HO_4.out); replace HO_5 := Aside0.mk (Kd.R_drew HO_5.out); replace HO_13 := Aside0.mk (Kd.R_drew HO_13.out); replace HO_328000 := Aside0.mk (Kd.S_drew HO_328000.out); replace BK327 := Aside0.mk (blk_drew BK327.out); replace HB := Aside0.mk (below_drew1 HB.out)
                 have p360 : 0 ≤ (x12_3 : Int) := of_decide_eq_true (by first | (with_reducible assumption) | assumption)
                 have q360 : x12_3 < (t321.length : Int) := of_decide_eq_true (by first | (with_reducible assumption) | assumption)
                 obtain ⟨ad360, A360_1, c360_1, e360, hx360_0, hx360_1, hl360_1, hi360_1⟩ := at_T44 (Kd.S_reads' HO_328000.out).2.2 x12_3 p360 q360
                 cases e360
                 obtain ⟨ce360, hce360, hMe360, hcc360⟩ := Kd.S_get HO_328000.out z44 x12_3 p360 (by first | exact q360 | exact of_decide_eq_true (by first | (with_reducible assumption) | assumption) | (have e_ := (Kd.S_reads' HO_328000.out).1; omega))
                 obtain ⟨ve360_1, rfl, ge360_1⟩ := k44_openM hMe360
                 have hv360_1 := hcc360 1 _ rfl
                 rw [add_field _ _ 1 (by omega)] at hv360_1
                 replace hv360_1 := Option.some.inj (hv360_1.symm.trans hx360_1)
                 rw [hv360_1] at ge360_1
                 have HL360_1 := Aside0.mk (show Kd.R (Kd.int .i64) 3 _ _ _ _ ((rd_T44 t321 x12_3).f1) from ge360_1); clear hv360_1 ge360_1 hcc360 hce360; have HR360_1 := Aside0.mk hi360_1; have HC360_1 := Aside0.mk hl360_1; clear hi360_1 hl360_1
                 replace p360 := eq_true p360
                 replace q360 := eq_true q360
                 refine start_ (n := 15) (S := fun w' => w'.cell? ⟨gb327, 0, none⟩ = some (.slice (some ad360) t321.length co9) ∧ w'.cell? (ad360.add ((x12_3).toNat * 2)) = some (.string ((rd_T44 t321 x12_3).f0)) ∧ w'.cell? ⟨(ad360.add ((x12_3).toNat * 2)).block, (ad360.add ((x12_3).toNat * 2)).off + 1, none⟩ = some (.slice A360_1 ((rd_T44 t321 x12_3).f1).length c360_1)) (ds := []) #[false, false, false, false, false, false, false, false, false, false, false, false, false, false, false] (by kernel_rfl) rfl rfl ⟨(blk_cell BK327.out 0).trans rfl, hx360_0, hx360_1⟩ (fun hHeld => ?_); refine with_tabW laws_FnPlayCalls.tab23 laws_FnPlayCalls.bits23 (fun HT_ HW_ => ?_)
                 generalize wr.drew = w89 at HO_4 HO_5 HO_13 HO_328000 BK327 HB HL360_1 HR360_1 hx360_0 hx360_1 hHeld ⊢
                 refine pure_ (i := 1) (N := some 117) (v := ?_) (a' := ?_) #[false, true, false, false, false, false, false, false, false, false, false, false, false, false, false] rfl rfl (any_of HT_.out (by kernel_rfl)) (fun _ _ _ h => h) (Or.inl ⟨by rfl, ?_⟩) ?_ ?_
                 rotate_left
                 ·intro w'
                  go_simp
                  with_reducible rfl
                 rotate_left
                 ·simp only [Act.put, ps_]
                  rfl
                 refine pure_ (i := 2) (N := some 118) (v := ?_) (a' := ?_) #[false, true, true, false, false, false, false, false, false, false, false, false, false, false, false] rfl rfl (any_of HT_.out (by kernel_rfl)) (fun _ _ _ h => h) (Or.inl ⟨by rfl, ?_⟩) ?_ ?_
                 rotate_left
                 ·intro w'
                  go_simp
                  with_reducible rfl
                 rotate_left
                 ·simp only [Act.put, ps_]
                  rfl
                 refine pure_ (i := 4) (N := some 120) (v := ?_) (a' := ?_) #[false, true, true, false, true, false, false, false, false, false, false, false, false, false, false] rfl rfl (any_of HT_.out (by kernel_rfl)) (fun _ _ _ h => h) (Or.inl ⟨by rfl, ?_⟩) ?_ ?_
                 rotate_left
                 ·intro w'
                  go_simp
                  with_reducible rfl
                 rotate_left
                 ·simp only [Act.put, ps_]
                  rfl
                 refine take_ (i := 0) (N := some 116) (v := ?_) (a' := ?_) #[true, true, true, false, true, false, false, false, false, false, false, false, false, false, false] rfl rfl (take_ofW HT_.out HW_.out (by kernel_rfl)) (fun _ _ _ h => h) (Or.inl ⟨by rfl, ?_⟩) hHeld ?_ ?_
                 rotate_left
                 ·rintro w' ⟨s0, s1, s2⟩
                  go_simp
                  with_reducible rfl
                 rotate_left
                 ·simp only [Act.put, ps_]
                  rfl
                 refine take_ (i := 3) (N := some 119) (v := ?_) (a' := ?_) #[true, true, true, true, true, false, false, false, false, false, false, false, false, false, false] rfl rfl (take_ofW HT_.out HW_.out (by kernel_rfl)) (fun _ _ _ h => h) (Or.inl ⟨by rfl, ?_⟩) hHeld ?_ ?_
                 rotate_left
                 ·rintro w' ⟨s0, s1, s2⟩
                  go_simp
                  with_reducible rfl
                 rotate_left
                 ·simp only [Act.put, ps_]
                  rfl
                 refine pure_ (i := 5) (N := some 121) (v := ?_) (a' := ?_) #[true, true, true, true, true, true, false, false, false, false, false, false, false, false, false] rfl rfl (any_of HT_.out (by kernel_rfl)) (fun _ _ _ h => h) (Or.inl ⟨by rfl, ?_⟩) ?_ ?_
                 rotate_left
                 ·intro w'
                  go_simp
                  with_reducible rfl
                 rotate_left
                 ·simp only [Act.put, ps_]
                  rfl
                 refine pure_ (i := 6) (N := some 122) (v := ?_) (a' := ?_) #[true, true, true, true, true, true, true, false, false, false, false, false, false, false, false] rfl rfl (any_of HT_.out (by kernel_rfl)) (fun _ _ _ h => h) (Or.inl ⟨by rfl, ?_⟩) ?_ ?_
                 rotate_left
                 ·intro w'
                  go_simp
                  with_reducible rfl
                 rotate_left
                 ·simp only [Act.put, ps_]
                  rfl
                 refine take_ (i := 7) (N := some 123) (v := ?_) (a' := ?_) #[true, true, true, true, true, true, true, true, false, false, false, false, false, false, false] rfl rfl (take_ofW HT_.out HW_.out (by kernel_rfl)) (fun _ _ _ h => h) (Or.inl ⟨by rfl, ?_⟩) hHeld ?_ ?_
                 rotate_left
                 ·rintro w' ⟨s0, s1, s2⟩
                  go_simp
                  with_reducible rfl
                 rotate_left
                 ·simp only [Act.put, ps_]
                  rfl
                 refine one_ (i := 8) (N := some 124) #[true, true, true, true, true, true, true, true, true, false, false, false, false, false, false] rfl rfl (one_of HT_.out (by kernel_rfl)) (by decide) (fun K hK => ?_)
                 refine goes_ Try.func21 (by kernel_rfl) rfl #[.slice Ao11 t324.length co11, .string ((rd_T44 t321 x12_3).f0)] (by rfl) rfl rfl (by (try simp only [List.map_toArray, List.map_cons, List.map_nil]); first | done | rfl) ?_
                 with_reducible refine (impl_CallsOf.calls k4 _ _ t324 ((rd_T44 t321 x12_3).f0) t361 _ ?side1 ?side2 A72.out).mono ?_
                 (case side1 => repeat (first | exact (Kd.S_reads' HO_4.out).2.2 | with_reducible first | apply Kd.C_alloc | apply Kd.C_drewN | apply Kd.C_drew))
                 (case side2 => exact (Kd.S_reads' HO_4.out).2.1)
                 rintro e w90 ⟨v362, rfl, ho0, hb⟩
                 have HS1_ := (hb.cell (World.block_lt_of_cell? _ _ (hHeld.2.1))).trans (hHeld.2.1); have HS2_ := (hb.cell (World.block_lt_of_cell? _ _ (hHeld.2.2))).trans (hHeld.2.2)
                 refine ⟨_, rfl, ?_⟩
                 have n0_ := Aside0.mk (Kd.S_elder' (by (with_reducible repeat first | apply Kd.S_alloc | apply Kd.S_drewN | apply Kd.S_drew); exact HO_4.out) (Kd.S_base ho0) hb)
                 have n1_ := Aside0.mk (Kd.R_below (by (with_reducible repeat first | apply Kd.R_alloc | apply Kd.R_drewN | apply Kd.R_drew); exact HO_5.out) hb)
                 have n2_ := Aside0.mk (Kd.R_below (by (with_reducible repeat first | apply Kd.R_alloc | apply Kd.R_drewN | apply Kd.R_drew); exact HO_13.out) hb)
                 have n3_ := Aside0.mk (Kd.S_below (by (with_reducible repeat first | apply Kd.S_alloc | apply Kd.S_drewN | apply Kd.S_drew); exact HO_328000.out) hb)
                 have n4_ := Aside0.mk (Kd.R_below (by (with_reducible repeat first | apply Kd.R_alloc | apply Kd.R_drewN | apply Kd.R_drew); exact HL360_1.out) hb)
                 have n5_ := Aside0.mk (Kd.S_lower (Kd.S_new' (Kd.S_new' (Kd.S_new' (Kd.S_new' ho0 (Kd.S_lt (by (with_reducible repeat first | apply Kd.S_alloc | apply Kd.S_drewN | apply Kd.S_drew); exact HO_4.out))) (Kd.R_lt (by (with_reducible repeat first | apply Kd.R_alloc | apply Kd.R_drewN | apply Kd.R_drew); exact HO_5.out))) (Kd.R_lt (by (with_reducible repeat first | apply Kd.R_alloc | apply Kd.R_drewN | apply Kd.R_drew); exact HO_13.out))) (Kd.R_lt (by (with_reducible repeat first | apply Kd.R_alloc | apply Kd.R_drewN | apply Kd.R_drew); exact HL360_1.out))) (below_size (by repeat first | (with_reducible first | exact HB.out | apply below_alloc | apply pw_below_drewN | apply below_drew1 | refine below_set ?_ GE327.out) | exact HB.out)))
                 have n6_ := Aside0.mk (blk_below (g := gb327) (o := .cells #[.slice (some ad360) t321.length co9] 38 (0, 0)) (by (with_reducible repeat first | apply blk_drewN | apply blk_drew | apply blk_alloc); exact BK327.out) hb)
                 have n7_ := Aside0.mk (Kd.C_below (by repeat (first | (with_reducible exact HR360_1.out) | (with_reducible refine Kd.C_alloc ?_ _) | (with_reducible refine Kd.C_drewN ?_ _) | (with_reducible refine Kd.C_drew ?_) | exact HR360_1.out)) hb); have n8_ := Aside0.mk (below_step (by repeat first | (with_reducible first | exact HB.out | apply below_alloc | apply pw_below_drewN | apply below_drew1 | refine below_set ?_ GE327.out) | exact HB.out) hb); clear HO_4 HO_5 HO_13 HO_328000 HL360_1 BK327 HR360_1 HB; have HO_4 := n0_; have HO_5 := n1_; have HO_13 := n2_; have HO_328000 := n3_; have HL360_1 := n4_; have HO363 := n5_; have BK327 := n6_; have HR360_1 := n7_; have HB := n8_; clear n0_ n1_ n2_ n3_ n4_ n5_ n6_ n7_ n8_
                 (try clear hb)
                 (try clear hb2)
                 (try clear hk)
                 (try clear hi)
                 (try clear ho0)
                 obtain ⟨Ao91, co91, eo91⟩ := Kd.S_slice HO363.out
                 (first | subst eo91 | (injection eo91 with f1_ f2_ f3_; have f4_ := f1_.symm; have f5_ := f3_.symm; clear f1_ f2_ f3_; subst f4_; subst f5_))
                 refine hK.out _ _ ⟨(blk_cell BK327.out 0).trans rfl, HS1_, HS2_⟩ (fun hHeld => ?_)
                 clear hK K
                 refine norm_ (a' := ?_) ?_ ?_
                 rotate_left
                 ·show Act.put _ (some 124) _ = _
                  simp only [Act.put, ps_]
                  rfl
                 refine one_ (i := 9) (N := some 125) #[true, true, true, true, true, true, true, true, true, true, false, false, false, false, false] rfl rfl (one_of HT_.out (by kernel_rfl)) (by decide) (fun K hK => ?_)
                 refine goes_ Try.func19 (by kernel_rfl) rfl #[.agg #[.slice (some ad360) t321.length co9], .slice Ao91 t361.length co91] (by rfl) rfl rfl (by (try simp only [List.map_toArray, List.map_cons, List.map_nil]); first | done | rfl) ?_
                 with_reducible refine (impl_PlayCalls.calls k4 _ _ t321 _ _ t361 t364 false _ ?side1 ?side2 ?side3 ?side4 A73.out).mono ?_
                 (case side1 => repeat (first | exact (Kd.S_reads' HO_328000.out).2.2 | with_reducible first | apply Kd.C_alloc | apply Kd.C_drewN | apply Kd.C_drew))
                 (case side2 => exact (Kd.S_reads' HO_328000.out).2.1)
                 (case side3 => repeat (first | exact (Kd.S_reads' HO363.out).2.2 | with_reducible first | apply Kd.C_alloc | apply Kd.C_drewN | apply Kd.C_drew))
                 (case side4 => exact (Kd.S_reads' HO363.out).2.1)
                 rintro e w92 ⟨v365, rfl, ho0, hb⟩
                 have HS1_ := (hb.cell (World.block_lt_of_cell? _ _ (hHeld.2.1))).trans (hHeld.2.1); have HS2_ := (hb.cell (World.block_lt_of_cell? _ _ (hHeld.2.2))).trans (hHeld.2.2)
                 refine ⟨_, rfl, ?_⟩
                 have n0_ := Aside0.mk (Kd.S_elder' (by (with_reducible repeat first | apply Kd.S_alloc | apply Kd.S_drewN | apply Kd.S_drew); exact HO_4.out) (Kd.R_base ho0) hb)
                 have n1_ := Aside0.mk (Kd.R_elder' (by (with_reducible repeat first | apply Kd.R_alloc | apply Kd.R_drewN | apply Kd.R_drew); exact HO_5.out) (Kd.R_base ho0) hb)
                 have n2_ := Aside0.mk (Kd.R_elder' (by (with_reducible repeat first | apply Kd.R_alloc | apply Kd.R_drewN | apply Kd.R_drew); exact HO_13.out) (Kd.R_base ho0) hb)
                 have n3_ := Aside0.mk (Kd.S_elder' (by (with_reducible repeat first | apply Kd.S_alloc | apply Kd.S_drewN | apply Kd.S_drew); exact HO_328000.out) (Kd.R_base ho0) hb)
                 have n4_ := Aside0.mk (Kd.R_elder' (by (with_reducible repeat first | apply Kd.R_alloc | apply Kd.R_drewN | apply Kd.R_drew); exact HL360_1.out) (Kd.R_base ho0) hb)
                 have n5_ := Aside0.mk (Kd.S_elder' (by (with_reducible repeat first | apply Kd.S_alloc | apply Kd.S_drewN | apply Kd.S_drew); exact HO363.out) (Kd.R_base ho0) hb)
                 have n6_ := Aside0.mk (Kd.R_lower (Kd.R_new' (Kd.R_new' (Kd.R_new' ho0 (Kd.R_lt (by (with_reducible repeat first | apply Kd.R_alloc | apply Kd.R_drewN | apply Kd.R_drew); exact HO_5.out))) (Kd.R_lt (by (with_reducible repeat first | apply Kd.R_alloc | apply Kd.R_drewN | apply Kd.R_drew); exact HO_13.out))) (Kd.R_lt (by (with_reducible repeat first | apply Kd.R_alloc | apply Kd.R_drewN | apply Kd.R_drew); exact HL360_1.out))) (below_size (by repeat first | (with_reducible first | exact HB.out | apply below_alloc | apply pw_below_drewN | apply below_drew1 | refine below_set ?_ GE327.out) | exact HB.out)))
                 have n7_ := Aside0.mk (blk_below (g := gb327) (o := .cells #[.slice (some ad360) t321.length co9] 38 (0, 0)) (by (with_reducible repeat first | apply blk_drewN | apply blk_drew | apply blk_alloc); exact BK327.out) hb)
                 have n8_ := Aside0.mk (Kd.C_below (by repeat (first | (with_reducible exact HR360_1.out) | (with_reducible refine Kd.C_alloc ?_ _) | (with_reducible refine Kd.C_drewN ?_ _) | (with_reducible refine Kd.C_drew ?_) | exact HR360_1.out)) hb); have n9_ := Aside0.mk (below_step (by repeat first | (with_reducible first | exact HB.out | apply below_alloc | apply pw_below_drewN | apply below_drew1 | refine below_set ?_ GE327.out) | exact HB.out) hb); clear HO_4 HO_5 HO_13 HO_328000 HL360_1 HO363 BK327 HR360_1 HB; have HO_4 := n0_; have HO_5 := n1_; have HO_13 := n2_; have HO_328000 := n3_; have HL360_1 := n4_; have HO363 := n5_; have HO366 := n6_; have BK327 := n7_; have HR360_1 := n8_; have HB := n9_; clear n0_ n1_ n2_ n3_ n4_ n5_ n6_ n7_ n8_ n9_
                 (try clear hb)
                 (try clear hb2)
                 (try clear hk)
                 (try clear hi)
                 (try clear ho0)
                 refine hK.out _ _ ⟨(blk_cell BK327.out 0).trans rfl, HS1_, HS2_⟩ (fun hHeld => ?_)
                 clear hK K
                 refine norm_ (a' := ?_) ?_ ?_
                 rotate_left
                 ·show Act.put _ (some 125) _ = _
                  simp only [Act.put, ps_]
                  rfl
                 refine pure_ (i := 10) (N := some 115) (v := ?_) (a' := ?_) #[true, true, true, true, true, true, true, true, true, true, true, false, false, false, false] rfl rfl (any_of HT_.out (by kernel_rfl)) (fun _ _ _ h => h) (Or.inl ⟨by rfl, ?_⟩) ?_ ?_
                 rotate_left
                 ·intro w'
                  go_simp
                  with_reducible rfl
                 rotate_left
                 ·simp only [Act.put, ps_]
                  rfl
                 refine pure_ (i := 11) (N := some 126) (v := ?_) (a' := ?_) #[true, true, true, true, true, true, true, true, true, true, true, true, false, false, false] rfl rfl (any_of HT_.out (by kernel_rfl)) (fun _ _ _ h => h) (Or.inl ⟨by rfl, ?_⟩) ?_ ?_
                 rotate_left
                 ·intro w'
                  go_simp
                  with_reducible rfl
                 rotate_left
                 ·simp only [Act.put, ps_]
                  rfl
                 refine pure_ (i := 12) (N := some 127) (v := ?_) (a' := ?_) #[true, true, true, true, true, true, true, true, true, true, true, true, true, false, false] rfl rfl (any_of HT_.out (by kernel_rfl)) (fun _ _ _ h => h) (Or.inl ⟨by rfl, ?_⟩) ?_ ?_
                 rotate_left
                 ·intro w'
                  go_simp
                  with_reducible rfl
                 rotate_left
                 ·simp only [Act.put, ps_]
                  rfl
                 refine pure_ (i := 13) (N := some 15) (v := ?_) (a' := ?_) #[true, true, true, true, true, true, true, true, true, true, true, true, true, true, false] rfl rfl (any_of HT_.out (by kernel_rfl)) (fun _ _ _ h => h) (Or.inl ⟨by rfl, ?_⟩) ?_ ?_
                 rotate_left
                 ·intro w'
                  go_simp
                  with_reducible rfl
                 rotate_left
                 ·simp only [Act.put, ps_]
                  rfl
                 refine pure_ (i := 14) (N := some 16) (v := ?_) (a' := ?_) #[true, true, true, true, true, true, true, true, true, true, true, true, true, true, true] rfl rfl (any_of HT_.out (by kernel_rfl)) (fun _ _ _ h => h) (Or.inl ⟨by rfl, ?_⟩) ?_ ?_
                 rotate_left
                 ·intro w'
                  go_simp
                  with_reducible rfl
                 rotate_left
                 ·simp only [Act.put, ps_]
                  rfl
                 refine done_ (done_of HT_.out (by kernel_rfl)) ?_
                 try go_wp2
                 go_ret
                 exact ⟨by first | rfl | (simp [errW_none, errW_some] <;> rfl) | (simp [*, errW_none, errW_some] <;> rfl), by repeat (first | (with_reducible first | exact HB.out | apply below_alloc | apply pw_below_drewN | apply below_drew1 | refine below_set ?_ GE327.out) | exact HB.out)⟩
               ·rw [if_neg c71] at H
                exact absurd H (by simp)
              ·rw [if_neg c70] at H
               exact absurd H (by simp)
          ·rw [if_neg c55] at H
           have c55b0 : decide (x12_3 < (t321.length : Int)) = false := decide_eq_false c55
           clear c55
           obtain rfl := Option.some.inj H
           have hcz93_0 : wr.cell? ⟨gb327, 0, none⟩ = some (.slice Ao9 t321.length co9) := (blk_cell BK327.out 0).trans rfl
           have hfz93_0 := blk_frozen BK327.out 0
           go_wp2
           go_ret
           exact ⟨by first | rfl | (simp [errW_none, errW_some] <;> rfl) | (simp [*, errW_none, errW_some] <;> rfl), by repeat (first | (with_reducible first | exact HB.out | apply below_alloc | apply pw_below_drewN | apply below_drew1 | refine below_set ?_ GE327.out) | exact HB.out)⟩

/-- THE ONE PURE STATEMENT of laws_FnPlayCalls: yours. -/
def laws_FnPlayCalls.Pure : Prop := ∀ (l0 : List Int), l0.length ≤ maxLen → l0.length * 1 ≤ 140737488351232 → (∀ x ∈ l0, (Lit.int .u8 x).wf = true) → ∃ k, laws_FnPlayCalls.f k l0 = some true
theorem laws_FnPlayCalls.walk (P : laws_FnPlayCalls.Pure) (a0 : Option Addr) (len0 cap0 : Nat) (z0 : List Int) (w : World) (w0 : (a0 = none ∧ len0 = 0 ∧ cap0 = 0 ∧ z0 = []) ∨ ∃ x, a0 = some x ∧ len0 ≤ cap0 ∧ cap0 ≤ maxLen ∧ z0.length = cap0 ∧ (∀ i, i < z0.length → w.cell? (x.add i) = some (.int .u8 (z0.getD i 0))) ∧ ∀ n ∈ z0, (Lit.int .u8 n).wf = true) (y0 : len0 * 1 ≤ 140737488351232) :
  Calls Try.prog 4 #[.slice a0 len0 cap0] w fun e w' => e = .returned (.bool true) ∧ Below w.heap.size w w' := by
 obtain ⟨l0, rfl, hr0, hm0, hw0, hc0⟩ := ReadsInt.ofRowC w0
 obtain ⟨k, h⟩ := P l0 hm0 y0 hw0
 refine (laws_FnPlayCalls.calls k _ _ l0 true w (Kd.C_of_reads (d := (0 : Int)) (h1 := fun _ => rfl) hr0) hc0 h).mono ?_
 rintro e w' ⟨rfl, hd⟩
 exact ⟨rfl, hd⟩

end Go.Proofs.Ytcbkpdgbijdbbaa.M
