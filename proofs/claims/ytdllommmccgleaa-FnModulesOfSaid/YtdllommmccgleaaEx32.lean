-- WRITTEN by wip/ext.py
import Derived.Test.YtdllommmccgleaaEx0
import Derived.Test.YtdllommmccgleaaEx15
import Derived.Test.YtdllommmccgleaaEx28
namespace Go.Proofs.Ytdllommmccgleaa.E
open Go.RowKit Go.Proofs.YtdllommmccgleaaW.PrintWords Go.Proofs.YtdllommmccgleaaW.PrintLast Go.Proofs.YtdllommmccgleaaW.PrintMore
attribute [local go_sem] max2_int min2_int max_two min_two max_three min_three max_four min_four   -- for this text's walks alone
set_option linter.unusedVariables false
set_option linter.unusedSimpArgs false

/-! ### spec_validTests: function 62 -/
def spec_validTests.l0 : Nat → List (S28) → Int → Option (Bool)
 | 0, _, _ => none
 | k + 1, x0, x3 => if x3 < (x0.length : Int) then (if 0 ≤ x3 then ((spec_validTest.f k ((rd_T28 x0 x3).f0) ((rd_T28 x0 x3).f1) ((rd_T28 x0 x3).f2) ((rd_T28 x0 x3).f3)).bind fun t747 => (if t747 = true then (if x3 ≤ (x0.length : Int) then ((spec_idOf.f ((rd_T28 x0 x3).f0) ((rd_T28 x0 x3).f1) ((rd_T28 x0 x3).f2) ((rd_T28 x0 x3).f3)).bind fun t753 => ((spec_findTest.f k (x0.take (x3 : Int).toNat) t753).bind fun t754 => (if t754 ≥ 0 then (some false) else (spec_validTests.l0 k x0 (wrap64 (x3 + 1)))))) else (none)) else (some false))) else (none)) else (some (decide ((x0.length : Int) ≤ 10)))
def spec_validTests.f (k : Nat) (l0 : List (S28)) : Option (Bool) := spec_validTests.l0 k l0 0
theorem spec_validTests.mono_l : ∀ k, (∀ y0 y1, LeO (spec_validTests.l0 k y0 y1) (spec_validTests.l0 (k + 1) y0 y1))
 | 0 => fun _ _ r h => by simp [spec_validTests.l0] at h
 | k + 1 => by
  have ih0 := spec_validTests.mono_l k
  ·intro y0 y1
   unfold spec_validTests.l0
   repeat' first
   | (with_reducible exact ih0 _ _)
   | (with_reducible exact spec_findTest.mono _ _ _)
   | (with_reducible exact spec_validTest.mono _ _ _ _ _)
   | (with_reducible exact LeO.refl _)
   | (with_reducible exact LeO.none _)
   | (with_reducible refine LeO.ite ?_ ?_)
   | (with_reducible refine LeO.bind ?_ (fun _ => ?_))
   | refine LeO.ite ?_ ?_
   | refine LeO.bind ?_ (fun _ => ?_)
theorem spec_validTests.mono : ∀ a0 k, LeO (spec_validTests.f k a0) (spec_validTests.f (k + 1) a0) := by
 intro a0 k
 have ih0 := spec_validTests.mono_l k
 unfold spec_validTests.f
 repeat' first
   | (with_reducible exact ih0 _ _)
   | (with_reducible exact spec_findTest.mono _ _ _)
   | (with_reducible exact spec_validTest.mono _ _ _ _ _)
   | (with_reducible exact LeO.refl _)
   | (with_reducible exact LeO.none _)
   | (with_reducible refine LeO.ite ?_ ?_)
   | (with_reducible refine LeO.bind ?_ (fun _ => ?_))
   | refine LeO.ite ?_ ?_
   | refine LeO.bind ?_ (fun _ => ?_)
def spec_validTests.T4 : Bool × List (List Nat × List Nat) := (true, [([], []), ([], []), ([0, 1], [0, 1]), ([2], [2]), ([3], [3]), ([4], [4]), ([5, 4], [5]), ([6], [6]), ([6], [6]), ([7, 8, 6], [6, 7, 8]), ([6], [6]), ([6], [6]), ([10, 11, 6], [6, 10, 11]), ([12, 6], [6, 12]), ([13, 6, 6], [6, 13]), ([9, 14, 14, 6], [6, 9, 14]), ([15, 6], [6, 15]), ([6, 16], [6, 16])])
def spec_validTests.B4 : List Nat := [0, 0, 3, 7, 15, 31, 63, 127, 127, 511, 127, 127, 3199, 7295, 15487, 32767, 65535, 131071]
theorem spec_validTests.tab4 : rtab .any (opsOf Try.f62 4) = spec_validTests.T4 := by kernel_rfl
theorem spec_validTests.bits4 : waitsOk spec_validTests.T4.2 spec_validTests.B4 = true := by kernel_rfl
set_option maxHeartbeats 8000000 in
set_option maxRecDepth 100000 in
theorem spec_validTests.calls (k : Nat) (A0 : Option Addr) (c0 : Nat) (l0 : List (S28)) (r : Bool) (w : World) (hr0 : Kd.C k28 w A0 l0.length l0) (hc0 : l0.length ≤ c0) (h : spec_validTests.f k l0 = some r) :
  Calls Try.prog 62 #[.slice A0 l0.length c0] w fun e w' => e = .returned (.bool r) ∧ Below w.heap.size w w' := by
 have hu28 := Try.underlying28; have HR0 := Aside0.mk hr0; have HC0 := Aside0.mk hc0; clear hr0 hc0; have HB := Aside0.mk (Below.refl w.heap.size w)
 have H : (spec_validTests.l0 k l0 0) = some r := h
 clear h; have H' := Aside0.mk H; clear H
 go_enter Try.func62, Try.ntmps62
 go_wp2
 go_loopg [3] k (fun kq v3 w' => ∃ (x3_1 : Int), v3 = .int .i64 x3_1 ∧ Aside0 (spec_validTests.l0 kq l0 x3_1 = some r) ∧ Aside0 (kq ≤ k) ∧ Aside0 (Below w.heap.size w w'))
 case atStart => exact ⟨(0), (by first | rfl | (simp; done) | (simp [*]; done)), H', ⟨Nat.le_refl _⟩, ⟨by repeat (first | (with_reducible first | exact HB.out | apply below_alloc | apply pw_below_drewN | apply below_drew1) | exact HB.out)⟩⟩
 case round =>
  clear H'
  obtain ⟨x3_1, rfl, HA, HK1, HB⟩ := hrel
  cases gk with
  | zero => exact absurd HA.out (by simp [spec_validTests.l0])
  | succ k1 =>
   have H := HA.out; clear HA
   simp only [spec_validTests.l0] at H
   by_cases c2 : x3_1 < (l0.length : Int)
   ·rw [if_pos c2] at H
    have c2b0 : decide (x3_1 < (l0.length : Int)) = true := decide_eq_true c2
    clear c2
    by_cases c3 : 0 ≤ x3_1
    ·rw [if_pos c3] at H
     have c3b0 : decide (0 ≤ x3_1) = true := decide_eq_true c3
     clear c3
     replace H := Option.bind_eq_some_iff.mp H
     obtain ⟨t747, A40, H⟩ := H
     replace H : (if t747 = true then (if x3_1 ≤ (l0.length : Int) then ((spec_idOf.f ((rd_T28 l0 x3_1).f0) ((rd_T28 l0 x3_1).f1) ((rd_T28 l0 x3_1).f2) ((rd_T28 l0 x3_1).f3)).bind fun t753 => ((spec_findTest.f k1 (l0.take (x3_1 : Int).toNat) t753).bind fun t754 => (if t754 ≥ 0 then (some false) else (spec_validTests.l0 k1 l0 (wrap64 (x3_1 + 1)))))) else (none)) else (some false)) = some r := H
     have A4 := Aside0.mk A40; clear A40
     by_cases c5 : t747 = true
     ·subst c5
      have H1 : (if x3_1 ≤ (l0.length : Int) then ((spec_idOf.f ((rd_T28 l0 x3_1).f0) ((rd_T28 l0 x3_1).f1) ((rd_T28 l0 x3_1).f2) ((rd_T28 l0 x3_1).f3)).bind fun t753 => ((spec_findTest.f k1 (l0.take (x3_1 : Int).toNat) t753).bind fun t754 => (if t754 ≥ 0 then (some false) else (spec_validTests.l0 k1 l0 (wrap64 (x3_1 + 1)))))) else (none)) = some r := by rw [if_pos rfl] at H; exact H
      clear H; have H := H1; clear H1; have c6b0 := eq_true (of_decide_eq_true (by first | (with_reducible assumption) | assumption) : 0 ≤ x3_1)
      by_cases c7 : x3_1 ≤ (l0.length : Int)
      ·rw [if_pos c7] at H
       have c7b0 := eq_true c7
       have c7b1 : decide (x3_1 ≤ (l0.length : Int)) = true := decide_eq_true c7
       clear c7
       obtain ⟨y748, hy748⟩ : ∃ y_ : List (S28), y_ = (l0.take (x3_1 : Int).toNat) := ⟨_, rfl⟩
       replace H : ((spec_idOf.f ((rd_T28 l0 x3_1).f0) ((rd_T28 l0 x3_1).f1) ((rd_T28 l0 x3_1).f2) ((rd_T28 l0 x3_1).f3)).bind fun t753 => ((spec_findTest.f k1 y748 t753).bind fun t754 => (if t754 ≥ 0 then (some false) else (spec_validTests.l0 k1 l0 (wrap64 (x3_1 + 1)))))) = some r := by first | (rw [hy748]; with_reducible exact H) | (have H2_ := (Option.bind_some _ _).symm.trans H; rw [hy748]; with_reducible exact H2_) | (have H2_ := (Option.bind_some _ _).symm.trans H; with_reducible exact H2_) | with_reducible exact H | (rw [hy748]; exact H) | exact H
       have Ny748 := Aside0.mk hy748; clear hy748
       replace H := Option.bind_eq_some_iff.mp H
       obtain ⟨t753, A80, H⟩ := H
       replace H : ((spec_findTest.f k1 y748 t753).bind fun t754 => (if t754 ≥ 0 then (some false) else (spec_validTests.l0 k1 l0 (wrap64 (x3_1 + 1))))) = some r := H
       have A8 := Aside0.mk A80; clear A80
       replace H := Option.bind_eq_some_iff.mp H
       obtain ⟨t754, A90, H⟩ := H
       replace H : (if t754 ≥ 0 then (some false) else (spec_validTests.l0 k1 l0 (wrap64 (x3_1 + 1)))) = some r := H
       have A9 := Aside0.mk A90; clear A90
       by_cases c10 : t754 ≥ 0
       ·rw [if_pos c10] at H
        have c10b0 : decide (0 ≤ t754) = true := decide_eq_true c10
        clear c10
        obtain rfl := Option.some.inj H
        try go_wp2; replace HB := Aside0.mk (below_drew1 HB.out)
        have p746 : 0 ≤ (x3_1 : Int) := of_decide_eq_true (by first | (with_reducible assumption) | assumption)
        have q746 : x3_1 < (l0.length : Int) := of_decide_eq_true (by first | (with_reducible assumption) | assumption)
        obtain ⟨ad746, A746_2, c746_2, A746_3, c746_3, e746, hx746_0, hx746_1, hx746_2, hx746_3, hl746_2, hi746_2, hl746_3, hi746_3⟩ := at_T28 HR0.out x3_1 p746 q746
        have hw746_3 := hx746_3; have hw746_2 := hx746_2; have hw746_1 := hx746_1; have hw746_0 := hx746_0
        cases e746
        replace hx746_0 := cup_ HB.out hx746_0; replace hx746_1 := cup_ HB.out hx746_1; replace hx746_2 := cup_ HB.out hx746_2; replace hx746_3 := cup_ HB.out hx746_3
        have HR746_2 := Aside0.mk hi746_2; have HC746_2 := Aside0.mk hl746_2; clear hi746_2 hl746_2; have HR746_3 := Aside0.mk hi746_3; have HC746_3 := Aside0.mk hl746_3; clear hi746_3 hl746_3
        replace p746 := eq_true p746
        replace q746 := eq_true q746
        have p752 : 0 ≤ (x3_1 : Int) := of_decide_eq_true (by first | (with_reducible assumption) | assumption)
        have q752 : x3_1 < (l0.length : Int) := of_decide_eq_true (by first | (with_reducible assumption) | assumption)
        obtain ⟨ad752, A752_2, c752_2, A752_3, c752_3, e752, hx752_0, hx752_1, hx752_2, hx752_3, hl752_2, hi752_2, hl752_3, hi752_3⟩ := at_T28 HR0.out x3_1 p752 q752
        have hw752_3 := hx752_3; have hw752_2 := hx752_2; have hw752_1 := hx752_1; have hw752_0 := hx752_0
        obtain rfl : ad746 = ad752 := (by injection e752)
        obtain ⟨rfl, rfl⟩ : A746_2 = A752_2 ∧ c746_2 = c752_2 := by
         have e_ := Option.some.inj (hw746_2.symm.trans hx752_2)
         injection e_ with e1_ _ e2_
         exact ⟨e1_, e2_⟩
        obtain ⟨rfl, rfl⟩ : A746_3 = A752_3 ∧ c746_3 = c752_3 := by
         have e_ := Option.some.inj (hw746_3.symm.trans hx752_3)
         injection e_ with e1_ _ e2_
         exact ⟨e1_, e2_⟩
        replace hx752_0 := cup_ HB.out hx752_0; replace hx752_1 := cup_ HB.out hx752_1; replace hx752_2 := cup_ HB.out hx752_2; replace hx752_3 := cup_ HB.out hx752_3
        have HR752_2 := Aside0.mk hi752_2; have HC752_2 := Aside0.mk hl752_2; clear hi752_2 hl752_2; have HR752_3 := Aside0.mk hi752_3; have HC752_3 := Aside0.mk hl752_3; clear hi752_3 hl752_3
        replace p752 := eq_true p752
        replace q752 := eq_true q752
        refine start_ (n := 18) (S := fun w' => w'.cell? (ad746.add ((x3_1).toNat * 4)) = some (.string ((rd_T28 l0 x3_1).f0)) ∧ w'.cell? ⟨(ad746.add ((x3_1).toNat * 4)).block, (ad746.add ((x3_1).toNat * 4)).off + 1, none⟩ = some (.string ((rd_T28 l0 x3_1).f1)) ∧ w'.cell? ⟨(ad746.add ((x3_1).toNat * 4)).block, (ad746.add ((x3_1).toNat * 4)).off + 2, none⟩ = some (.slice A746_2 ((rd_T28 l0 x3_1).f2).length c746_2) ∧ w'.cell? ⟨(ad746.add ((x3_1).toNat * 4)).block, (ad746.add ((x3_1).toNat * 4)).off + 3, none⟩ = some (.slice A746_3 ((rd_T28 l0 x3_1).f3).length c746_3) ∧ w'.cell? (ad746.add ((x3_1).toNat * 4)) = some (.string ((rd_T28 l0 x3_1).f0)) ∧ w'.cell? ⟨(ad746.add ((x3_1).toNat * 4)).block, (ad746.add ((x3_1).toNat * 4)).off + 1, none⟩ = some (.string ((rd_T28 l0 x3_1).f1)) ∧ w'.cell? ⟨(ad746.add ((x3_1).toNat * 4)).block, (ad746.add ((x3_1).toNat * 4)).off + 2, none⟩ = some (.slice A746_2 ((rd_T28 l0 x3_1).f2).length c746_2) ∧ w'.cell? ⟨(ad746.add ((x3_1).toNat * 4)).block, (ad746.add ((x3_1).toNat * 4)).off + 3, none⟩ = some (.slice A746_3 ((rd_T28 l0 x3_1).f3).length c746_3)) (ds := []) #[ff,ff,ff,ff,ff,ff,ff,ff,ff,ff,ff,ff,ff,ff,ff,ff,ff,ff] (by kernel_rfl) rfl rfl ⟨((HB.out.cell (World.block_lt_of_cell? w _ hw746_0)).trans hw746_0), ((HB.out.cell (World.block_lt_of_cell? w _ hw746_1)).trans hw746_1), ((HB.out.cell (World.block_lt_of_cell? w _ hw746_2)).trans hw746_2), ((HB.out.cell (World.block_lt_of_cell? w _ hw746_3)).trans hw746_3), ((HB.out.cell (World.block_lt_of_cell? w _ hw752_0)).trans hw752_0), ((HB.out.cell (World.block_lt_of_cell? w _ hw752_1)).trans hw752_1), ((HB.out.cell (World.block_lt_of_cell? w _ hw752_2)).trans hw752_2), ((HB.out.cell (World.block_lt_of_cell? w _ hw752_3)).trans hw752_3)⟩ (fun hHeld => ?_); refine with_tabW spec_validTests.tab4 spec_validTests.bits4 (fun HT_ HW_ => ?_)
        generalize wr.drew = w11 at HB HR746_2 HR746_3 HR752_2 HR752_3 hx746_0 hx746_1 hx746_2 hx746_3 hx752_0 hx752_1 hx752_2 hx752_3 hHeld ⊢
        refine pu_ 0 (some 10) (v := ?_) (a' := ?_) #[tt,ff,ff,ff,ff,ff,ff,ff,ff,ff,ff,ff,ff,ff,ff,ff,ff,ff] HT_.out rfl rfl (by kernel_rfl) (fun _ _ _ h => h) (Or.inl ⟨by rfl, ?_⟩) ?_ ?_
        rotate_left
        ·intro w'
         go_simp
         with_reducible rfl
        rotate_left
        ·simp only [Act.put, ps_]
         rfl
        refine pu_ 1 (some 11) (v := ?_) (a' := ?_) #[tt,tt,ff,ff,ff,ff,ff,ff,ff,ff,ff,ff,ff,ff,ff,ff,ff,ff] HT_.out rfl rfl (by kernel_rfl) (fun _ _ _ h => h) (Or.inl ⟨by rfl, ?_⟩) ?_ ?_
        rotate_left
        ·intro w'
         go_simp
         with_reducible rfl
        rotate_left
        ·simp only [Act.put, ps_]
         rfl
        refine pu_ 2 (some 12) (v := ?_) (a' := ?_) #[tt,tt,tt,ff,ff,ff,ff,ff,ff,ff,ff,ff,ff,ff,ff,ff,ff,ff] HT_.out rfl rfl (by kernel_rfl) (fun _ _ _ h => h) (Or.inl ⟨by rfl, ?_⟩) ?_ ?_
        rotate_left
        ·intro w'
         go_simp
         with_reducible rfl
        rotate_left
        ·simp only [Act.put, ps_]
         rfl
        refine take_ (i := 3) (N := some 13) (v := ?_) (a' := ?_) #[tt,tt,tt,tt,ff,ff,ff,ff,ff,ff,ff,ff,ff,ff,ff,ff,ff,ff] rfl rfl (take_ofW HT_.out HW_.out (by kernel_rfl)) (fun _ _ _ h => h) (Or.inl ⟨by rfl, ?_⟩) hHeld ?_ ?_
        rotate_left
        ·rintro w' ⟨s0, s1, s2, s3, s4, s5, s6, s7⟩
         go_simp
         with_reducible rfl
        rotate_left
        ·simp only [Act.put, ps_]
         rfl
        refine one_ (i := 4) (N := some 14) #[tt,tt,tt,tt,tt,ff,ff,ff,ff,ff,ff,ff,ff,ff,ff,ff,ff,ff] rfl rfl (one_of HT_.out (by kernel_rfl)) (by decide) (fun K hK => ?_)
        refine goes_ Try.func50 (by kernel_rfl) rfl #[.agg #[.string ((rd_T28 l0 x3_1).f0), .string ((rd_T28 l0 x3_1).f1), .slice A746_2 ((rd_T28 l0 x3_1).f2).length c746_2, .slice A746_3 ((rd_T28 l0 x3_1).f3).length c746_3]] (by rfl) rfl rfl (by (try simp only [List.map_toArray, List.map_cons, List.map_nil]); first | done | rfl) ?_
        with_reducible refine (spec_validTest.calls k1 ((rd_T28 l0 x3_1).f0) ((rd_T28 l0 x3_1).f1) _ _ ((rd_T28 l0 x3_1).f2) _ _ ((rd_T28 l0 x3_1).f3) true _ ?side1 ?side2 ?side3 ?side4 A4.out).mono ?_
        (case side1 => repeat (first | exact (Kd.C_below HR746_2.out HB.out) | with_reducible first | apply Kd.C_alloc | apply Kd.C_drewN | apply Kd.C_drew))
        (case side2 => exact HC746_2.out)
        (case side3 => repeat (first | exact (Kd.C_below HR746_3.out HB.out) | with_reducible first | apply Kd.C_alloc | apply Kd.C_drewN | apply Kd.C_drew))
        (case side4 => exact HC746_3.out)
        rintro e w12 ⟨rfl, hb⟩
        refine ⟨_, rfl, ?_⟩
        replace HB := Aside0.mk (below_step (by repeat first | (with_reducible first | exact HB.out | apply below_alloc | apply pw_below_drewN | apply below_drew1) | exact HB.out) hb)
        (try clear hb)
        (try clear hb2)
        (try clear hk)
        (try clear hi)
        have q13 : (x3_1 : Int) ≤ ((l0.length : Int) : Int) := of_decide_eq_true (by first | (with_reducible assumption) | assumption)
        obtain ⟨i013, hi013, _, hsz13, _⟩ := info_parts info28
        have hroom13 : l0.length ≤ c0 := HC0.out
        have hC13 : Kd.C k28 _ (some ad746) l0.length l0 := HR0.out
        have hcut13 := cut_to (P := Try.prog) 44 28 .i64 Try.underlying44 hi013 (some ad746) l0.length c0 x3_1 (of_decide_eq_true (by first | (with_reducible assumption) | assumption)) q13 hroom13; have hr13 := Kd.C_take (m := (x3_1 : Int).toNat) hC13 (by omega)
        have hy13 : y748.length = (x3_1 : Int).toNat := (by rw [Ny748.out, List.length_take]; omega)
        rw [← Ny748.out] at hr13
        rw [← hy13] at hcut13
        have HR751 := Aside0.mk hr13
        have HC751 := Aside0.mk (show y748.length ≤ c0 from by omega)
        clear hr13 hC13 hroom13 hi013 hsz13; have KY13 := Aside0.mk hy13; clear hy13
        replace q13 := eq_true q13
        refine hK.out _ _ ⟨((HB.out.cell (World.block_lt_of_cell? w _ hw746_0)).trans hw746_0), ((HB.out.cell (World.block_lt_of_cell? w _ hw746_1)).trans hw746_1), ((HB.out.cell (World.block_lt_of_cell? w _ hw746_2)).trans hw746_2), ((HB.out.cell (World.block_lt_of_cell? w _ hw746_3)).trans hw746_3), ((HB.out.cell (World.block_lt_of_cell? w _ hw752_0)).trans hw752_0), ((HB.out.cell (World.block_lt_of_cell? w _ hw752_1)).trans hw752_1), ((HB.out.cell (World.block_lt_of_cell? w _ hw752_2)).trans hw752_2), ((HB.out.cell (World.block_lt_of_cell? w _ hw752_3)).trans hw752_3)⟩ (fun hHeld => ?_)
        clear hK K
        refine norm_ (a' := ?_) ?_ ?_
        rotate_left
        ·show Act.put _ (some 14) _ = _
         simp only [Act.put, ps_]
         rfl
        refine pu_ 5 (some 15) (v := ?_) (a' := ?_) #[tt,tt,tt,tt,tt,tt,ff,ff,ff,ff,ff,ff,ff,ff,ff,ff,ff,ff] HT_.out rfl rfl (by kernel_rfl) (fun _ _ _ h => h) (Or.inl ⟨by rfl, ?_⟩) ?_ ?_
        rotate_left
        ·intro w'
         go_simp
         with_reducible rfl
        rotate_left
        ·simp only [Act.put, ps_]
         rfl
        refine pu_ 6 (some 16) (v := ?_) (a' := ?_) #[tt,tt,tt,tt,tt,tt,tt,ff,ff,ff,ff,ff,ff,ff,ff,ff,ff,ff] HT_.out rfl rfl (by kernel_rfl) (fun _ _ _ h => h) (Or.inl ⟨by rfl, ?_⟩) ?_ ?_
        rotate_left
        ·intro w'
         go_simp
         with_reducible rfl
        rotate_left
        ·simp only [Act.put, ps_]
         rfl
        refine pu_ 7 (some 17) (v := ?_) (a' := ?_) #[tt,tt,tt,tt,tt,tt,tt,tt,ff,ff,ff,ff,ff,ff,ff,ff,ff,ff] HT_.out rfl rfl (by kernel_rfl) (fun _ _ _ h => h) (Or.inl ⟨by rfl, ?_⟩) ?_ ?_
        rotate_left
        ·intro w'
         go_simp
         with_reducible rfl
        rotate_left
        ·simp only [Act.put, ps_]
         rfl
        refine pu_ 8 (some 18) (v := ?_) (a' := ?_) #[tt,tt,tt,tt,tt,tt,tt,tt,tt,ff,ff,ff,ff,ff,ff,ff,ff,ff] HT_.out rfl rfl (by kernel_rfl) (fun _ _ _ h => h) (Or.inl ⟨by rfl, ?_⟩) ?_ ?_
        rotate_left
        ·intro w'
         go_simp
         with_reducible rfl
        rotate_left
        ·simp only [Act.put, ps_]
         rfl
        refine pu_ 9 (some 19) (v := ?_) (a' := ?_) #[tt,tt,tt,tt,tt,tt,tt,tt,tt,tt,ff,ff,ff,ff,ff,ff,ff,ff] HT_.out rfl rfl (by kernel_rfl) (fun _ _ _ h => h) (Or.inl ⟨by rfl, ?_⟩) ?_ ?_
        rotate_left
        ·intro w'
         go_simp
         with_reducible rfl
        rotate_left
        ·simp only [Act.put, ps_]
         rfl
        refine pu_ 10 (some 20) (v := ?_) (a' := ?_) #[tt,tt,tt,tt,tt,tt,tt,tt,tt,tt,tt,ff,ff,ff,ff,ff,ff,ff] HT_.out rfl rfl (by kernel_rfl) (fun _ _ _ h => h) (Or.inl ⟨by rfl, ?_⟩) ?_ ?_
        rotate_left
        ·intro w'
         go_simp
         with_reducible rfl
        rotate_left
        ·simp only [Act.put, ps_]
         rfl
        refine pu_ 11 (some 21) (v := ?_) (a' := ?_) #[tt,tt,tt,tt,tt,tt,tt,tt,tt,tt,tt,tt,ff,ff,ff,ff,ff,ff] HT_.out rfl rfl (by kernel_rfl) (fun _ _ _ h => h) (Or.inl ⟨by rfl, ?_⟩) ?_ ?_
        rotate_left
        ·intro w'
         go_simp
         with_reducible rfl
        rotate_left
        ·simp only [Act.put, ps_]
         rfl
        refine pu_ 12 (some 22) (v := ?_) (a' := ?_) #[tt,tt,tt,tt,tt,tt,tt,tt,tt,tt,tt,tt,tt,ff,ff,ff,ff,ff] HT_.out rfl rfl (by kernel_rfl) (fun _ _ _ h => h) (Or.inl ⟨by rfl, ?_⟩) ?_ ?_
        rotate_left
        ·intro w'
         go_simp
         with_reducible rfl
        rotate_left
        ·simp only [Act.put, ps_]
         rfl
        refine take_ (i := 13) (N := some 23) (v := ?_) (a' := ?_) #[tt,tt,tt,tt,tt,tt,tt,tt,tt,tt,tt,tt,tt,tt,ff,ff,ff,ff] rfl rfl (take_ofW HT_.out HW_.out (by kernel_rfl)) (fun _ _ _ h => h) (Or.inl ⟨by rfl, ?_⟩) hHeld ?_ ?_
        rotate_left
        ·rintro w' ⟨s0, s1, s2, s3, s4, s5, s6, s7⟩
         go_simp
         with_reducible rfl
        rotate_left
        ·simp only [Act.put, ps_]
         rfl
        refine one_ (i := 14) (N := some 24) #[tt,tt,tt,tt,tt,tt,tt,tt,tt,tt,tt,tt,tt,tt,tt,ff,ff,ff] rfl rfl (one_of HT_.out (by kernel_rfl)) (by decide) (fun K hK => ?_)
        refine goes_ Try.func80 (by kernel_rfl) rfl #[.agg #[.string ((rd_T28 l0 x3_1).f0), .string ((rd_T28 l0 x3_1).f1), .slice A746_2 ((rd_T28 l0 x3_1).f2).length c746_2, .slice A746_3 ((rd_T28 l0 x3_1).f3).length c746_3]] (by rfl) rfl rfl (by (try simp only [List.map_toArray, List.map_cons, List.map_nil]); first | done | rfl) ?_
        with_reducible refine (spec_idOf.calls ((rd_T28 l0 x3_1).f0) ((rd_T28 l0 x3_1).f1) _ _ ((rd_T28 l0 x3_1).f2) _ _ ((rd_T28 l0 x3_1).f3) t753 _ ?side1 ?side2 ?side3 ?side4 A8.out).mono ?_
        (case side1 => repeat (first | exact (Kd.C_below HR752_2.out HB.out) | with_reducible first | apply Kd.C_alloc | apply Kd.C_drewN | apply Kd.C_drew))
        (case side2 => exact HC752_2.out)
        (case side3 => repeat (first | exact (Kd.C_below HR752_3.out HB.out) | with_reducible first | apply Kd.C_alloc | apply Kd.C_drewN | apply Kd.C_drew))
        (case side4 => exact HC752_3.out)
        rintro e w14 ⟨rfl, hb⟩
        refine ⟨_, rfl, ?_⟩
        replace HB := Aside0.mk (below_step (by repeat first | (with_reducible first | exact HB.out | apply below_alloc | apply pw_below_drewN | apply below_drew1) | exact HB.out) hb)
        (try clear hb)
        (try clear hb2)
        (try clear hk)
        (try clear hi)
        refine hK.out _ _ ⟨((HB.out.cell (World.block_lt_of_cell? w _ hw746_0)).trans hw746_0), ((HB.out.cell (World.block_lt_of_cell? w _ hw746_1)).trans hw746_1), ((HB.out.cell (World.block_lt_of_cell? w _ hw746_2)).trans hw746_2), ((HB.out.cell (World.block_lt_of_cell? w _ hw746_3)).trans hw746_3), ((HB.out.cell (World.block_lt_of_cell? w _ hw752_0)).trans hw752_0), ((HB.out.cell (World.block_lt_of_cell? w _ hw752_1)).trans hw752_1), ((HB.out.cell (World.block_lt_of_cell? w _ hw752_2)).trans hw752_2), ((HB.out.cell (World.block_lt_of_cell? w _ hw752_3)).trans hw752_3)⟩ (fun hHeld => ?_)
        clear hK K
        refine norm_ (a' := ?_) ?_ ?_
        rotate_left
        ·show Act.put _ (some 24) _ = _
         simp only [Act.put, ps_]
         rfl
        refine one_ (i := 15) (N := some 25) #[tt,tt,tt,tt,tt,tt,tt,tt,tt,tt,tt,tt,tt,tt,tt,tt,ff,ff] rfl rfl (one_of HT_.out (by kernel_rfl)) (by decide) (fun K hK => ?_)
        refine goes_ Try.func79 (by kernel_rfl) rfl #[.slice (some ad746) y748.length c0, .string t753] (by rfl) rfl rfl (by (try simp only [List.map_toArray, List.map_cons, List.map_nil]); first | done | rfl) ?_
        with_reducible refine (spec_findTest.calls k1 _ _ y748 t753 t754 _ ?side1 ?side2 A9.out).mono ?_
        (case side1 => repeat (first | exact (Kd.C_below HR751.out HB.out) | with_reducible first | apply Kd.C_alloc | apply Kd.C_drewN | apply Kd.C_drew))
        (case side2 => exact HC751.out)
        rintro e w15 ⟨rfl, hb⟩
        refine ⟨_, rfl, ?_⟩
        replace HB := Aside0.mk (below_step (by repeat first | (with_reducible first | exact HB.out | apply below_alloc | apply pw_below_drewN | apply below_drew1) | exact HB.out) hb)
        (try clear hb)
        (try clear hb2)
        (try clear hk)
        (try clear hi)
        refine hK.out _ _ ⟨((HB.out.cell (World.block_lt_of_cell? w _ hw746_0)).trans hw746_0), ((HB.out.cell (World.block_lt_of_cell? w _ hw746_1)).trans hw746_1), ((HB.out.cell (World.block_lt_of_cell? w _ hw746_2)).trans hw746_2), ((HB.out.cell (World.block_lt_of_cell? w _ hw746_3)).trans hw746_3), ((HB.out.cell (World.block_lt_of_cell? w _ hw752_0)).trans hw752_0), ((HB.out.cell (World.block_lt_of_cell? w _ hw752_1)).trans hw752_1), ((HB.out.cell (World.block_lt_of_cell? w _ hw752_2)).trans hw752_2), ((HB.out.cell (World.block_lt_of_cell? w _ hw752_3)).trans hw752_3)⟩ (fun hHeld => ?_)
        clear hK K
        refine norm_ (a' := ?_) ?_ ?_
        rotate_left
        ·show Act.put _ (some 25) _ = _
         simp only [Act.put, ps_]
         rfl
        refine pu_ 16 (some 26) (v := ?_) (a' := ?_) #[tt,tt,tt,tt,tt,tt,tt,tt,tt,tt,tt,tt,tt,tt,tt,tt,tt,ff] HT_.out rfl rfl (by kernel_rfl) (fun _ _ _ h => h) (Or.inl ⟨by rfl, ?_⟩) ?_ ?_
        rotate_left
        ·intro w'
         go_simp
         with_reducible rfl
        rotate_left
        ·simp only [Act.put, ps_]
         rfl
        refine pu_ 17 (some 27) (v := ?_) (a' := ?_) #[tt,tt,tt,tt,tt,tt,tt,tt,tt,tt,tt,tt,tt,tt,tt,tt,tt,tt] HT_.out rfl rfl (by kernel_rfl) (fun _ _ _ h => h) (Or.inl ⟨by rfl, ?_⟩) ?_ ?_
        rotate_left
        ·intro w'
         go_simp
         with_reducible rfl
        rotate_left
        ·simp only [Act.put, ps_]
         rfl
        refine done_ (done_of HT_.out (by kernel_rfl)) ?_
        try go_wp2
        go_ret
        exact ⟨by first | rfl | (simp [errW_none, errW_some] <;> rfl) | (simp [*, errW_none, errW_some] <;> rfl), by repeat (first | (with_reducible first | exact HB.out | apply below_alloc | apply pw_below_drewN | apply below_drew1) | exact HB.out)⟩
       ·rw [if_neg c10] at H
        have c10b0 : decide (0 ≤ t754) = false := decide_eq_false c10
        clear c10; have H' := Aside0.mk H; clear H; try go_wp2; replace HB := Aside0.mk (below_drew1 HB.out)
        have p746 : 0 ≤ (x3_1 : Int) := of_decide_eq_true (by first | (with_reducible assumption) | assumption)
        have q746 : x3_1 < (l0.length : Int) := of_decide_eq_true (by first | (with_reducible assumption) | assumption)
        obtain ⟨ad746, A746_2, c746_2, A746_3, c746_3, e746, hx746_0, hx746_1, hx746_2, hx746_3, hl746_2, hi746_2, hl746_3, hi746_3⟩ := at_T28 HR0.out x3_1 p746 q746
        have hw746_3 := hx746_3; have hw746_2 := hx746_2; have hw746_1 := hx746_1; have hw746_0 := hx746_0
        cases e746
        replace hx746_0 := cup_ HB.out hx746_0; replace hx746_1 := cup_ HB.out hx746_1; replace hx746_2 := cup_ HB.out hx746_2; replace hx746_3 := cup_ HB.out hx746_3
        have HR746_2 := Aside0.mk hi746_2; have HC746_2 := Aside0.mk hl746_2; clear hi746_2 hl746_2; have HR746_3 := Aside0.mk hi746_3; have HC746_3 := Aside0.mk hl746_3; clear hi746_3 hl746_3
        replace p746 := eq_true p746
        replace q746 := eq_true q746
        have p752 : 0 ≤ (x3_1 : Int) := of_decide_eq_true (by first | (with_reducible assumption) | assumption)
        have q752 : x3_1 < (l0.length : Int) := of_decide_eq_true (by first | (with_reducible assumption) | assumption)
        obtain ⟨ad752, A752_2, c752_2, A752_3, c752_3, e752, hx752_0, hx752_1, hx752_2, hx752_3, hl752_2, hi752_2, hl752_3, hi752_3⟩ := at_T28 HR0.out x3_1 p752 q752
        have hw752_3 := hx752_3; have hw752_2 := hx752_2; have hw752_1 := hx752_1; have hw752_0 := hx752_0
        obtain rfl : ad746 = ad752 := (by injection e752)
        obtain ⟨rfl, rfl⟩ : A746_2 = A752_2 ∧ c746_2 = c752_2 := by
         have e_ := Option.some.inj (hw746_2.symm.trans hx752_2)
         injection e_ with e1_ _ e2_
         exact ⟨e1_, e2_⟩
        obtain ⟨rfl, rfl⟩ : A746_3 = A752_3 ∧ c746_3 = c752_3 := by
         have e_ := Option.some.inj (hw746_3.symm.trans hx752_3)
         injection e_ with e1_ _ e2_
         exact ⟨e1_, e2_⟩
        replace hx752_0 := cup_ HB.out hx752_0; replace hx752_1 := cup_ HB.out hx752_1; replace hx752_2 := cup_ HB.out hx752_2; replace hx752_3 := cup_ HB.out hx752_3
        have HR752_2 := Aside0.mk hi752_2; have HC752_2 := Aside0.mk hl752_2; clear hi752_2 hl752_2; have HR752_3 := Aside0.mk hi752_3; have HC752_3 := Aside0.mk hl752_3; clear hi752_3 hl752_3
        replace p752 := eq_true p752
        replace q752 := eq_true q752
        refine start_ (n := 18) (S := fun w' => w'.cell? (ad746.add ((x3_1).toNat * 4)) = some (.string ((rd_T28 l0 x3_1).f0)) ∧ w'.cell? ⟨(ad746.add ((x3_1).toNat * 4)).block, (ad746.add ((x3_1).toNat * 4)).off + 1, none⟩ = some (.string ((rd_T28 l0 x3_1).f1)) ∧ w'.cell? ⟨(ad746.add ((x3_1).toNat * 4)).block, (ad746.add ((x3_1).toNat * 4)).off + 2, none⟩ = some (.slice A746_2 ((rd_T28 l0 x3_1).f2).length c746_2) ∧ w'.cell? ⟨(ad746.add ((x3_1).toNat * 4)).block, (ad746.add ((x3_1).toNat * 4)).off + 3, none⟩ = some (.slice A746_3 ((rd_T28 l0 x3_1).f3).length c746_3) ∧ w'.cell? (ad746.add ((x3_1).toNat * 4)) = some (.string ((rd_T28 l0 x3_1).f0)) ∧ w'.cell? ⟨(ad746.add ((x3_1).toNat * 4)).block, (ad746.add ((x3_1).toNat * 4)).off + 1, none⟩ = some (.string ((rd_T28 l0 x3_1).f1)) ∧ w'.cell? ⟨(ad746.add ((x3_1).toNat * 4)).block, (ad746.add ((x3_1).toNat * 4)).off + 2, none⟩ = some (.slice A746_2 ((rd_T28 l0 x3_1).f2).length c746_2) ∧ w'.cell? ⟨(ad746.add ((x3_1).toNat * 4)).block, (ad746.add ((x3_1).toNat * 4)).off + 3, none⟩ = some (.slice A746_3 ((rd_T28 l0 x3_1).f3).length c746_3)) (ds := []) #[ff,ff,ff,ff,ff,ff,ff,ff,ff,ff,ff,ff,ff,ff,ff,ff,ff,ff] (by kernel_rfl) rfl rfl ⟨((HB.out.cell (World.block_lt_of_cell? w _ hw746_0)).trans hw746_0), ((HB.out.cell (World.block_lt_of_cell? w _ hw746_1)).trans hw746_1), ((HB.out.cell (World.block_lt_of_cell? w _ hw746_2)).trans hw746_2), ((HB.out.cell (World.block_lt_of_cell? w _ hw746_3)).trans hw746_3), ((HB.out.cell (World.block_lt_of_cell? w _ hw752_0)).trans hw752_0), ((HB.out.cell (World.block_lt_of_cell? w _ hw752_1)).trans hw752_1), ((HB.out.cell (World.block_lt_of_cell? w _ hw752_2)).trans hw752_2), ((HB.out.cell (World.block_lt_of_cell? w _ hw752_3)).trans hw752_3)⟩ (fun hHeld => ?_); refine with_tabW spec_validTests.tab4 spec_validTests.bits4 (fun HT_ HW_ => ?_)
        generalize wr.drew = w16 at HB HR746_2 HR746_3 HR752_2 HR752_3 hx746_0 hx746_1 hx746_2 hx746_3 hx752_0 hx752_1 hx752_2 hx752_3 hHeld ⊢
        refine pu_ 0 (some 10) (v := ?_) (a' := ?_) #[tt,ff,ff,ff,ff,ff,ff,ff,ff,ff,ff,ff,ff,ff,ff,ff,ff,ff] HT_.out rfl rfl (by kernel_rfl) (fun _ _ _ h => h) (Or.inl ⟨by rfl, ?_⟩) ?_ ?_
        rotate_left
        ·intro w'
         go_simp
         with_reducible rfl
        rotate_left
        ·simp only [Act.put, ps_]
         rfl
        refine pu_ 1 (some 11) (v := ?_) (a' := ?_) #[tt,tt,ff,ff,ff,ff,ff,ff,ff,ff,ff,ff,ff,ff,ff,ff,ff,ff] HT_.out rfl rfl (by kernel_rfl) (fun _ _ _ h => h) (Or.inl ⟨by rfl, ?_⟩) ?_ ?_
        rotate_left
        ·intro w'
         go_simp
         with_reducible rfl
        rotate_left
        ·simp only [Act.put, ps_]
         rfl
        refine pu_ 2 (some 12) (v := ?_) (a' := ?_) #[tt,tt,tt,ff,ff,ff,ff,ff,ff,ff,ff,ff,ff,ff,ff,ff,ff,ff] HT_.out rfl rfl (by kernel_rfl) (fun _ _ _ h => h) (Or.inl ⟨by rfl, ?_⟩) ?_ ?_
        rotate_left
        ·intro w'
         go_simp
         with_reducible rfl
        rotate_left
        ·simp only [Act.put, ps_]
         rfl
        refine take_ (i := 3) (N := some 13) (v := ?_) (a' := ?_) #[tt,tt,tt,tt,ff,ff,ff,ff,ff,ff,ff,ff,ff,ff,ff,ff,ff,ff] rfl rfl (take_ofW HT_.out HW_.out (by kernel_rfl)) (fun _ _ _ h => h) (Or.inl ⟨by rfl, ?_⟩) hHeld ?_ ?_
        rotate_left
        ·rintro w' ⟨s0, s1, s2, s3, s4, s5, s6, s7⟩
         go_simp
         with_reducible rfl
        rotate_left
        ·simp only [Act.put, ps_]
         rfl
        refine one_ (i := 4) (N := some 14) #[tt,tt,tt,tt,tt,ff,ff,ff,ff,ff,ff,ff,ff,ff,ff,ff,ff,ff] rfl rfl (one_of HT_.out (by kernel_rfl)) (by decide) (fun K hK => ?_)
        refine goes_ Try.func50 (by kernel_rfl) rfl #[.agg #[.string ((rd_T28 l0 x3_1).f0), .string ((rd_T28 l0 x3_1).f1), .slice A746_2 ((rd_T28 l0 x3_1).f2).length c746_2, .slice A746_3 ((rd_T28 l0 x3_1).f3).length c746_3]] (by rfl) rfl rfl (by (try simp only [List.map_toArray, List.map_cons, List.map_nil]); first | done | rfl) ?_
        with_reducible refine (spec_validTest.calls k1 ((rd_T28 l0 x3_1).f0) ((rd_T28 l0 x3_1).f1) _ _ ((rd_T28 l0 x3_1).f2) _ _ ((rd_T28 l0 x3_1).f3) true _ ?side1 ?side2 ?side3 ?side4 A4.out).mono ?_
        (case side1 => repeat (first | exact (Kd.C_below HR746_2.out HB.out) | with_reducible first | apply Kd.C_alloc | apply Kd.C_drewN | apply Kd.C_drew))
        (case side2 => exact HC746_2.out)
        (case side3 => repeat (first | exact (Kd.C_below HR746_3.out HB.out) | with_reducible first | apply Kd.C_alloc | apply Kd.C_drewN | apply Kd.C_drew))
        (case side4 => exact HC746_3.out)
        rintro e w17 ⟨rfl, hb⟩
        refine ⟨_, rfl, ?_⟩
        replace HB := Aside0.mk (below_step (by repeat first | (with_reducible first | exact HB.out | apply below_alloc | apply pw_below_drewN | apply below_drew1) | exact HB.out) hb)
        (try clear hb)
        (try clear hb2)
        (try clear hk)
        (try clear hi)
        have q18 : (x3_1 : Int) ≤ ((l0.length : Int) : Int) := of_decide_eq_true (by first | (with_reducible assumption) | assumption)
        obtain ⟨i018, hi018, _, hsz18, _⟩ := info_parts info28
        have hroom18 : l0.length ≤ c0 := HC0.out
        have hC18 : Kd.C k28 _ (some ad746) l0.length l0 := HR0.out
        have hcut18 := cut_to (P := Try.prog) 44 28 .i64 Try.underlying44 hi018 (some ad746) l0.length c0 x3_1 (of_decide_eq_true (by first | (with_reducible assumption) | assumption)) q18 hroom18; have hr18 := Kd.C_take (m := (x3_1 : Int).toNat) hC18 (by omega)
        have hy18 : y748.length = (x3_1 : Int).toNat := (by rw [Ny748.out, List.length_take]; omega)
        rw [← Ny748.out] at hr18
        rw [← hy18] at hcut18
        have HR751 := Aside0.mk hr18
        have HC751 := Aside0.mk (show y748.length ≤ c0 from by omega)
        clear hr18 hC18 hroom18 hi018 hsz18; have KY18 := Aside0.mk hy18; clear hy18
        replace q18 := eq_true q18
        refine hK.out _ _ ⟨((HB.out.cell (World.block_lt_of_cell? w _ hw746_0)).trans hw746_0), ((HB.out.cell (World.block_lt_of_cell? w _ hw746_1)).trans hw746_1), ((HB.out.cell (World.block_lt_of_cell? w _ hw746_2)).trans hw746_2), ((HB.out.cell (World.block_lt_of_cell? w _ hw746_3)).trans hw746_3), ((HB.out.cell (World.block_lt_of_cell? w _ hw752_0)).trans hw752_0), ((HB.out.cell (World.block_lt_of_cell? w _ hw752_1)).trans hw752_1), ((HB.out.cell (World.block_lt_of_cell? w _ hw752_2)).trans hw752_2), ((HB.out.cell (World.block_lt_of_cell? w _ hw752_3)).trans hw752_3)⟩ (fun hHeld => ?_)
        clear hK K
        refine norm_ (a' := ?_) ?_ ?_
        rotate_left
        ·show Act.put _ (some 14) _ = _
         simp only [Act.put, ps_]
         rfl
        refine pu_ 5 (some 15) (v := ?_) (a' := ?_) #[tt,tt,tt,tt,tt,tt,ff,ff,ff,ff,ff,ff,ff,ff,ff,ff,ff,ff] HT_.out rfl rfl (by kernel_rfl) (fun _ _ _ h => h) (Or.inl ⟨by rfl, ?_⟩) ?_ ?_
        rotate_left
        ·intro w'
         go_simp
         with_reducible rfl
        rotate_left
        ·simp only [Act.put, ps_]
         rfl
        refine pu_ 6 (some 16) (v := ?_) (a' := ?_) #[tt,tt,tt,tt,tt,tt,tt,ff,ff,ff,ff,ff,ff,ff,ff,ff,ff,ff] HT_.out rfl rfl (by kernel_rfl) (fun _ _ _ h => h) (Or.inl ⟨by rfl, ?_⟩) ?_ ?_
        rotate_left
        ·intro w'
         go_simp
         with_reducible rfl
        rotate_left
        ·simp only [Act.put, ps_]
         rfl
        refine pu_ 7 (some 17) (v := ?_) (a' := ?_) #[tt,tt,tt,tt,tt,tt,tt,tt,ff,ff,ff,ff,ff,ff,ff,ff,ff,ff] HT_.out rfl rfl (by kernel_rfl) (fun _ _ _ h => h) (Or.inl ⟨by rfl, ?_⟩) ?_ ?_
        rotate_left
        ·intro w'
         go_simp
         with_reducible rfl
        rotate_left
        ·simp only [Act.put, ps_]
         rfl
        refine pu_ 8 (some 18) (v := ?_) (a' := ?_) #[tt,tt,tt,tt,tt,tt,tt,tt,tt,ff,ff,ff,ff,ff,ff,ff,ff,ff] HT_.out rfl rfl (by kernel_rfl) (fun _ _ _ h => h) (Or.inl ⟨by rfl, ?_⟩) ?_ ?_
        rotate_left
        ·intro w'
         go_simp
         with_reducible rfl
        rotate_left
        ·simp only [Act.put, ps_]
         rfl
        refine pu_ 9 (some 19) (v := ?_) (a' := ?_) #[tt,tt,tt,tt,tt,tt,tt,tt,tt,tt,ff,ff,ff,ff,ff,ff,ff,ff] HT_.out rfl rfl (by kernel_rfl) (fun _ _ _ h => h) (Or.inl ⟨by rfl, ?_⟩) ?_ ?_
        rotate_left
        ·intro w'
         go_simp
         with_reducible rfl
        rotate_left
        ·simp only [Act.put, ps_]
         rfl
        refine pu_ 10 (some 20) (v := ?_) (a' := ?_) #[tt,tt,tt,tt,tt,tt,tt,tt,tt,tt,tt,ff,ff,ff,ff,ff,ff,ff] HT_.out rfl rfl (by kernel_rfl) (fun _ _ _ h => h) (Or.inl ⟨by rfl, ?_⟩) ?_ ?_
        rotate_left
        ·intro w'
         go_simp
         with_reducible rfl
        rotate_left
        ·simp only [Act.put, ps_]
         rfl
        refine pu_ 11 (some 21) (v := ?_) (a' := ?_) #[tt,tt,tt,tt,tt,tt,tt,tt,tt,tt,tt,tt,ff,ff,ff,ff,ff,ff] HT_.out rfl rfl (by kernel_rfl) (fun _ _ _ h => h) (Or.inl ⟨by rfl, ?_⟩) ?_ ?_
        rotate_left
        ·intro w'
         go_simp
         with_reducible rfl
        rotate_left
        ·simp only [Act.put, ps_]
         rfl
        refine pu_ 12 (some 22) (v := ?_) (a' := ?_) #[tt,tt,tt,tt,tt,tt,tt,tt,tt,tt,tt,tt,tt,ff,ff,ff,ff,ff] HT_.out rfl rfl (by kernel_rfl) (fun _ _ _ h => h) (Or.inl ⟨by rfl, ?_⟩) ?_ ?_
        rotate_left
        ·intro w'
         go_simp
         with_reducible rfl
        rotate_left
        ·simp only [Act.put, ps_]
         rfl
        refine take_ (i := 13) (N := some 23) (v := ?_) (a' := ?_) #[tt,tt,tt,tt,tt,tt,tt,tt,tt,tt,tt,tt,tt,tt,ff,ff,ff,ff] rfl rfl (take_ofW HT_.out HW_.out (by kernel_rfl)) (fun _ _ _ h => h) (Or.inl ⟨by rfl, ?_⟩) hHeld ?_ ?_
        rotate_left
        ·rintro w' ⟨s0, s1, s2, s3, s4, s5, s6, s7⟩
         go_simp
         with_reducible rfl
        rotate_left
        ·simp only [Act.put, ps_]
         rfl
        refine one_ (i := 14) (N := some 24) #[tt,tt,tt,tt,tt,tt,tt,tt,tt,tt,tt,tt,tt,tt,tt,ff,ff,ff] rfl rfl (one_of HT_.out (by kernel_rfl)) (by decide) (fun K hK => ?_)
        refine goes_ Try.func80 (by kernel_rfl) rfl #[.agg #[.string ((rd_T28 l0 x3_1).f0), .string ((rd_T28 l0 x3_1).f1), .slice A746_2 ((rd_T28 l0 x3_1).f2).length c746_2, .slice A746_3 ((rd_T28 l0 x3_1).f3).length c746_3]] (by rfl) rfl rfl (by (try simp only [List.map_toArray, List.map_cons, List.map_nil]); first | done | rfl) ?_
        with_reducible refine (spec_idOf.calls ((rd_T28 l0 x3_1).f0) ((rd_T28 l0 x3_1).f1) _ _ ((rd_T28 l0 x3_1).f2) _ _ ((rd_T28 l0 x3_1).f3) t753 _ ?side1 ?side2 ?side3 ?side4 A8.out).mono ?_
        (case side1 => repeat (first | exact (Kd.C_below HR752_2.out HB.out) | with_reducible first | apply Kd.C_alloc | apply Kd.C_drewN | apply Kd.C_drew))
        (case side2 => exact HC752_2.out)
        (case side3 => repeat (first | exact (Kd.C_below HR752_3.out HB.out) | with_reducible first | apply Kd.C_alloc | apply Kd.C_drewN | apply Kd.C_drew))
        (case side4 => exact HC752_3.out)
        rintro e w19 ⟨rfl, hb⟩
        refine ⟨_, rfl, ?_⟩
        replace HB := Aside0.mk (below_step (by repeat first | (with_reducible first | exact HB.out | apply below_alloc | apply pw_below_drewN | apply below_drew1) | exact HB.out) hb)
        (try clear hb)
        (try clear hb2)
        (try clear hk)
        (try clear hi)
        refine hK.out _ _ ⟨((HB.out.cell (World.block_lt_of_cell? w _ hw746_0)).trans hw746_0), ((HB.out.cell (World.block_lt_of_cell? w _ hw746_1)).trans hw746_1), ((HB.out.cell (World.block_lt_of_cell? w _ hw746_2)).trans hw746_2), ((HB.out.cell (World.block_lt_of_cell? w _ hw746_3)).trans hw746_3), ((HB.out.cell (World.block_lt_of_cell? w _ hw752_0)).trans hw752_0), ((HB.out.cell (World.block_lt_of_cell? w _ hw752_1)).trans hw752_1), ((HB.out.cell (World.block_lt_of_cell? w _ hw752_2)).trans hw752_2), ((HB.out.cell (World.block_lt_of_cell? w _ hw752_3)).trans hw752_3)⟩ (fun hHeld => ?_)
        clear hK K
        refine norm_ (a' := ?_) ?_ ?_
        rotate_left
        ·show Act.put _ (some 24) _ = _
         simp only [Act.put, ps_]
         rfl
        refine one_ (i := 15) (N := some 25) #[tt,tt,tt,tt,tt,tt,tt,tt,tt,tt,tt,tt,tt,tt,tt,tt,ff,ff] rfl rfl (one_of HT_.out (by kernel_rfl)) (by decide) (fun K hK => ?_)
        refine goes_ Try.func79 (by kernel_rfl) rfl #[.slice (some ad746) y748.length c0, .string t753] (by rfl) rfl rfl (by (try simp only [List.map_toArray, List.map_cons, List.map_nil]); first | done | rfl) ?_
        with_reducible refine (spec_findTest.calls k1 _ _ y748 t753 t754 _ ?side1 ?side2 A9.out).mono ?_
        (case side1 => repeat (first | exact (Kd.C_below HR751.out HB.out) | with_reducible first | apply Kd.C_alloc | apply Kd.C_drewN | apply Kd.C_drew))
        (case side2 => exact HC751.out)
        rintro e w20 ⟨rfl, hb⟩
        refine ⟨_, rfl, ?_⟩
        replace HB := Aside0.mk (below_step (by repeat first | (with_reducible first | exact HB.out | apply below_alloc | apply pw_below_drewN | apply below_drew1) | exact HB.out) hb)
        (try clear hb)
        (try clear hb2)
        (try clear hk)
        (try clear hi)
        refine hK.out _ _ ⟨((HB.out.cell (World.block_lt_of_cell? w _ hw746_0)).trans hw746_0), ((HB.out.cell (World.block_lt_of_cell? w _ hw746_1)).trans hw746_1), ((HB.out.cell (World.block_lt_of_cell? w _ hw746_2)).trans hw746_2), ((HB.out.cell (World.block_lt_of_cell? w _ hw746_3)).trans hw746_3), ((HB.out.cell (World.block_lt_of_cell? w _ hw752_0)).trans hw752_0), ((HB.out.cell (World.block_lt_of_cell? w _ hw752_1)).trans hw752_1), ((HB.out.cell (World.block_lt_of_cell? w _ hw752_2)).trans hw752_2), ((HB.out.cell (World.block_lt_of_cell? w _ hw752_3)).trans hw752_3)⟩ (fun hHeld => ?_)
        clear hK K
        refine norm_ (a' := ?_) ?_ ?_
        rotate_left
        ·show Act.put _ (some 25) _ = _
         simp only [Act.put, ps_]
         rfl
        refine pu_ 16 (some 26) (v := ?_) (a' := ?_) #[tt,tt,tt,tt,tt,tt,tt,tt,tt,tt,tt,tt,tt,tt,tt,tt,tt,ff] HT_.out rfl rfl (by kernel_rfl) (fun _ _ _ h => h) (Or.inl ⟨by rfl, ?_⟩) ?_ ?_
        rotate_left
        ·intro w'
         go_simp
         with_reducible rfl
        rotate_left
        ·simp only [Act.put, ps_]
         rfl
        refine pu_ 17 (some 27) (v := ?_) (a' := ?_) #[tt,tt,tt,tt,tt,tt,tt,tt,tt,tt,tt,tt,tt,tt,tt,tt,tt,tt] HT_.out rfl rfl (by kernel_rfl) (fun _ _ _ h => h) (Or.inl ⟨by rfl, ?_⟩) ?_ ?_
        rotate_left
        ·intro w'
         go_simp
         with_reducible rfl
        rotate_left
        ·simp only [Act.put, ps_]
         rfl
        refine done_ (done_of HT_.out (by kernel_rfl)) ?_
        try go_wp2
        go_roundg k1
        case measure => have := HK1.out; omega
        case rel => exact ⟨(wrap64 (x3_1 + 1)), (by first | rfl | (simp; done) | (simp [*]; done)), H', ⟨by have := HK1.out; omega⟩, ⟨by repeat (first | (with_reducible first | exact HB.out | apply below_alloc | apply pw_below_drewN | apply below_drew1) | exact HB.out)⟩⟩
      ·rw [if_neg c7] at H
       exact absurd H (by simp)
     ·replace c5 := Bool.eq_false_iff.mpr c5
      subst c5
      have H1 : (some false) = some r := by rw [if_neg (show ¬ (false = true) by decide)] at H; exact H
      clear H; have H := H1; clear H1
      obtain rfl := Option.some.inj H
      try go_wp2; replace HB := Aside0.mk (below_drew1 HB.out)
      have p746 : 0 ≤ (x3_1 : Int) := of_decide_eq_true (by first | (with_reducible assumption) | assumption)
      have q746 : x3_1 < (l0.length : Int) := of_decide_eq_true (by first | (with_reducible assumption) | assumption)
      obtain ⟨ad746, A746_2, c746_2, A746_3, c746_3, e746, hx746_0, hx746_1, hx746_2, hx746_3, hl746_2, hi746_2, hl746_3, hi746_3⟩ := at_T28 HR0.out x3_1 p746 q746
      have hw746_3 := hx746_3; have hw746_2 := hx746_2; have hw746_1 := hx746_1; have hw746_0 := hx746_0
      cases e746
      replace hx746_0 := cup_ HB.out hx746_0; replace hx746_1 := cup_ HB.out hx746_1; replace hx746_2 := cup_ HB.out hx746_2; replace hx746_3 := cup_ HB.out hx746_3
      have HR746_2 := Aside0.mk hi746_2; have HC746_2 := Aside0.mk hl746_2; clear hi746_2 hl746_2; have HR746_3 := Aside0.mk hi746_3; have HC746_3 := Aside0.mk hl746_3; clear hi746_3 hl746_3
      replace p746 := eq_true p746
      replace q746 := eq_true q746
      refine start_ (n := 18) (S := fun w' => w'.cell? (ad746.add ((x3_1).toNat * 4)) = some (.string ((rd_T28 l0 x3_1).f0)) ∧ w'.cell? ⟨(ad746.add ((x3_1).toNat * 4)).block, (ad746.add ((x3_1).toNat * 4)).off + 1, none⟩ = some (.string ((rd_T28 l0 x3_1).f1)) ∧ w'.cell? ⟨(ad746.add ((x3_1).toNat * 4)).block, (ad746.add ((x3_1).toNat * 4)).off + 2, none⟩ = some (.slice A746_2 ((rd_T28 l0 x3_1).f2).length c746_2) ∧ w'.cell? ⟨(ad746.add ((x3_1).toNat * 4)).block, (ad746.add ((x3_1).toNat * 4)).off + 3, none⟩ = some (.slice A746_3 ((rd_T28 l0 x3_1).f3).length c746_3)) (ds := []) #[ff,ff,ff,ff,ff,ff,ff,ff,ff,ff,ff,ff,ff,ff,ff,ff,ff,ff] (by kernel_rfl) rfl rfl ⟨((HB.out.cell (World.block_lt_of_cell? w _ hw746_0)).trans hw746_0), ((HB.out.cell (World.block_lt_of_cell? w _ hw746_1)).trans hw746_1), ((HB.out.cell (World.block_lt_of_cell? w _ hw746_2)).trans hw746_2), ((HB.out.cell (World.block_lt_of_cell? w _ hw746_3)).trans hw746_3)⟩ (fun hHeld => ?_); refine with_tabW spec_validTests.tab4 spec_validTests.bits4 (fun HT_ HW_ => ?_)
      generalize wr.drew = w21 at HB HR746_2 HR746_3 hx746_0 hx746_1 hx746_2 hx746_3 hHeld ⊢
      refine pu_ 0 (some 10) (v := ?_) (a' := ?_) #[tt,ff,ff,ff,ff,ff,ff,ff,ff,ff,ff,ff,ff,ff,ff,ff,ff,ff] HT_.out rfl rfl (by kernel_rfl) (fun _ _ _ h => h) (Or.inl ⟨by rfl, ?_⟩) ?_ ?_
      rotate_left
      ·intro w'
       go_simp
       with_reducible rfl
      rotate_left
      ·simp only [Act.put, ps_]
       rfl
      refine pu_ 1 (some 11) (v := ?_) (a' := ?_) #[tt,tt,ff,ff,ff,ff,ff,ff,ff,ff,ff,ff,ff,ff,ff,ff,ff,ff] HT_.out rfl rfl (by kernel_rfl) (fun _ _ _ h => h) (Or.inl ⟨by rfl, ?_⟩) ?_ ?_
      rotate_left
      ·intro w'
       go_simp
       with_reducible rfl
      rotate_left
      ·simp only [Act.put, ps_]
       rfl
      refine pu_ 2 (some 12) (v := ?_) (a' := ?_) #[tt,tt,tt,ff,ff,ff,ff,ff,ff,ff,ff,ff,ff,ff,ff,ff,ff,ff] HT_.out rfl rfl (by kernel_rfl) (fun _ _ _ h => h) (Or.inl ⟨by rfl, ?_⟩) ?_ ?_
      rotate_left
      ·intro w'
       go_simp
       with_reducible rfl
      rotate_left
      ·simp only [Act.put, ps_]
       rfl
      refine take_ (i := 3) (N := some 13) (v := ?_) (a' := ?_) #[tt,tt,tt,tt,ff,ff,ff,ff,ff,ff,ff,ff,ff,ff,ff,ff,ff,ff] rfl rfl (take_ofW HT_.out HW_.out (by kernel_rfl)) (fun _ _ _ h => h) (Or.inl ⟨by rfl, ?_⟩) hHeld ?_ ?_
      rotate_left
      ·rintro w' ⟨s0, s1, s2, s3⟩
       go_simp
       with_reducible rfl
      rotate_left
      ·simp only [Act.put, ps_]
       rfl
      refine one_ (i := 4) (N := some 14) #[tt,tt,tt,tt,tt,ff,ff,ff,ff,ff,ff,ff,ff,ff,ff,ff,ff,ff] rfl rfl (one_of HT_.out (by kernel_rfl)) (by decide) (fun K hK => ?_)
      refine goes_ Try.func50 (by kernel_rfl) rfl #[.agg #[.string ((rd_T28 l0 x3_1).f0), .string ((rd_T28 l0 x3_1).f1), .slice A746_2 ((rd_T28 l0 x3_1).f2).length c746_2, .slice A746_3 ((rd_T28 l0 x3_1).f3).length c746_3]] (by rfl) rfl rfl (by (try simp only [List.map_toArray, List.map_cons, List.map_nil]); first | done | rfl) ?_
      with_reducible refine (spec_validTest.calls k1 ((rd_T28 l0 x3_1).f0) ((rd_T28 l0 x3_1).f1) _ _ ((rd_T28 l0 x3_1).f2) _ _ ((rd_T28 l0 x3_1).f3) false _ ?side1 ?side2 ?side3 ?side4 A4.out).mono ?_
      (case side1 => repeat (first | exact (Kd.C_below HR746_2.out HB.out) | with_reducible first | apply Kd.C_alloc | apply Kd.C_drewN | apply Kd.C_drew))
      (case side2 => exact HC746_2.out)
      (case side3 => repeat (first | exact (Kd.C_below HR746_3.out HB.out) | with_reducible first | apply Kd.C_alloc | apply Kd.C_drewN | apply Kd.C_drew))
      (case side4 => exact HC746_3.out)
      rintro e w22 ⟨rfl, hb⟩
      refine ⟨_, rfl, ?_⟩
      replace HB := Aside0.mk (below_step (by repeat first | (with_reducible first | exact HB.out | apply below_alloc | apply pw_below_drewN | apply below_drew1) | exact HB.out) hb)
      (try clear hb)
      (try clear hb2)
      (try clear hk)
      (try clear hi)
      refine hK.out _ _ ⟨((HB.out.cell (World.block_lt_of_cell? w _ hw746_0)).trans hw746_0), ((HB.out.cell (World.block_lt_of_cell? w _ hw746_1)).trans hw746_1), ((HB.out.cell (World.block_lt_of_cell? w _ hw746_2)).trans hw746_2), ((HB.out.cell (World.block_lt_of_cell? w _ hw746_3)).trans hw746_3)⟩ (fun hHeld => ?_)
      clear hK K
      refine norm_ (a' := ?_) ?_ ?_
      rotate_left
      ·show Act.put _ (some 14) _ = _
       simp only [Act.put, ps_]
       rfl
      refine pu_ 5 (some 15) (v := ?_) (a' := ?_) #[tt,tt,tt,tt,tt,tt,ff,ff,ff,ff,ff,ff,ff,ff,ff,ff,ff,ff] HT_.out rfl rfl (by kernel_rfl) (fun _ _ _ h => h) (Or.inl ⟨by rfl, ?_⟩) ?_ ?_
      rotate_left
      ·intro w'
       go_simp
       with_reducible rfl
      rotate_left
      ·simp only [Act.put, ps_]
       rfl
      refine pu_ 6 (some 16) (v := ?_) (a' := ?_) #[tt,tt,tt,tt,tt,tt,tt,ff,ff,ff,ff,ff,ff,ff,ff,ff,ff,ff] HT_.out rfl rfl (by kernel_rfl) (fun _ _ _ h => h) (Or.inl ⟨by rfl, ?_⟩) ?_ ?_
      rotate_left
      ·intro w'
       go_simp
       with_reducible rfl
      rotate_left
      ·simp only [Act.put, ps_]
       rfl
      refine pure_ (i := 7) (N := some 17) (v := undef) (a' := ?_) #[tt,tt,tt,tt,tt,tt,tt,tt,ff,ff,ff,ff,ff,ff,ff,ff,ff,ff] rfl rfl (any_of HT_.out (by kernel_rfl)) (fun _ _ _ h => h) (Or.inr ⟨by rfl, rfl⟩) ?_ ?_
      rotate_left
      ·simp only [Act.put, ps_]
       rfl
      refine pure_ (i := 8) (N := some 18) (v := undef) (a' := ?_) #[tt,tt,tt,tt,tt,tt,tt,tt,tt,ff,ff,ff,ff,ff,ff,ff,ff,ff] rfl rfl (any_of HT_.out (by kernel_rfl)) (fun _ _ _ h => h) (Or.inr ⟨by rfl, rfl⟩) ?_ ?_
      rotate_left
      ·simp only [Act.put, ps_]
       rfl
      refine pure_ (i := 9) (N := some 19) (v := undef) (a' := ?_) #[tt,tt,tt,tt,tt,tt,tt,tt,tt,tt,ff,ff,ff,ff,ff,ff,ff,ff] rfl rfl (any_of HT_.out (by kernel_rfl)) (fun _ _ _ h => h) (Or.inr ⟨by rfl, rfl⟩) ?_ ?_
      rotate_left
      ·simp only [Act.put, ps_]
       rfl
      refine pure_ (i := 10) (N := some 20) (v := undef) (a' := ?_) #[tt,tt,tt,tt,tt,tt,tt,tt,tt,tt,tt,ff,ff,ff,ff,ff,ff,ff] rfl rfl (any_of HT_.out (by kernel_rfl)) (fun _ _ _ h => h) (Or.inr ⟨by rfl, rfl⟩) ?_ ?_
      rotate_left
      ·simp only [Act.put, ps_]
       rfl
      refine pure_ (i := 11) (N := some 21) (v := undef) (a' := ?_) #[tt,tt,tt,tt,tt,tt,tt,tt,tt,tt,tt,tt,ff,ff,ff,ff,ff,ff] rfl rfl (any_of HT_.out (by kernel_rfl)) (fun _ _ _ h => h) (Or.inr ⟨by rfl, rfl⟩) ?_ ?_
      rotate_left
      ·simp only [Act.put, ps_]
       rfl
      refine pure_ (i := 12) (N := some 22) (v := undef) (a' := ?_) #[tt,tt,tt,tt,tt,tt,tt,tt,tt,tt,tt,tt,tt,ff,ff,ff,ff,ff] rfl rfl (any_of HT_.out (by kernel_rfl)) (fun _ _ _ h => h) (Or.inr ⟨by rfl, rfl⟩) ?_ ?_
      rotate_left
      ·simp only [Act.put, ps_]
       rfl
      refine pure_ (i := 13) (N := some 23) (v := undef) (a' := ?_) #[tt,tt,tt,tt,tt,tt,tt,tt,tt,tt,tt,tt,tt,tt,ff,ff,ff,ff] rfl rfl (any_of HT_.out (by kernel_rfl)) (fun _ _ _ h => h) (Or.inr ⟨by rfl, rfl⟩) ?_ ?_
      rotate_left
      ·simp only [Act.put, ps_]
       rfl
      refine pure_ (i := 14) (N := some 24) (v := undef) (a' := ?_) #[tt,tt,tt,tt,tt,tt,tt,tt,tt,tt,tt,tt,tt,tt,tt,ff,ff,ff] rfl rfl (any_of HT_.out (by kernel_rfl)) (fun _ _ _ h => h) (Or.inr ⟨by rfl, rfl⟩) ?_ ?_
      rotate_left
      ·simp only [Act.put, ps_]
       rfl
      refine pure_ (i := 15) (N := some 25) (v := undef) (a' := ?_) #[tt,tt,tt,tt,tt,tt,tt,tt,tt,tt,tt,tt,tt,tt,tt,tt,ff,ff] rfl rfl (any_of HT_.out (by kernel_rfl)) (fun _ _ _ h => h) (Or.inr ⟨by rfl, rfl⟩) ?_ ?_
      rotate_left
      ·simp only [Act.put, ps_]
       rfl
      refine pure_ (i := 16) (N := some 26) (v := undef) (a' := ?_) #[tt,tt,tt,tt,tt,tt,tt,tt,tt,tt,tt,tt,tt,tt,tt,tt,tt,ff] rfl rfl (any_of HT_.out (by kernel_rfl)) (fun _ _ _ h => h) (Or.inr ⟨by rfl, rfl⟩) ?_ ?_
      rotate_left
      ·simp only [Act.put, ps_]
       rfl
      refine pu_ 17 (some 27) (v := ?_) (a' := ?_) #[tt,tt,tt,tt,tt,tt,tt,tt,tt,tt,tt,tt,tt,tt,tt,tt,tt,tt] HT_.out rfl rfl (by kernel_rfl) (fun _ _ _ h => h) (Or.inl ⟨by rfl, ?_⟩) ?_ ?_
      rotate_left
      ·intro w'
       go_simp
       with_reducible rfl
      rotate_left
      ·simp only [Act.put, ps_]
       rfl
      refine done_ (done_of HT_.out (by kernel_rfl)) ?_
      try go_wp2
      go_ret
      exact ⟨by first | rfl | (simp [errW_none, errW_some] <;> rfl) | (simp [*, errW_none, errW_some] <;> rfl), by repeat (first | (with_reducible first | exact HB.out | apply below_alloc | apply pw_below_drewN | apply below_drew1) | exact HB.out)⟩
    ·rw [if_neg c3] at H
     exact absurd H (by simp)
   ·rw [if_neg c2] at H
    have c2b0 : decide (x3_1 < (l0.length : Int)) = false := decide_eq_false c2
    clear c2
    obtain rfl := Option.some.inj H
    go_wp2
    go_ret
    exact ⟨by first | rfl | (simp [errW_none, errW_some] <;> rfl) | (simp [*, errW_none, errW_some] <;> rfl), by repeat (first | (with_reducible first | exact HB.out | apply below_alloc | apply pw_below_drewN | apply below_drew1) | exact HB.out)⟩

end Go.Proofs.Ytdllommmccgleaa.E
