-- WRITTEN by wip/ext.py
import Derived.Test.YtadhfpbkanobnaaUx0
import Derived.Test.YtadhfpbkanobnaaUx2
import Derived.Test.YtadhfpbkanobnaaUx10
namespace Go.Proofs.Ytadhfpbkanobnaa.U
open Go.RowKit Go.Proofs.YtadhfpbkanobnaaW.PrintWords Go.Proofs.YtadhfpbkanobnaaW.PrintLast Go.Proofs.YtadhfpbkanobnaaW.PrintMore
attribute [local go_sem] max2_int min2_int max_two min_two max_three min_three max_four min_four   -- for this text's walks alone
set_option linter.unusedVariables false
set_option linter.unusedSimpArgs false

/-! ### laws_heldTestS: function 25 -/
def laws_heldTestS.l0 : Nat → List (S31) → Int → Int → Option (Int)
 | 0, _, _, _ => none
 | k + 1, x0, x1, x5 => if x5 < (x0.length : Int) then (if 0 ≤ x5 then ((laws_markText.f k x1).bind fun t272 => (if ((rd_T31 x0 x5).f0).toList = t272.toList then ((laws_markText.f k (wrap64 (x1 + 1))).bind fun t274 => (if ((rd_T31 x0 x5).f1).toList = t274.toList then ((laws_heldStringS.f k ((rd_T31 x0 x5).f2) (wrap64 ((wrap64 (x1 + 1)) + 1))).bind fun t276 => (if t276 < 0 then (some (-1)) else ((laws_heldStringS.f k ((rd_T31 x0 x5).f3) t276).bind fun t278 => (if t278 < 0 then (some (-1)) else (laws_heldTestS.l0 k x0 t278 (wrap64 (x5 + 1))))))) else (some (-1)))) else (some (-1)))) else (none)) else (some x1)
def laws_heldTestS.f (k : Nat) (l0 : List (S31)) (a1 : Int) : Option (Int) := laws_heldTestS.l0 k l0 a1 0
theorem laws_heldTestS.mono_l : ∀ k, (∀ y0 y1 y2, LeO (laws_heldTestS.l0 k y0 y1 y2) (laws_heldTestS.l0 (k + 1) y0 y1 y2))
 | 0 => fun _ _ _ r h => by simp [laws_heldTestS.l0] at h
 | k + 1 => by
  have ih0 := laws_heldTestS.mono_l k
  ·intro y0 y1 y2
   unfold laws_heldTestS.l0
   repeat' first
   | (with_reducible exact ih0 _ _ _)
   | (with_reducible exact laws_heldStringS.mono _ _ _)
   | (with_reducible exact laws_markText.mono _ _)
   | (with_reducible exact LeO.refl _)
   | (with_reducible exact LeO.none _)
   | (with_reducible refine LeO.ite ?_ ?_)
   | (with_reducible refine LeO.bind ?_ (fun _ => ?_))
   | refine LeO.ite ?_ ?_
   | refine LeO.bind ?_ (fun _ => ?_)
theorem laws_heldTestS.mono : ∀ a0 a1 k, LeO (laws_heldTestS.f k a0 a1) (laws_heldTestS.f (k + 1) a0 a1) := by
 intro a0 a1 k
 have ih0 := laws_heldTestS.mono_l k
 unfold laws_heldTestS.f
 repeat' first
   | (with_reducible exact ih0 _ _ _)
   | (with_reducible exact laws_heldStringS.mono _ _ _)
   | (with_reducible exact laws_markText.mono _ _)
   | (with_reducible exact LeO.refl _)
   | (with_reducible exact LeO.none _)
   | (with_reducible refine LeO.ite ?_ ?_)
   | (with_reducible refine LeO.bind ?_ (fun _ => ?_))
   | refine LeO.ite ?_ ?_
   | refine LeO.bind ?_ (fun _ => ?_)
def laws_heldTestS.T4 : Bool × List (List Nat × List Nat) := (true, [([], []), ([], []), ([0, 1], [0, 1]), ([2], [2]), ([3], [3]), ([], []), ([5], [5]), ([4, 6], [4, 6])])
def laws_heldTestS.B4 : List Nat := [0, 0, 3, 7, 15, 0, 32, 127]
theorem laws_heldTestS.tab4 : rtab .any (opsOf Try.f25 4) = laws_heldTestS.T4 := by kernel_rfl
theorem laws_heldTestS.bits4 : waitsOk laws_heldTestS.T4.2 laws_heldTestS.B4 = true := by kernel_rfl
def laws_heldTestS.T7 : Bool × List (List Nat × List Nat) := (true, [([], []), ([], []), ([0, 1], [0, 1]), ([2], [2]), ([3], [3]), ([], []), ([5], [5]), ([4, 6], [4, 6])])
def laws_heldTestS.B7 : List Nat := [0, 0, 3, 7, 15, 0, 32, 127]
theorem laws_heldTestS.tab7 : rtab .any (opsOf Try.f25 7) = laws_heldTestS.T7 := by kernel_rfl
theorem laws_heldTestS.bits7 : waitsOk laws_heldTestS.T7.2 laws_heldTestS.B7 = true := by kernel_rfl
set_option maxHeartbeats 8000000 in
set_option maxRecDepth 100000 in
theorem laws_heldTestS.calls (k : Nat) (A0 : Option Addr) (c0 : Nat) (l0 : List (S31)) (a1 : Int) (r : Int) (w : World) (hr0 : Kd.C k31 w A0 l0.length l0) (hc0 : l0.length ≤ c0) (h : laws_heldTestS.f k l0 a1 = some r) :
  Calls Try.prog 25 #[.slice A0 l0.length c0, .int .i64 a1] w fun e w' => e = .returned (.int .i64 r) ∧ Below w.heap.size w w' := by
 have HR0 := Aside0.mk hr0; have HC0 := Aside0.mk hc0; clear hr0 hc0; have HB := Aside0.mk (Below.refl w.heap.size w)
 have H : (laws_heldTestS.l0 k l0 a1 0) = some r := h
 clear h; have H' := Aside0.mk H; clear H
 go_enter Try.func25, Try.ntmps25
 go_wp2
 go_loopg [1, 5] k (fun kq v1 v5 w' => ∃ (x1_1 : Int) (x5_1 : Int), v1 = .int .i64 x1_1 ∧ v5 = .int .i64 x5_1 ∧ Aside0 (laws_heldTestS.l0 kq l0 x1_1 x5_1 = some r) ∧ Aside0 (kq ≤ k) ∧ Aside0 (Below w.heap.size w w'))
 case atStart => exact ⟨(a1), (0), (by first | rfl | (simp; done) | (simp [*]; done)), (by first | rfl | (simp; done) | (simp [*]; done)), H', ⟨Nat.le_refl _⟩, ⟨by repeat (first | (with_reducible first | exact HB.out | apply below_alloc | apply pw_below_drewN | apply below_drew1) | exact HB.out)⟩⟩
 case round =>
  clear H'; try clear c2; try clear p2
  obtain ⟨x1_1, x5_1, rfl, rfl, HA, HK1, HB⟩ := hrel
  cases gk with
  | zero => exact absurd HA.out (by simp [laws_heldTestS.l0])
  | succ k1 =>
   have H := HA.out; clear HA
   simp only [laws_heldTestS.l0] at H
   by_cases c3 : x5_1 < (l0.length : Int)
   ·rw [if_pos c3] at H
    have c3b0 : decide (x5_1 < (l0.length : Int)) = true := decide_eq_true c3
    clear c3
    by_cases c4 : 0 ≤ x5_1
    ·rw [if_pos c4] at H
     have c4b0 : decide (0 ≤ x5_1) = true := decide_eq_true c4
     clear c4
     replace H := Option.bind_eq_some_iff.mp H
     obtain ⟨t272, A50, H⟩ := H
     replace H : (if ((rd_T31 l0 x5_1).f0).toList = t272.toList then ((laws_markText.f k1 (wrap64 (x1_1 + 1))).bind fun t274 => (if ((rd_T31 l0 x5_1).f1).toList = t274.toList then ((laws_heldStringS.f k1 ((rd_T31 l0 x5_1).f2) (wrap64 ((wrap64 (x1_1 + 1)) + 1))).bind fun t276 => (if t276 < 0 then (some (-1)) else ((laws_heldStringS.f k1 ((rd_T31 l0 x5_1).f3) t276).bind fun t278 => (if t278 < 0 then (some (-1)) else (laws_heldTestS.l0 k1 l0 t278 (wrap64 (x5_1 + 1))))))) else (some (-1)))) else (some (-1))) = some r := H
     have A5 := Aside0.mk A50; clear A50
     by_cases c6 : ((rd_T31 l0 x5_1).f0).toList = t272.toList
     ·rw [if_pos c6] at H
      have c6b0 : (((rd_T31 l0 x5_1).f0).toList == t272.toList) = true := beq_iff_eq.mpr c6
      have c6b1 : (((rd_T31 l0 x5_1).f0).toList != t272.toList) = false := bne_eq_false_iff_eq.mpr c6
      clear c6
      replace H := Option.bind_eq_some_iff.mp H
      obtain ⟨t274, A70, H⟩ := H
      replace H : (if ((rd_T31 l0 x5_1).f1).toList = t274.toList then ((laws_heldStringS.f k1 ((rd_T31 l0 x5_1).f2) (wrap64 ((wrap64 (x1_1 + 1)) + 1))).bind fun t276 => (if t276 < 0 then (some (-1)) else ((laws_heldStringS.f k1 ((rd_T31 l0 x5_1).f3) t276).bind fun t278 => (if t278 < 0 then (some (-1)) else (laws_heldTestS.l0 k1 l0 t278 (wrap64 (x5_1 + 1))))))) else (some (-1))) = some r := H
      have A7 := Aside0.mk A70; clear A70
      by_cases c8 : ((rd_T31 l0 x5_1).f1).toList = t274.toList
      ·rw [if_pos c8] at H
       have c8b0 : (((rd_T31 l0 x5_1).f1).toList == t274.toList) = true := beq_iff_eq.mpr c8
       have c8b1 : (((rd_T31 l0 x5_1).f1).toList != t274.toList) = false := bne_eq_false_iff_eq.mpr c8
       clear c8
       replace H := Option.bind_eq_some_iff.mp H
       obtain ⟨t276, A90, H⟩ := H
       replace H : (if t276 < 0 then (some (-1)) else ((laws_heldStringS.f k1 ((rd_T31 l0 x5_1).f3) t276).bind fun t278 => (if t278 < 0 then (some (-1)) else (laws_heldTestS.l0 k1 l0 t278 (wrap64 (x5_1 + 1)))))) = some r := H
       have A9 := Aside0.mk A90; clear A90
       by_cases c10 : t276 < 0
       ·rw [if_pos c10] at H
        have c10b0 : decide (t276 < 0) = true := decide_eq_true c10
        clear c10
        obtain rfl := Option.some.inj H
        try go_wp2; replace HB := Aside0.mk (below_drew1 HB.out)
        have p271 : 0 ≤ (x5_1 : Int) := of_decide_eq_true (by first | (with_reducible assumption) | assumption)
        have q271 : x5_1 < (l0.length : Int) := of_decide_eq_true (by first | (with_reducible assumption) | assumption)
        obtain ⟨ad271, A271_2, c271_2, A271_3, c271_3, e271, hx271_0, hx271_1, hx271_2, hx271_3, hl271_2, hi271_2, hl271_3, hi271_3⟩ := at_T31 HR0.out x5_1 p271 q271
        have hw271_3 := hx271_3; have hw271_2 := hx271_2; have hw271_1 := hx271_1; have hw271_0 := hx271_0
        cases e271
        replace hx271_0 := cup_ HB.out hx271_0; replace hx271_1 := cup_ HB.out hx271_1; replace hx271_2 := cup_ HB.out hx271_2; replace hx271_3 := cup_ HB.out hx271_3
        have HR271_2 := Aside0.mk hi271_2; have HC271_2 := Aside0.mk hl271_2; clear hi271_2 hl271_2; have HR271_3 := Aside0.mk hi271_3; have HC271_3 := Aside0.mk hl271_3; clear hi271_3 hl271_3
        replace p271 := eq_true p271
        replace q271 := eq_true q271
        refine start_ (n := 8) (S := fun w' => w'.cell? (ad271.add ((x5_1).toNat * 4)) = some (.string ((rd_T31 l0 x5_1).f0)) ∧ w'.cell? ⟨(ad271.add ((x5_1).toNat * 4)).block, (ad271.add ((x5_1).toNat * 4)).off + 1, none⟩ = some (.string ((rd_T31 l0 x5_1).f1)) ∧ w'.cell? ⟨(ad271.add ((x5_1).toNat * 4)).block, (ad271.add ((x5_1).toNat * 4)).off + 2, none⟩ = some (.slice A271_2 ((rd_T31 l0 x5_1).f2).length c271_2) ∧ w'.cell? ⟨(ad271.add ((x5_1).toNat * 4)).block, (ad271.add ((x5_1).toNat * 4)).off + 3, none⟩ = some (.slice A271_3 ((rd_T31 l0 x5_1).f3).length c271_3)) (ds := []) #[ff,ff,ff,ff,ff,ff,ff,ff] (by kernel_rfl) rfl rfl ⟨((HB.out.cell (World.block_lt_of_cell? w _ hw271_0)).trans hw271_0), ((HB.out.cell (World.block_lt_of_cell? w _ hw271_1)).trans hw271_1), ((HB.out.cell (World.block_lt_of_cell? w _ hw271_2)).trans hw271_2), ((HB.out.cell (World.block_lt_of_cell? w _ hw271_3)).trans hw271_3)⟩ (fun hHeld => ?_); refine with_tabW laws_heldTestS.tab4 laws_heldTestS.bits4 (fun HT_ HW_ => ?_)
        generalize wr.drew = w11 at HB HR271_2 HR271_3 hx271_0 hx271_1 hx271_2 hx271_3 hHeld ⊢
        refine pu_ 0 (some 12) (v := ?_) (a' := ?_) #[tt,ff,ff,ff,ff,ff,ff,ff] HT_.out rfl rfl (by kernel_rfl) (fun _ _ _ h => h) (Or.inl ⟨by rfl, ?_⟩) ?_ ?_
        rotate_left
        ·intro w'
         go_simp
         with_reducible rfl
        rotate_left
        ·simp only [Act.put, ps_]
         rfl
        refine pu_ 1 (some 13) (v := ?_) (a' := ?_) #[tt,tt,ff,ff,ff,ff,ff,ff] HT_.out rfl rfl (by kernel_rfl) (fun _ _ _ h => h) (Or.inl ⟨by rfl, ?_⟩) ?_ ?_
        rotate_left
        ·intro w'
         go_simp
         with_reducible rfl
        rotate_left
        ·simp only [Act.put, ps_]
         rfl
        refine pu_ 2 (some 14) (v := ?_) (a' := ?_) #[tt,tt,tt,ff,ff,ff,ff,ff] HT_.out rfl rfl (by kernel_rfl) (fun _ _ _ h => h) (Or.inl ⟨by rfl, ?_⟩) ?_ ?_
        rotate_left
        ·intro w'
         go_simp
         with_reducible rfl
        rotate_left
        ·simp only [Act.put, ps_]
         rfl
        refine pu_ 3 (some 15) (v := ?_) (a' := ?_) #[tt,tt,tt,tt,ff,ff,ff,ff] HT_.out rfl rfl (by kernel_rfl) (fun _ _ _ h => h) (Or.inl ⟨by rfl, ?_⟩) ?_ ?_
        rotate_left
        ·intro w'
         go_simp
         with_reducible rfl
        rotate_left
        ·simp only [Act.put, ps_]
         rfl
        refine pu_ 5 (some 17) (v := ?_) (a' := ?_) #[tt,tt,tt,tt,ff,tt,ff,ff] HT_.out rfl rfl (by kernel_rfl) (fun _ _ _ h => h) (Or.inl ⟨by rfl, ?_⟩) ?_ ?_
        rotate_left
        ·intro w'
         go_simp
         with_reducible rfl
        rotate_left
        ·simp only [Act.put, ps_]
         rfl
        refine take_ (i := 4) (N := some 16) (v := ?_) (a' := ?_) #[tt,tt,tt,tt,tt,tt,ff,ff] rfl rfl (take_ofW HT_.out HW_.out (by kernel_rfl)) (fun _ _ _ h => h) (Or.inl ⟨by rfl, ?_⟩) hHeld ?_ ?_
        rotate_left
        ·rintro w' ⟨s0, s1, s2, s3⟩
         go_simp
         with_reducible rfl
        rotate_left
        ·simp only [Act.put, ps_]
         rfl
        refine one_ (i := 6) (N := some 18) #[tt,tt,tt,tt,tt,tt,tt,ff] rfl rfl (one_of HT_.out (by kernel_rfl)) (by decide) (fun K hK => ?_)
        refine goes_ Try.func41 (by kernel_rfl) rfl #[.int .i64 x1_1] (by rfl) rfl rfl (by (try simp only [List.map_toArray, List.map_cons, List.map_nil]); first | done | rfl) ?_
        with_reducible refine (laws_markText.calls k1 x1_1 t272 _ A5.out).mono ?_
        rintro e w12 ⟨rfl, hb⟩
        refine ⟨_, rfl, ?_⟩
        replace HB := Aside0.mk (below_step (by repeat first | (with_reducible first | exact HB.out | apply below_alloc | apply pw_below_drewN | apply below_drew1) | exact HB.out) hb)
        (try clear hb)
        (try clear hb2)
        (try clear hk)
        (try clear hi)
        refine hK.out _ _ ⟨((HB.out.cell (World.block_lt_of_cell? w _ hw271_0)).trans hw271_0), ((HB.out.cell (World.block_lt_of_cell? w _ hw271_1)).trans hw271_1), ((HB.out.cell (World.block_lt_of_cell? w _ hw271_2)).trans hw271_2), ((HB.out.cell (World.block_lt_of_cell? w _ hw271_3)).trans hw271_3)⟩ (fun hHeld => ?_)
        clear hK K
        refine norm_ (a' := ?_) ?_ ?_
        rotate_left
        ·show Act.put _ (some 18) _ = _
         simp only [Act.put, ps_]
         rfl
        refine pu_ 7 (some 19) (v := ?_) (a' := ?_) #[tt,tt,tt,tt,tt,tt,tt,tt] HT_.out rfl rfl (by kernel_rfl) (fun _ _ _ h => h) (Or.inl ⟨by rfl, ?_⟩) ?_ ?_
        rotate_left
        ·intro w'
         go_simp
         with_reducible rfl
        rotate_left
        ·simp only [Act.put, ps_]
         rfl
        refine done_ (done_of HT_.out (by kernel_rfl)) ?_
        try go_wp2; replace HB := Aside0.mk (below_drew1 HB.out)
        have p273 : 0 ≤ (x5_1 : Int) := of_decide_eq_true (by first | (with_reducible assumption) | assumption)
        have q273 : x5_1 < (l0.length : Int) := of_decide_eq_true (by first | (with_reducible assumption) | assumption)
        obtain ⟨ad273, A273_2, c273_2, A273_3, c273_3, e273, hx273_0, hx273_1, hx273_2, hx273_3, hl273_2, hi273_2, hl273_3, hi273_3⟩ := at_T31 HR0.out x5_1 p273 q273
        have hw273_3 := hx273_3; have hw273_2 := hx273_2; have hw273_1 := hx273_1; have hw273_0 := hx273_0
        obtain rfl : ad271 = ad273 := (by injection e273)
        obtain ⟨rfl, rfl⟩ : A271_2 = A273_2 ∧ c271_2 = c273_2 := by
         have e_ := Option.some.inj (hw271_2.symm.trans hx273_2)
         injection e_ with e1_ _ e2_
         exact ⟨e1_, e2_⟩
        obtain ⟨rfl, rfl⟩ : A271_3 = A273_3 ∧ c271_3 = c273_3 := by
         have e_ := Option.some.inj (hw271_3.symm.trans hx273_3)
         injection e_ with e1_ _ e2_
         exact ⟨e1_, e2_⟩
        replace hx273_0 := cup_ HB.out hx273_0; replace hx273_1 := cup_ HB.out hx273_1; replace hx273_2 := cup_ HB.out hx273_2; replace hx273_3 := cup_ HB.out hx273_3
        have HR273_2 := Aside0.mk hi273_2; have HC273_2 := Aside0.mk hl273_2; clear hi273_2 hl273_2; have HR273_3 := Aside0.mk hi273_3; have HC273_3 := Aside0.mk hl273_3; clear hi273_3 hl273_3
        replace p273 := eq_true p273
        replace q273 := eq_true q273
        refine start_ (n := 8) (S := fun w' => w'.cell? (ad271.add ((x5_1).toNat * 4)) = some (.string ((rd_T31 l0 x5_1).f0)) ∧ w'.cell? ⟨(ad271.add ((x5_1).toNat * 4)).block, (ad271.add ((x5_1).toNat * 4)).off + 1, none⟩ = some (.string ((rd_T31 l0 x5_1).f1)) ∧ w'.cell? ⟨(ad271.add ((x5_1).toNat * 4)).block, (ad271.add ((x5_1).toNat * 4)).off + 2, none⟩ = some (.slice A271_2 ((rd_T31 l0 x5_1).f2).length c271_2) ∧ w'.cell? ⟨(ad271.add ((x5_1).toNat * 4)).block, (ad271.add ((x5_1).toNat * 4)).off + 3, none⟩ = some (.slice A271_3 ((rd_T31 l0 x5_1).f3).length c271_3)) (ds := []) #[ff,ff,ff,ff,ff,ff,ff,ff] (by kernel_rfl) rfl rfl ⟨((HB.out.cell (World.block_lt_of_cell? w _ hw273_0)).trans hw273_0), ((HB.out.cell (World.block_lt_of_cell? w _ hw273_1)).trans hw273_1), ((HB.out.cell (World.block_lt_of_cell? w _ hw273_2)).trans hw273_2), ((HB.out.cell (World.block_lt_of_cell? w _ hw273_3)).trans hw273_3)⟩ (fun hHeld => ?_); refine with_tabW laws_heldTestS.tab7 laws_heldTestS.bits7 (fun HT_ HW_ => ?_)
        generalize w12.drew = w13 at HB HR273_2 HR273_3 hx273_0 hx273_1 hx273_2 hx273_3 hHeld ⊢
        refine pu_ 0 (some 22) (v := ?_) (a' := ?_) #[tt,ff,ff,ff,ff,ff,ff,ff] HT_.out rfl rfl (by kernel_rfl) (fun _ _ _ h => h) (Or.inl ⟨by rfl, ?_⟩) ?_ ?_
        rotate_left
        ·intro w'
         go_simp
         with_reducible rfl
        rotate_left
        ·simp only [Act.put, ps_]
         rfl
        refine pu_ 1 (some 23) (v := ?_) (a' := ?_) #[tt,tt,ff,ff,ff,ff,ff,ff] HT_.out rfl rfl (by kernel_rfl) (fun _ _ _ h => h) (Or.inl ⟨by rfl, ?_⟩) ?_ ?_
        rotate_left
        ·intro w'
         go_simp
         with_reducible rfl
        rotate_left
        ·simp only [Act.put, ps_]
         rfl
        refine pu_ 2 (some 24) (v := ?_) (a' := ?_) #[tt,tt,tt,ff,ff,ff,ff,ff] HT_.out rfl rfl (by kernel_rfl) (fun _ _ _ h => h) (Or.inl ⟨by rfl, ?_⟩) ?_ ?_
        rotate_left
        ·intro w'
         go_simp
         with_reducible rfl
        rotate_left
        ·simp only [Act.put, ps_]
         rfl
        refine pu_ 3 (some 25) (v := ?_) (a' := ?_) #[tt,tt,tt,tt,ff,ff,ff,ff] HT_.out rfl rfl (by kernel_rfl) (fun _ _ _ h => h) (Or.inl ⟨by rfl, ?_⟩) ?_ ?_
        rotate_left
        ·intro w'
         go_simp
         with_reducible rfl
        rotate_left
        ·simp only [Act.put, ps_]
         rfl
        refine pu_ 5 (some 27) (v := ?_) (a' := ?_) #[tt,tt,tt,tt,ff,tt,ff,ff] HT_.out rfl rfl (by kernel_rfl) (fun _ _ _ h => h) (Or.inl ⟨by rfl, ?_⟩) ?_ ?_
        rotate_left
        ·intro w'
         go_simp
         with_reducible rfl
        rotate_left
        ·simp only [Act.put, ps_]
         rfl
        refine take_ (i := 4) (N := some 26) (v := ?_) (a' := ?_) #[tt,tt,tt,tt,tt,tt,ff,ff] rfl rfl (take_ofW HT_.out HW_.out (by kernel_rfl)) (fun _ _ _ h => h) (Or.inl ⟨by rfl, ?_⟩) hHeld ?_ ?_
        rotate_left
        ·rintro w' ⟨s0, s1, s2, s3⟩
         go_simp
         with_reducible rfl
        rotate_left
        ·simp only [Act.put, ps_]
         rfl
        refine one_ (i := 6) (N := some 28) #[tt,tt,tt,tt,tt,tt,tt,ff] rfl rfl (one_of HT_.out (by kernel_rfl)) (by decide) (fun K hK => ?_)
        refine goes_ Try.func41 (by kernel_rfl) rfl #[.int .i64 (wrap64 (x1_1 + 1))] (by rfl) rfl rfl (by (try simp only [List.map_toArray, List.map_cons, List.map_nil]); first | done | rfl) ?_
        with_reducible refine (laws_markText.calls k1 (wrap64 (x1_1 + 1)) t274 _ A7.out).mono ?_
        rintro e w14 ⟨rfl, hb⟩
        refine ⟨_, rfl, ?_⟩
        replace HB := Aside0.mk (below_step (by repeat first | (with_reducible first | exact HB.out | apply below_alloc | apply pw_below_drewN | apply below_drew1) | exact HB.out) hb)
        (try clear hb)
        (try clear hb2)
        (try clear hk)
        (try clear hi)
        refine hK.out _ _ ⟨((HB.out.cell (World.block_lt_of_cell? w _ hw273_0)).trans hw273_0), ((HB.out.cell (World.block_lt_of_cell? w _ hw273_1)).trans hw273_1), ((HB.out.cell (World.block_lt_of_cell? w _ hw273_2)).trans hw273_2), ((HB.out.cell (World.block_lt_of_cell? w _ hw273_3)).trans hw273_3)⟩ (fun hHeld => ?_)
        clear hK K
        refine norm_ (a' := ?_) ?_ ?_
        rotate_left
        ·show Act.put _ (some 28) _ = _
         simp only [Act.put, ps_]
         rfl
        refine pu_ 7 (some 29) (v := ?_) (a' := ?_) #[tt,tt,tt,tt,tt,tt,tt,tt] HT_.out rfl rfl (by kernel_rfl) (fun _ _ _ h => h) (Or.inl ⟨by rfl, ?_⟩) ?_ ?_
        rotate_left
        ·intro w'
         go_simp
         with_reducible rfl
        rotate_left
        ·simp only [Act.put, ps_]
         rfl
        refine done_ (done_of HT_.out (by kernel_rfl)) ?_
        have p275 : 0 ≤ (x5_1 : Int) := of_decide_eq_true (by first | (with_reducible assumption) | assumption)
        have q275 : x5_1 < (l0.length : Int) := of_decide_eq_true (by first | (with_reducible assumption) | assumption)
        obtain ⟨ad275, A275_2, c275_2, A275_3, c275_3, e275, hx275_0, hx275_1, hx275_2, hx275_3, hl275_2, hi275_2, hl275_3, hi275_3⟩ := at_T31 HR0.out x5_1 p275 q275
        obtain rfl : ad271 = ad275 := (by injection e275)
        obtain ⟨rfl, rfl⟩ : A271_2 = A275_2 ∧ c271_2 = c275_2 := by
         have e_ := Option.some.inj (hw271_2.symm.trans hx275_2)
         injection e_ with e1_ _ e2_
         exact ⟨e1_, e2_⟩
        obtain ⟨rfl, rfl⟩ : A271_3 = A275_3 ∧ c271_3 = c275_3 := by
         have e_ := Option.some.inj (hw271_3.symm.trans hx275_3)
         injection e_ with e1_ _ e2_
         exact ⟨e1_, e2_⟩
        replace hx275_0 := cup_ HB.out hx275_0; replace hx275_1 := cup_ HB.out hx275_1; replace hx275_2 := cup_ HB.out hx275_2; replace hx275_3 := cup_ HB.out hx275_3
        have HR275_2 := Aside0.mk hi275_2; have HC275_2 := Aside0.mk hl275_2; clear hi275_2 hl275_2; have HR275_3 := Aside0.mk hi275_3; have HC275_3 := Aside0.mk hl275_3; clear hi275_3 hl275_3
        replace p275 := eq_true p275
        replace q275 := eq_true q275
        try go_wp2_with (first | ((with_reducible refine gate_callee (f := 20) rfl ?_); refine goesL_ (some 38) rfl rfl Try.func20 (by kernel_rfl) rfl #[.slice A271_2 ((rd_T31 l0 x5_1).f2).length c271_2, .int .i64 (wrap64 ((wrap64 (x1_1 + 1)) + 1))] rfl (by (try simp only [List.map_toArray, List.map_cons, List.map_nil]); first | done | rfl) ?_; (with_reducible refine (laws_heldStringS.calls k1 _ _ ((rd_T31 l0 x5_1).f2) (wrap64 ((wrap64 (x1_1 + 1)) + 1)) t276 _ ?side1 ?side2 A9.out).mono ?_); (case side1 => repeat (first | exact (Kd.C_below HR275_2.out HB.out) | with_reducible first | apply Kd.C_alloc | apply Kd.C_drewN | apply Kd.C_drew)); (case side2 => exact HC275_2.out); rintro e w15 ⟨rfl, hb⟩; refine ⟨_, rfl, ?_⟩; replace HB := Aside0.mk (below_step (by repeat first | (with_reducible first | exact HB.out | apply below_alloc | apply pw_below_drewN | apply below_drew1) | exact HB.out) hb); (try clear hb)))
        go_ret
        exact ⟨by first | rfl | (simp [errW_none, errW_some] <;> rfl) | (simp [*, errW_none, errW_some] <;> rfl), by repeat (first | (with_reducible first | exact HB.out | apply below_alloc | apply pw_below_drewN | apply below_drew1) | exact HB.out)⟩
       ·rw [if_neg c10] at H
        have c10b0 : decide (t276 < 0) = false := decide_eq_false c10
        clear c10
        replace H := Option.bind_eq_some_iff.mp H
        obtain ⟨t278, A160, H⟩ := H
        replace H : (if t278 < 0 then (some (-1)) else (laws_heldTestS.l0 k1 l0 t278 (wrap64 (x5_1 + 1)))) = some r := H
        have A16 := Aside0.mk A160; clear A160
        by_cases c17 : t278 < 0
        ·rw [if_pos c17] at H
         have c17b0 : decide (t278 < 0) = true := decide_eq_true c17
         clear c17
         obtain rfl := Option.some.inj H
         try go_wp2; replace HB := Aside0.mk (below_drew1 HB.out)
         have p271 : 0 ≤ (x5_1 : Int) := of_decide_eq_true (by first | (with_reducible assumption) | assumption)
         have q271 : x5_1 < (l0.length : Int) := of_decide_eq_true (by first | (with_reducible assumption) | assumption)
         obtain ⟨ad271, A271_2, c271_2, A271_3, c271_3, e271, hx271_0, hx271_1, hx271_2, hx271_3, hl271_2, hi271_2, hl271_3, hi271_3⟩ := at_T31 HR0.out x5_1 p271 q271
         have hw271_3 := hx271_3; have hw271_2 := hx271_2; have hw271_1 := hx271_1; have hw271_0 := hx271_0
         cases e271
         replace hx271_0 := cup_ HB.out hx271_0; replace hx271_1 := cup_ HB.out hx271_1; replace hx271_2 := cup_ HB.out hx271_2; replace hx271_3 := cup_ HB.out hx271_3
         have HR271_2 := Aside0.mk hi271_2; have HC271_2 := Aside0.mk hl271_2; clear hi271_2 hl271_2; have HR271_3 := Aside0.mk hi271_3; have HC271_3 := Aside0.mk hl271_3; clear hi271_3 hl271_3
         replace p271 := eq_true p271
         replace q271 := eq_true q271
         refine start_ (n := 8) (S := fun w' => w'.cell? (ad271.add ((x5_1).toNat * 4)) = some (.string ((rd_T31 l0 x5_1).f0)) ∧ w'.cell? ⟨(ad271.add ((x5_1).toNat * 4)).block, (ad271.add ((x5_1).toNat * 4)).off + 1, none⟩ = some (.string ((rd_T31 l0 x5_1).f1)) ∧ w'.cell? ⟨(ad271.add ((x5_1).toNat * 4)).block, (ad271.add ((x5_1).toNat * 4)).off + 2, none⟩ = some (.slice A271_2 ((rd_T31 l0 x5_1).f2).length c271_2) ∧ w'.cell? ⟨(ad271.add ((x5_1).toNat * 4)).block, (ad271.add ((x5_1).toNat * 4)).off + 3, none⟩ = some (.slice A271_3 ((rd_T31 l0 x5_1).f3).length c271_3)) (ds := []) #[ff,ff,ff,ff,ff,ff,ff,ff] (by kernel_rfl) rfl rfl ⟨((HB.out.cell (World.block_lt_of_cell? w _ hw271_0)).trans hw271_0), ((HB.out.cell (World.block_lt_of_cell? w _ hw271_1)).trans hw271_1), ((HB.out.cell (World.block_lt_of_cell? w _ hw271_2)).trans hw271_2), ((HB.out.cell (World.block_lt_of_cell? w _ hw271_3)).trans hw271_3)⟩ (fun hHeld => ?_); refine with_tabW laws_heldTestS.tab4 laws_heldTestS.bits4 (fun HT_ HW_ => ?_)
         generalize wr.drew = w18 at HB HR271_2 HR271_3 hx271_0 hx271_1 hx271_2 hx271_3 hHeld ⊢
         refine pu_ 0 (some 12) (v := ?_) (a' := ?_) #[tt,ff,ff,ff,ff,ff,ff,ff] HT_.out rfl rfl (by kernel_rfl) (fun _ _ _ h => h) (Or.inl ⟨by rfl, ?_⟩) ?_ ?_
         rotate_left
         ·intro w'
          go_simp
          with_reducible rfl
         rotate_left
         ·simp only [Act.put, ps_]
          rfl
         refine pu_ 1 (some 13) (v := ?_) (a' := ?_) #[tt,tt,ff,ff,ff,ff,ff,ff] HT_.out rfl rfl (by kernel_rfl) (fun _ _ _ h => h) (Or.inl ⟨by rfl, ?_⟩) ?_ ?_
         rotate_left
         ·intro w'
          go_simp
          with_reducible rfl
         rotate_left
         ·simp only [Act.put, ps_]
          rfl
         refine pu_ 2 (some 14) (v := ?_) (a' := ?_) #[tt,tt,tt,ff,ff,ff,ff,ff] HT_.out rfl rfl (by kernel_rfl) (fun _ _ _ h => h) (Or.inl ⟨by rfl, ?_⟩) ?_ ?_
         rotate_left
         ·intro w'
          go_simp
          with_reducible rfl
         rotate_left
         ·simp only [Act.put, ps_]
          rfl
         refine pu_ 3 (some 15) (v := ?_) (a' := ?_) #[tt,tt,tt,tt,ff,ff,ff,ff] HT_.out rfl rfl (by kernel_rfl) (fun _ _ _ h => h) (Or.inl ⟨by rfl, ?_⟩) ?_ ?_
         rotate_left
         ·intro w'
          go_simp
          with_reducible rfl
         rotate_left
         ·simp only [Act.put, ps_]
          rfl
         refine pu_ 5 (some 17) (v := ?_) (a' := ?_) #[tt,tt,tt,tt,ff,tt,ff,ff] HT_.out rfl rfl (by kernel_rfl) (fun _ _ _ h => h) (Or.inl ⟨by rfl, ?_⟩) ?_ ?_
         rotate_left
         ·intro w'
          go_simp
          with_reducible rfl
         rotate_left
         ·simp only [Act.put, ps_]
          rfl
         refine take_ (i := 4) (N := some 16) (v := ?_) (a' := ?_) #[tt,tt,tt,tt,tt,tt,ff,ff] rfl rfl (take_ofW HT_.out HW_.out (by kernel_rfl)) (fun _ _ _ h => h) (Or.inl ⟨by rfl, ?_⟩) hHeld ?_ ?_
         rotate_left
         ·rintro w' ⟨s0, s1, s2, s3⟩
          go_simp
          with_reducible rfl
         rotate_left
         ·simp only [Act.put, ps_]
          rfl
         refine one_ (i := 6) (N := some 18) #[tt,tt,tt,tt,tt,tt,tt,ff] rfl rfl (one_of HT_.out (by kernel_rfl)) (by decide) (fun K hK => ?_)
         refine goes_ Try.func41 (by kernel_rfl) rfl #[.int .i64 x1_1] (by rfl) rfl rfl (by (try simp only [List.map_toArray, List.map_cons, List.map_nil]); first | done | rfl) ?_
         with_reducible refine (laws_markText.calls k1 x1_1 t272 _ A5.out).mono ?_
         rintro e w19 ⟨rfl, hb⟩
         refine ⟨_, rfl, ?_⟩
         replace HB := Aside0.mk (below_step (by repeat first | (with_reducible first | exact HB.out | apply below_alloc | apply pw_below_drewN | apply below_drew1) | exact HB.out) hb)
         (try clear hb)
         (try clear hb2)
         (try clear hk)
         (try clear hi)
         refine hK.out _ _ ⟨((HB.out.cell (World.block_lt_of_cell? w _ hw271_0)).trans hw271_0), ((HB.out.cell (World.block_lt_of_cell? w _ hw271_1)).trans hw271_1), ((HB.out.cell (World.block_lt_of_cell? w _ hw271_2)).trans hw271_2), ((HB.out.cell (World.block_lt_of_cell? w _ hw271_3)).trans hw271_3)⟩ (fun hHeld => ?_)
         clear hK K
         refine norm_ (a' := ?_) ?_ ?_
         rotate_left
         ·show Act.put _ (some 18) _ = _
          simp only [Act.put, ps_]
          rfl
         refine pu_ 7 (some 19) (v := ?_) (a' := ?_) #[tt,tt,tt,tt,tt,tt,tt,tt] HT_.out rfl rfl (by kernel_rfl) (fun _ _ _ h => h) (Or.inl ⟨by rfl, ?_⟩) ?_ ?_
         rotate_left
         ·intro w'
          go_simp
          with_reducible rfl
         rotate_left
         ·simp only [Act.put, ps_]
          rfl
         refine done_ (done_of HT_.out (by kernel_rfl)) ?_
         try go_wp2; replace HB := Aside0.mk (below_drew1 HB.out)
         have p273 : 0 ≤ (x5_1 : Int) := of_decide_eq_true (by first | (with_reducible assumption) | assumption)
         have q273 : x5_1 < (l0.length : Int) := of_decide_eq_true (by first | (with_reducible assumption) | assumption)
         obtain ⟨ad273, A273_2, c273_2, A273_3, c273_3, e273, hx273_0, hx273_1, hx273_2, hx273_3, hl273_2, hi273_2, hl273_3, hi273_3⟩ := at_T31 HR0.out x5_1 p273 q273
         have hw273_3 := hx273_3; have hw273_2 := hx273_2; have hw273_1 := hx273_1; have hw273_0 := hx273_0
         obtain rfl : ad271 = ad273 := (by injection e273)
         obtain ⟨rfl, rfl⟩ : A271_2 = A273_2 ∧ c271_2 = c273_2 := by
          have e_ := Option.some.inj (hw271_2.symm.trans hx273_2)
          injection e_ with e1_ _ e2_
          exact ⟨e1_, e2_⟩
         obtain ⟨rfl, rfl⟩ : A271_3 = A273_3 ∧ c271_3 = c273_3 := by
          have e_ := Option.some.inj (hw271_3.symm.trans hx273_3)
          injection e_ with e1_ _ e2_
          exact ⟨e1_, e2_⟩
         replace hx273_0 := cup_ HB.out hx273_0; replace hx273_1 := cup_ HB.out hx273_1; replace hx273_2 := cup_ HB.out hx273_2; replace hx273_3 := cup_ HB.out hx273_3
         have HR273_2 := Aside0.mk hi273_2; have HC273_2 := Aside0.mk hl273_2; clear hi273_2 hl273_2; have HR273_3 := Aside0.mk hi273_3; have HC273_3 := Aside0.mk hl273_3; clear hi273_3 hl273_3
         replace p273 := eq_true p273
         replace q273 := eq_true q273
         refine start_ (n := 8) (S := fun w' => w'.cell? (ad271.add ((x5_1).toNat * 4)) = some (.string ((rd_T31 l0 x5_1).f0)) ∧ w'.cell? ⟨(ad271.add ((x5_1).toNat * 4)).block, (ad271.add ((x5_1).toNat * 4)).off + 1, none⟩ = some (.string ((rd_T31 l0 x5_1).f1)) ∧ w'.cell? ⟨(ad271.add ((x5_1).toNat * 4)).block, (ad271.add ((x5_1).toNat * 4)).off + 2, none⟩ = some (.slice A271_2 ((rd_T31 l0 x5_1).f2).length c271_2) ∧ w'.cell? ⟨(ad271.add ((x5_1).toNat * 4)).block, (ad271.add ((x5_1).toNat * 4)).off + 3, none⟩ = some (.slice A271_3 ((rd_T31 l0 x5_1).f3).length c271_3)) (ds := []) #[ff,ff,ff,ff,ff,ff,ff,ff] (by kernel_rfl) rfl rfl ⟨((HB.out.cell (World.block_lt_of_cell? w _ hw273_0)).trans hw273_0), ((HB.out.cell (World.block_lt_of_cell? w _ hw273_1)).trans hw273_1), ((HB.out.cell (World.block_lt_of_cell? w _ hw273_2)).trans hw273_2), ((HB.out.cell (World.block_lt_of_cell? w _ hw273_3)).trans hw273_3)⟩ (fun hHeld => ?_); refine with_tabW laws_heldTestS.tab7 laws_heldTestS.bits7 (fun HT_ HW_ => ?_)
         generalize w19.drew = w20 at HB HR273_2 HR273_3 hx273_0 hx273_1 hx273_2 hx273_3 hHeld ⊢
         refine pu_ 0 (some 22) (v := ?_) (a' := ?_) #[tt,ff,ff,ff,ff,ff,ff,ff] HT_.out rfl rfl (by kernel_rfl) (fun _ _ _ h => h) (Or.inl ⟨by rfl, ?_⟩) ?_ ?_
         rotate_left
         ·intro w'
          go_simp
          with_reducible rfl
         rotate_left
         ·simp only [Act.put, ps_]
          rfl
         refine pu_ 1 (some 23) (v := ?_) (a' := ?_) #[tt,tt,ff,ff,ff,ff,ff,ff] HT_.out rfl rfl (by kernel_rfl) (fun _ _ _ h => h) (Or.inl ⟨by rfl, ?_⟩) ?_ ?_
         rotate_left
         ·intro w'
          go_simp
          with_reducible rfl
         rotate_left
         ·simp only [Act.put, ps_]
          rfl
         refine pu_ 2 (some 24) (v := ?_) (a' := ?_) #[tt,tt,tt,ff,ff,ff,ff,ff] HT_.out rfl rfl (by kernel_rfl) (fun _ _ _ h => h) (Or.inl ⟨by rfl, ?_⟩) ?_ ?_
         rotate_left
         ·intro w'
          go_simp
          with_reducible rfl
         rotate_left
         ·simp only [Act.put, ps_]
          rfl
         refine pu_ 3 (some 25) (v := ?_) (a' := ?_) #[tt,tt,tt,tt,ff,ff,ff,ff] HT_.out rfl rfl (by kernel_rfl) (fun _ _ _ h => h) (Or.inl ⟨by rfl, ?_⟩) ?_ ?_
         rotate_left
         ·intro w'
          go_simp
          with_reducible rfl
         rotate_left
         ·simp only [Act.put, ps_]
          rfl
         refine pu_ 5 (some 27) (v := ?_) (a' := ?_) #[tt,tt,tt,tt,ff,tt,ff,ff] HT_.out rfl rfl (by kernel_rfl) (fun _ _ _ h => h) (Or.inl ⟨by rfl, ?_⟩) ?_ ?_
         rotate_left
         ·intro w'
          go_simp
          with_reducible rfl
         rotate_left
         ·simp only [Act.put, ps_]
          rfl
         refine take_ (i := 4) (N := some 26) (v := ?_) (a' := ?_) #[tt,tt,tt,tt,tt,tt,ff,ff] rfl rfl (take_ofW HT_.out HW_.out (by kernel_rfl)) (fun _ _ _ h => h) (Or.inl ⟨by rfl, ?_⟩) hHeld ?_ ?_
         rotate_left
         ·rintro w' ⟨s0, s1, s2, s3⟩
          go_simp
          with_reducible rfl
         rotate_left
         ·simp only [Act.put, ps_]
          rfl
         refine one_ (i := 6) (N := some 28) #[tt,tt,tt,tt,tt,tt,tt,ff] rfl rfl (one_of HT_.out (by kernel_rfl)) (by decide) (fun K hK => ?_)
         refine goes_ Try.func41 (by kernel_rfl) rfl #[.int .i64 (wrap64 (x1_1 + 1))] (by rfl) rfl rfl (by (try simp only [List.map_toArray, List.map_cons, List.map_nil]); first | done | rfl) ?_
         with_reducible refine (laws_markText.calls k1 (wrap64 (x1_1 + 1)) t274 _ A7.out).mono ?_
         rintro e w21 ⟨rfl, hb⟩
         refine ⟨_, rfl, ?_⟩
         replace HB := Aside0.mk (below_step (by repeat first | (with_reducible first | exact HB.out | apply below_alloc | apply pw_below_drewN | apply below_drew1) | exact HB.out) hb)
         (try clear hb)
         (try clear hb2)
         (try clear hk)
         (try clear hi)
         refine hK.out _ _ ⟨((HB.out.cell (World.block_lt_of_cell? w _ hw273_0)).trans hw273_0), ((HB.out.cell (World.block_lt_of_cell? w _ hw273_1)).trans hw273_1), ((HB.out.cell (World.block_lt_of_cell? w _ hw273_2)).trans hw273_2), ((HB.out.cell (World.block_lt_of_cell? w _ hw273_3)).trans hw273_3)⟩ (fun hHeld => ?_)
         clear hK K
         refine norm_ (a' := ?_) ?_ ?_
         rotate_left
         ·show Act.put _ (some 28) _ = _
          simp only [Act.put, ps_]
          rfl
         refine pu_ 7 (some 29) (v := ?_) (a' := ?_) #[tt,tt,tt,tt,tt,tt,tt,tt] HT_.out rfl rfl (by kernel_rfl) (fun _ _ _ h => h) (Or.inl ⟨by rfl, ?_⟩) ?_ ?_
         rotate_left
         ·intro w'
          go_simp
          with_reducible rfl
         rotate_left
         ·simp only [Act.put, ps_]
          rfl
         refine done_ (done_of HT_.out (by kernel_rfl)) ?_
         have p275 : 0 ≤ (x5_1 : Int) := of_decide_eq_true (by first | (with_reducible assumption) | assumption)
         have q275 : x5_1 < (l0.length : Int) := of_decide_eq_true (by first | (with_reducible assumption) | assumption)
         obtain ⟨ad275, A275_2, c275_2, A275_3, c275_3, e275, hx275_0, hx275_1, hx275_2, hx275_3, hl275_2, hi275_2, hl275_3, hi275_3⟩ := at_T31 HR0.out x5_1 p275 q275
         obtain rfl : ad271 = ad275 := (by injection e275)
         obtain ⟨rfl, rfl⟩ : A271_2 = A275_2 ∧ c271_2 = c275_2 := by
          have e_ := Option.some.inj (hw271_2.symm.trans hx275_2)
          injection e_ with e1_ _ e2_
          exact ⟨e1_, e2_⟩
         obtain ⟨rfl, rfl⟩ : A271_3 = A275_3 ∧ c271_3 = c275_3 := by
          have e_ := Option.some.inj (hw271_3.symm.trans hx275_3)
          injection e_ with e1_ _ e2_
          exact ⟨e1_, e2_⟩
         replace hx275_0 := cup_ HB.out hx275_0; replace hx275_1 := cup_ HB.out hx275_1; replace hx275_2 := cup_ HB.out hx275_2; replace hx275_3 := cup_ HB.out hx275_3
         have HR275_2 := Aside0.mk hi275_2; have HC275_2 := Aside0.mk hl275_2; clear hi275_2 hl275_2; have HR275_3 := Aside0.mk hi275_3; have HC275_3 := Aside0.mk hl275_3; clear hi275_3 hl275_3
         replace p275 := eq_true p275
         replace q275 := eq_true q275
         try go_wp2_with (first | ((with_reducible refine gate_callee (f := 20) rfl ?_); refine goesL_ (some 38) rfl rfl Try.func20 (by kernel_rfl) rfl #[.slice A271_2 ((rd_T31 l0 x5_1).f2).length c271_2, .int .i64 (wrap64 ((wrap64 (x1_1 + 1)) + 1))] rfl (by (try simp only [List.map_toArray, List.map_cons, List.map_nil]); first | done | rfl) ?_; (with_reducible refine (laws_heldStringS.calls k1 _ _ ((rd_T31 l0 x5_1).f2) (wrap64 ((wrap64 (x1_1 + 1)) + 1)) t276 _ ?side1 ?side2 A9.out).mono ?_); (case side1 => repeat (first | exact (Kd.C_below HR275_2.out HB.out) | with_reducible first | apply Kd.C_alloc | apply Kd.C_drewN | apply Kd.C_drew)); (case side2 => exact HC275_2.out); rintro e w22 ⟨rfl, hb⟩; refine ⟨_, rfl, ?_⟩; replace HB := Aside0.mk (below_step (by repeat first | (with_reducible first | exact HB.out | apply below_alloc | apply pw_below_drewN | apply below_drew1) | exact HB.out) hb); (try clear hb); have p277 : 0 ≤ (x5_1 : Int) := of_decide_eq_true (by first | (with_reducible assumption) | assumption); have q277 : x5_1 < (l0.length : Int) := of_decide_eq_true (by first | (with_reducible assumption) | assumption); obtain ⟨ad277, A277_2, c277_2, A277_3, c277_3, e277, hx277_0, hx277_1, hx277_2, hx277_3, hl277_2, hi277_2, hl277_3, hi277_3⟩ := at_T31 HR0.out x5_1 p277 q277; obtain rfl : ad271 = ad277 := (by injection e277); replace hx277_0 := (HB.out.cell (World.block_lt_of_cell? w _ hx277_0)).trans hx277_0; replace hx277_1 := (HB.out.cell (World.block_lt_of_cell? w _ hx277_1)).trans hx277_1; replace hx277_2 := (HB.out.cell (World.block_lt_of_cell? w _ hx277_2)).trans hx277_2; replace hx277_3 := (HB.out.cell (World.block_lt_of_cell? w _ hx277_3)).trans hx277_3; have HR277_2 := Aside0.mk hi277_2; have HC277_2 := Aside0.mk hl277_2; clear hi277_2 hl277_2; have HR277_3 := Aside0.mk hi277_3; have HC277_3 := Aside0.mk hl277_3; clear hi277_3 hl277_3; replace p277 := eq_true p277; replace q277 := eq_true q277) | ((with_reducible refine gate_callee (f := 20) rfl ?_); refine goesL_ (some 47) rfl rfl Try.func20 (by kernel_rfl) rfl #[.slice A277_3 ((rd_T31 l0 x5_1).f3).length c277_3, .int .i64 t276] rfl (by (try simp only [List.map_toArray, List.map_cons, List.map_nil]); first | done | rfl) ?_; (with_reducible refine (laws_heldStringS.calls k1 _ _ ((rd_T31 l0 x5_1).f3) t276 t278 _ ?side1 ?side2 A16.out).mono ?_); (case side1 => repeat (first | exact (Kd.C_below HR277_3.out HB.out) | with_reducible first | apply Kd.C_alloc | apply Kd.C_drewN | apply Kd.C_drew)); (case side2 => exact HC277_3.out); rintro e w23 ⟨rfl, hb⟩; refine ⟨_, rfl, ?_⟩; replace HB := Aside0.mk (below_step (by repeat first | (with_reducible first | exact HB.out | apply below_alloc | apply pw_below_drewN | apply below_drew1) | exact HB.out) hb); (try clear hb)))
         go_ret
         exact ⟨by first | rfl | (simp [errW_none, errW_some] <;> rfl) | (simp [*, errW_none, errW_some] <;> rfl), by repeat (first | (with_reducible first | exact HB.out | apply below_alloc | apply pw_below_drewN | apply below_drew1) | exact HB.out)⟩
        ·rw [if_neg c17] at H
         have c17b0 : decide (t278 < 0) = false := decide_eq_false c17
         clear c17; have H' := Aside0.mk H; clear H; try go_wp2; replace HB := Aside0.mk (below_drew1 HB.out)
         have p271 : 0 ≤ (x5_1 : Int) := of_decide_eq_true (by first | (with_reducible assumption) | assumption)
         have q271 : x5_1 < (l0.length : Int) := of_decide_eq_true (by first | (with_reducible assumption) | assumption)
         obtain ⟨ad271, A271_2, c271_2, A271_3, c271_3, e271, hx271_0, hx271_1, hx271_2, hx271_3, hl271_2, hi271_2, hl271_3, hi271_3⟩ := at_T31 HR0.out x5_1 p271 q271
         have hw271_3 := hx271_3; have hw271_2 := hx271_2; have hw271_1 := hx271_1; have hw271_0 := hx271_0
         cases e271
         replace hx271_0 := cup_ HB.out hx271_0; replace hx271_1 := cup_ HB.out hx271_1; replace hx271_2 := cup_ HB.out hx271_2; replace hx271_3 := cup_ HB.out hx271_3
         have HR271_2 := Aside0.mk hi271_2; have HC271_2 := Aside0.mk hl271_2; clear hi271_2 hl271_2; have HR271_3 := Aside0.mk hi271_3; have HC271_3 := Aside0.mk hl271_3; clear hi271_3 hl271_3
         replace p271 := eq_true p271
         replace q271 := eq_true q271
         refine start_ (n := 8) (S := fun w' => w'.cell? (ad271.add ((x5_1).toNat * 4)) = some (.string ((rd_T31 l0 x5_1).f0)) ∧ w'.cell? ⟨(ad271.add ((x5_1).toNat * 4)).block, (ad271.add ((x5_1).toNat * 4)).off + 1, none⟩ = some (.string ((rd_T31 l0 x5_1).f1)) ∧ w'.cell? ⟨(ad271.add ((x5_1).toNat * 4)).block, (ad271.add ((x5_1).toNat * 4)).off + 2, none⟩ = some (.slice A271_2 ((rd_T31 l0 x5_1).f2).length c271_2) ∧ w'.cell? ⟨(ad271.add ((x5_1).toNat * 4)).block, (ad271.add ((x5_1).toNat * 4)).off + 3, none⟩ = some (.slice A271_3 ((rd_T31 l0 x5_1).f3).length c271_3)) (ds := []) #[ff,ff,ff,ff,ff,ff,ff,ff] (by kernel_rfl) rfl rfl ⟨((HB.out.cell (World.block_lt_of_cell? w _ hw271_0)).trans hw271_0), ((HB.out.cell (World.block_lt_of_cell? w _ hw271_1)).trans hw271_1), ((HB.out.cell (World.block_lt_of_cell? w _ hw271_2)).trans hw271_2), ((HB.out.cell (World.block_lt_of_cell? w _ hw271_3)).trans hw271_3)⟩ (fun hHeld => ?_); refine with_tabW laws_heldTestS.tab4 laws_heldTestS.bits4 (fun HT_ HW_ => ?_)
         generalize wr.drew = w24 at HB HR271_2 HR271_3 hx271_0 hx271_1 hx271_2 hx271_3 hHeld ⊢
         refine pu_ 0 (some 12) (v := ?_) (a' := ?_) #[tt,ff,ff,ff,ff,ff,ff,ff] HT_.out rfl rfl (by kernel_rfl) (fun _ _ _ h => h) (Or.inl ⟨by rfl, ?_⟩) ?_ ?_
         rotate_left
         ·intro w'
          go_simp
          with_reducible rfl
         rotate_left
         ·simp only [Act.put, ps_]
          rfl
         refine pu_ 1 (some 13) (v := ?_) (a' := ?_) #[tt,tt,ff,ff,ff,ff,ff,ff] HT_.out rfl rfl (by kernel_rfl) (fun _ _ _ h => h) (Or.inl ⟨by rfl, ?_⟩) ?_ ?_
         rotate_left
         ·intro w'
          go_simp
          with_reducible rfl
         rotate_left
         ·simp only [Act.put, ps_]
          rfl
         refine pu_ 2 (some 14) (v := ?_) (a' := ?_) #[tt,tt,tt,ff,ff,ff,ff,ff] HT_.out rfl rfl (by kernel_rfl) (fun _ _ _ h => h) (Or.inl ⟨by rfl, ?_⟩) ?_ ?_
         rotate_left
         ·intro w'
          go_simp
          with_reducible rfl
         rotate_left
         ·simp only [Act.put, ps_]
          rfl
         refine pu_ 3 (some 15) (v := ?_) (a' := ?_) #[tt,tt,tt,tt,ff,ff,ff,ff] HT_.out rfl rfl (by kernel_rfl) (fun _ _ _ h => h) (Or.inl ⟨by rfl, ?_⟩) ?_ ?_
         rotate_left
         ·intro w'
          go_simp
          with_reducible rfl
         rotate_left
         ·simp only [Act.put, ps_]
          rfl
         refine pu_ 5 (some 17) (v := ?_) (a' := ?_) #[tt,tt,tt,tt,ff,tt,ff,ff] HT_.out rfl rfl (by kernel_rfl) (fun _ _ _ h => h) (Or.inl ⟨by rfl, ?_⟩) ?_ ?_
         rotate_left
         ·intro w'
          go_simp
          with_reducible rfl
         rotate_left
         ·simp only [Act.put, ps_]
          rfl
         refine take_ (i := 4) (N := some 16) (v := ?_) (a' := ?_) #[tt,tt,tt,tt,tt,tt,ff,ff] rfl rfl (take_ofW HT_.out HW_.out (by kernel_rfl)) (fun _ _ _ h => h) (Or.inl ⟨by rfl, ?_⟩) hHeld ?_ ?_
         rotate_left
         ·rintro w' ⟨s0, s1, s2, s3⟩
          go_simp
          with_reducible rfl
         rotate_left
         ·simp only [Act.put, ps_]
          rfl
         refine one_ (i := 6) (N := some 18) #[tt,tt,tt,tt,tt,tt,tt,ff] rfl rfl (one_of HT_.out (by kernel_rfl)) (by decide) (fun K hK => ?_)
         refine goes_ Try.func41 (by kernel_rfl) rfl #[.int .i64 x1_1] (by rfl) rfl rfl (by (try simp only [List.map_toArray, List.map_cons, List.map_nil]); first | done | rfl) ?_
         with_reducible refine (laws_markText.calls k1 x1_1 t272 _ A5.out).mono ?_
         rintro e w25 ⟨rfl, hb⟩
         refine ⟨_, rfl, ?_⟩
         replace HB := Aside0.mk (below_step (by repeat first | (with_reducible first | exact HB.out | apply below_alloc | apply pw_below_drewN | apply below_drew1) | exact HB.out) hb)
         (try clear hb)
         (try clear hb2)
         (try clear hk)
         (try clear hi)
         refine hK.out _ _ ⟨((HB.out.cell (World.block_lt_of_cell? w _ hw271_0)).trans hw271_0), ((HB.out.cell (World.block_lt_of_cell? w _ hw271_1)).trans hw271_1), ((HB.out.cell (World.block_lt_of_cell? w _ hw271_2)).trans hw271_2), ((HB.out.cell (World.block_lt_of_cell? w _ hw271_3)).trans hw271_3)⟩ (fun hHeld => ?_)
         clear hK K
         refine norm_ (a' := ?_) ?_ ?_
         rotate_left
         ·show Act.put _ (some 18) _ = _
          simp only [Act.put, ps_]
          rfl
         refine pu_ 7 (some 19) (v := ?_) (a' := ?_) #[tt,tt,tt,tt,tt,tt,tt,tt] HT_.out rfl rfl (by kernel_rfl) (fun _ _ _ h => h) (Or.inl ⟨by rfl, ?_⟩) ?_ ?_
         rotate_left
         ·intro w'
          go_simp
          with_reducible rfl
         rotate_left
         ·simp only [Act.put, ps_]
          rfl
         refine done_ (done_of HT_.out (by kernel_rfl)) ?_
         try go_wp2; replace HB := Aside0.mk (below_drew1 HB.out)
         have p273 : 0 ≤ (x5_1 : Int) := of_decide_eq_true (by first | (with_reducible assumption) | assumption)
         have q273 : x5_1 < (l0.length : Int) := of_decide_eq_true (by first | (with_reducible assumption) | assumption)
         obtain ⟨ad273, A273_2, c273_2, A273_3, c273_3, e273, hx273_0, hx273_1, hx273_2, hx273_3, hl273_2, hi273_2, hl273_3, hi273_3⟩ := at_T31 HR0.out x5_1 p273 q273
         have hw273_3 := hx273_3; have hw273_2 := hx273_2; have hw273_1 := hx273_1; have hw273_0 := hx273_0
         obtain rfl : ad271 = ad273 := (by injection e273)
         obtain ⟨rfl, rfl⟩ : A271_2 = A273_2 ∧ c271_2 = c273_2 := by
          have e_ := Option.some.inj (hw271_2.symm.trans hx273_2)
          injection e_ with e1_ _ e2_
          exact ⟨e1_, e2_⟩
         obtain ⟨rfl, rfl⟩ : A271_3 = A273_3 ∧ c271_3 = c273_3 := by
          have e_ := Option.some.inj (hw271_3.symm.trans hx273_3)
          injection e_ with e1_ _ e2_
          exact ⟨e1_, e2_⟩
         replace hx273_0 := cup_ HB.out hx273_0; replace hx273_1 := cup_ HB.out hx273_1; replace hx273_2 := cup_ HB.out hx273_2; replace hx273_3 := cup_ HB.out hx273_3
         have HR273_2 := Aside0.mk hi273_2; have HC273_2 := Aside0.mk hl273_2; clear hi273_2 hl273_2; have HR273_3 := Aside0.mk hi273_3; have HC273_3 := Aside0.mk hl273_3; clear hi273_3 hl273_3
         replace p273 := eq_true p273
         replace q273 := eq_true q273
         refine start_ (n := 8) (S := fun w' => w'.cell? (ad271.add ((x5_1).toNat * 4)) = some (.string ((rd_T31 l0 x5_1).f0)) ∧ w'.cell? ⟨(ad271.add ((x5_1).toNat * 4)).block, (ad271.add ((x5_1).toNat * 4)).off + 1, none⟩ = some (.string ((rd_T31 l0 x5_1).f1)) ∧ w'.cell? ⟨(ad271.add ((x5_1).toNat * 4)).block, (ad271.add ((x5_1).toNat * 4)).off + 2, none⟩ = some (.slice A271_2 ((rd_T31 l0 x5_1).f2).length c271_2) ∧ w'.cell? ⟨(ad271.add ((x5_1).toNat * 4)).block, (ad271.add ((x5_1).toNat * 4)).off + 3, none⟩ = some (.slice A271_3 ((rd_T31 l0 x5_1).f3).length c271_3)) (ds := []) #[ff,ff,ff,ff,ff,ff,ff,ff] (by kernel_rfl) rfl rfl ⟨((HB.out.cell (World.block_lt_of_cell? w _ hw273_0)).trans hw273_0), ((HB.out.cell (World.block_lt_of_cell? w _ hw273_1)).trans hw273_1), ((HB.out.cell (World.block_lt_of_cell? w _ hw273_2)).trans hw273_2), ((HB.out.cell (World.block_lt_of_cell? w _ hw273_3)).trans hw273_3)⟩ (fun hHeld => ?_); refine with_tabW laws_heldTestS.tab7 laws_heldTestS.bits7 (fun HT_ HW_ => ?_)
         generalize w25.drew = w26 at HB HR273_2 HR273_3 hx273_0 hx273_1 hx273_2 hx273_3 hHeld ⊢
         refine pu_ 0 (some 22) (v := ?_) (a' := ?_) #[tt,ff,ff,ff,ff,ff,ff,ff] HT_.out rfl rfl (by kernel_rfl) (fun _ _ _ h => h) (Or.inl ⟨by rfl, ?_⟩) ?_ ?_
         rotate_left
         ·intro w'
          go_simp
          with_reducible rfl
         rotate_left
         ·simp only [Act.put, ps_]
          rfl
         refine pu_ 1 (some 23) (v := ?_) (a' := ?_) #[tt,tt,ff,ff,ff,ff,ff,ff] HT_.out rfl rfl (by kernel_rfl) (fun _ _ _ h => h) (Or.inl ⟨by rfl, ?_⟩) ?_ ?_
         rotate_left
         ·intro w'
          go_simp
          with_reducible rfl
         rotate_left
         ·simp only [Act.put, ps_]
          rfl
         refine pu_ 2 (some 24) (v := ?_) (a' := ?_) #[tt,tt,tt,ff,ff,ff,ff,ff] HT_.out rfl rfl (by kernel_rfl) (fun _ _ _ h => h) (Or.inl ⟨by rfl, ?_⟩) ?_ ?_
         rotate_left
         ·intro w'
          go_simp
          with_reducible rfl
         rotate_left
         ·simp only [Act.put, ps_]
          rfl
         refine pu_ 3 (some 25) (v := ?_) (a' := ?_) #[tt,tt,tt,tt,ff,ff,ff,ff] HT_.out rfl rfl (by kernel_rfl) (fun _ _ _ h => h) (Or.inl ⟨by rfl, ?_⟩) ?_ ?_
         rotate_left
         ·intro w'
          go_simp
          with_reducible rfl
         rotate_left
         ·simp only [Act.put, ps_]
          rfl
         refine pu_ 5 (some 27) (v := ?_) (a' := ?_) #[tt,tt,tt,tt,ff,tt,ff,ff] HT_.out rfl rfl (by kernel_rfl) (fun _ _ _ h => h) (Or.inl ⟨by rfl, ?_⟩) ?_ ?_
         rotate_left
         ·intro w'
          go_simp
          with_reducible rfl
         rotate_left
         ·simp only [Act.put, ps_]
          rfl
         refine take_ (i := 4) (N := some 26) (v := ?_) (a' := ?_) #[tt,tt,tt,tt,tt,tt,ff,ff] rfl rfl (take_ofW HT_.out HW_.out (by kernel_rfl)) (fun _ _ _ h => h) (Or.inl ⟨by rfl, ?_⟩) hHeld ?_ ?_
         rotate_left
         ·rintro w' ⟨s0, s1, s2, s3⟩
          go_simp
          with_reducible rfl
         rotate_left
         ·simp only [Act.put, ps_]
          rfl
         refine one_ (i := 6) (N := some 28) #[tt,tt,tt,tt,tt,tt,tt,ff] rfl rfl (one_of HT_.out (by kernel_rfl)) (by decide) (fun K hK => ?_)
         refine goes_ Try.func41 (by kernel_rfl) rfl #[.int .i64 (wrap64 (x1_1 + 1))] (by rfl) rfl rfl (by (try simp only [List.map_toArray, List.map_cons, List.map_nil]); first | done | rfl) ?_
         with_reducible refine (laws_markText.calls k1 (wrap64 (x1_1 + 1)) t274 _ A7.out).mono ?_
         rintro e w27 ⟨rfl, hb⟩
         refine ⟨_, rfl, ?_⟩
         replace HB := Aside0.mk (below_step (by repeat first | (with_reducible first | exact HB.out | apply below_alloc | apply pw_below_drewN | apply below_drew1) | exact HB.out) hb)
         (try clear hb)
         (try clear hb2)
         (try clear hk)
         (try clear hi)
         refine hK.out _ _ ⟨((HB.out.cell (World.block_lt_of_cell? w _ hw273_0)).trans hw273_0), ((HB.out.cell (World.block_lt_of_cell? w _ hw273_1)).trans hw273_1), ((HB.out.cell (World.block_lt_of_cell? w _ hw273_2)).trans hw273_2), ((HB.out.cell (World.block_lt_of_cell? w _ hw273_3)).trans hw273_3)⟩ (fun hHeld => ?_)
         clear hK K
         refine norm_ (a' := ?_) ?_ ?_
         rotate_left
         ·show Act.put _ (some 28) _ = _
          simp only [Act.put, ps_]
          rfl
         refine pu_ 7 (some 29) (v := ?_) (a' := ?_) #[tt,tt,tt,tt,tt,tt,tt,tt] HT_.out rfl rfl (by kernel_rfl) (fun _ _ _ h => h) (Or.inl ⟨by rfl, ?_⟩) ?_ ?_
         rotate_left
         ·intro w'
          go_simp
          with_reducible rfl
         rotate_left
         ·simp only [Act.put, ps_]
          rfl
         refine done_ (done_of HT_.out (by kernel_rfl)) ?_
         have p275 : 0 ≤ (x5_1 : Int) := of_decide_eq_true (by first | (with_reducible assumption) | assumption)
         have q275 : x5_1 < (l0.length : Int) := of_decide_eq_true (by first | (with_reducible assumption) | assumption)
         obtain ⟨ad275, A275_2, c275_2, A275_3, c275_3, e275, hx275_0, hx275_1, hx275_2, hx275_3, hl275_2, hi275_2, hl275_3, hi275_3⟩ := at_T31 HR0.out x5_1 p275 q275
         obtain rfl : ad271 = ad275 := (by injection e275)
         obtain ⟨rfl, rfl⟩ : A271_2 = A275_2 ∧ c271_2 = c275_2 := by
          have e_ := Option.some.inj (hw271_2.symm.trans hx275_2)
          injection e_ with e1_ _ e2_
          exact ⟨e1_, e2_⟩
         obtain ⟨rfl, rfl⟩ : A271_3 = A275_3 ∧ c271_3 = c275_3 := by
          have e_ := Option.some.inj (hw271_3.symm.trans hx275_3)
          injection e_ with e1_ _ e2_
          exact ⟨e1_, e2_⟩
         replace hx275_0 := cup_ HB.out hx275_0; replace hx275_1 := cup_ HB.out hx275_1; replace hx275_2 := cup_ HB.out hx275_2; replace hx275_3 := cup_ HB.out hx275_3
         have HR275_2 := Aside0.mk hi275_2; have HC275_2 := Aside0.mk hl275_2; clear hi275_2 hl275_2; have HR275_3 := Aside0.mk hi275_3; have HC275_3 := Aside0.mk hl275_3; clear hi275_3 hl275_3
         replace p275 := eq_true p275
         replace q275 := eq_true q275
         try go_wp2_with (first | ((with_reducible refine gate_callee (f := 20) rfl ?_); refine goesL_ (some 38) rfl rfl Try.func20 (by kernel_rfl) rfl #[.slice A271_2 ((rd_T31 l0 x5_1).f2).length c271_2, .int .i64 (wrap64 ((wrap64 (x1_1 + 1)) + 1))] rfl (by (try simp only [List.map_toArray, List.map_cons, List.map_nil]); first | done | rfl) ?_; (with_reducible refine (laws_heldStringS.calls k1 _ _ ((rd_T31 l0 x5_1).f2) (wrap64 ((wrap64 (x1_1 + 1)) + 1)) t276 _ ?side1 ?side2 A9.out).mono ?_); (case side1 => repeat (first | exact (Kd.C_below HR275_2.out HB.out) | with_reducible first | apply Kd.C_alloc | apply Kd.C_drewN | apply Kd.C_drew)); (case side2 => exact HC275_2.out); rintro e w28 ⟨rfl, hb⟩; refine ⟨_, rfl, ?_⟩; replace HB := Aside0.mk (below_step (by repeat first | (with_reducible first | exact HB.out | apply below_alloc | apply pw_below_drewN | apply below_drew1) | exact HB.out) hb); (try clear hb); have p277 : 0 ≤ (x5_1 : Int) := of_decide_eq_true (by first | (with_reducible assumption) | assumption); have q277 : x5_1 < (l0.length : Int) := of_decide_eq_true (by first | (with_reducible assumption) | assumption); obtain ⟨ad277, A277_2, c277_2, A277_3, c277_3, e277, hx277_0, hx277_1, hx277_2, hx277_3, hl277_2, hi277_2, hl277_3, hi277_3⟩ := at_T31 HR0.out x5_1 p277 q277; obtain rfl : ad271 = ad277 := (by injection e277); replace hx277_0 := (HB.out.cell (World.block_lt_of_cell? w _ hx277_0)).trans hx277_0; replace hx277_1 := (HB.out.cell (World.block_lt_of_cell? w _ hx277_1)).trans hx277_1; replace hx277_2 := (HB.out.cell (World.block_lt_of_cell? w _ hx277_2)).trans hx277_2; replace hx277_3 := (HB.out.cell (World.block_lt_of_cell? w _ hx277_3)).trans hx277_3; have HR277_2 := Aside0.mk hi277_2; have HC277_2 := Aside0.mk hl277_2; clear hi277_2 hl277_2; have HR277_3 := Aside0.mk hi277_3; have HC277_3 := Aside0.mk hl277_3; clear hi277_3 hl277_3; replace p277 := eq_true p277; replace q277 := eq_true q277) | ((with_reducible refine gate_callee (f := 20) rfl ?_); refine goesL_ (some 47) rfl rfl Try.func20 (by kernel_rfl) rfl #[.slice A277_3 ((rd_T31 l0 x5_1).f3).length c277_3, .int .i64 t276] rfl (by (try simp only [List.map_toArray, List.map_cons, List.map_nil]); first | done | rfl) ?_; (with_reducible refine (laws_heldStringS.calls k1 _ _ ((rd_T31 l0 x5_1).f3) t276 t278 _ ?side1 ?side2 A16.out).mono ?_); (case side1 => repeat (first | exact (Kd.C_below HR277_3.out HB.out) | with_reducible first | apply Kd.C_alloc | apply Kd.C_drewN | apply Kd.C_drew)); (case side2 => exact HC277_3.out); rintro e w29 ⟨rfl, hb⟩; refine ⟨_, rfl, ?_⟩; replace HB := Aside0.mk (below_step (by repeat first | (with_reducible first | exact HB.out | apply below_alloc | apply pw_below_drewN | apply below_drew1) | exact HB.out) hb); (try clear hb)))
         go_roundg k1
         case measure => have := HK1.out; omega
         case rel => exact ⟨(t278), (wrap64 (x5_1 + 1)), (by first | rfl | (simp; done) | (simp [*]; done)), (by first | rfl | (simp; done) | (simp [*]; done)), H', ⟨by have := HK1.out; omega⟩, ⟨by repeat (first | (with_reducible first | exact HB.out | apply below_alloc | apply pw_below_drewN | apply below_drew1) | exact HB.out)⟩⟩
      ·rw [if_neg c8] at H
       have c8b0 : (((rd_T31 l0 x5_1).f1).toList == t274.toList) = false := beq_eq_false_iff_ne.mpr c8
       have c8b1 : (((rd_T31 l0 x5_1).f1).toList != t274.toList) = true := bne_iff_ne.mpr c8
       obtain rfl := Option.some.inj H
       try go_wp2; replace HB := Aside0.mk (below_drew1 HB.out)
       have p271 : 0 ≤ (x5_1 : Int) := of_decide_eq_true (by first | (with_reducible assumption) | assumption)
       have q271 : x5_1 < (l0.length : Int) := of_decide_eq_true (by first | (with_reducible assumption) | assumption)
       obtain ⟨ad271, A271_2, c271_2, A271_3, c271_3, e271, hx271_0, hx271_1, hx271_2, hx271_3, hl271_2, hi271_2, hl271_3, hi271_3⟩ := at_T31 HR0.out x5_1 p271 q271
       have hw271_3 := hx271_3; have hw271_2 := hx271_2; have hw271_1 := hx271_1; have hw271_0 := hx271_0
       cases e271
       replace hx271_0 := cup_ HB.out hx271_0; replace hx271_1 := cup_ HB.out hx271_1; replace hx271_2 := cup_ HB.out hx271_2; replace hx271_3 := cup_ HB.out hx271_3
       have HR271_2 := Aside0.mk hi271_2; have HC271_2 := Aside0.mk hl271_2; clear hi271_2 hl271_2; have HR271_3 := Aside0.mk hi271_3; have HC271_3 := Aside0.mk hl271_3; clear hi271_3 hl271_3
       replace p271 := eq_true p271
       replace q271 := eq_true q271
       refine start_ (n := 8) (S := fun w' => w'.cell? (ad271.add ((x5_1).toNat * 4)) = some (.string ((rd_T31 l0 x5_1).f0)) ∧ w'.cell? ⟨(ad271.add ((x5_1).toNat * 4)).block, (ad271.add ((x5_1).toNat * 4)).off + 1, none⟩ = some (.string ((rd_T31 l0 x5_1).f1)) ∧ w'.cell? ⟨(ad271.add ((x5_1).toNat * 4)).block, (ad271.add ((x5_1).toNat * 4)).off + 2, none⟩ = some (.slice A271_2 ((rd_T31 l0 x5_1).f2).length c271_2) ∧ w'.cell? ⟨(ad271.add ((x5_1).toNat * 4)).block, (ad271.add ((x5_1).toNat * 4)).off + 3, none⟩ = some (.slice A271_3 ((rd_T31 l0 x5_1).f3).length c271_3)) (ds := []) #[ff,ff,ff,ff,ff,ff,ff,ff] (by kernel_rfl) rfl rfl ⟨((HB.out.cell (World.block_lt_of_cell? w _ hw271_0)).trans hw271_0), ((HB.out.cell (World.block_lt_of_cell? w _ hw271_1)).trans hw271_1), ((HB.out.cell (World.block_lt_of_cell? w _ hw271_2)).trans hw271_2), ((HB.out.cell (World.block_lt_of_cell? w _ hw271_3)).trans hw271_3)⟩ (fun hHeld => ?_); refine with_tabW laws_heldTestS.tab4 laws_heldTestS.bits4 (fun HT_ HW_ => ?_)
       generalize wr.drew = w30 at HB HR271_2 HR271_3 hx271_0 hx271_1 hx271_2 hx271_3 hHeld ⊢
       refine pu_ 0 (some 12) (v := ?_) (a' := ?_) #[tt,ff,ff,ff,ff,ff,ff,ff] HT_.out rfl rfl (by kernel_rfl) (fun _ _ _ h => h) (Or.inl ⟨by rfl, ?_⟩) ?_ ?_
       rotate_left
       ·intro w'
        go_simp
        with_reducible rfl
       rotate_left
       ·simp only [Act.put, ps_]
        rfl
       refine pu_ 1 (some 13) (v := ?_) (a' := ?_) #[tt,tt,ff,ff,ff,ff,ff,ff] HT_.out rfl rfl (by kernel_rfl) (fun _ _ _ h => h) (Or.inl ⟨by rfl, ?_⟩) ?_ ?_
       rotate_left
       ·intro w'
        go_simp
        with_reducible rfl
       rotate_left
       ·simp only [Act.put, ps_]
        rfl
       refine pu_ 2 (some 14) (v := ?_) (a' := ?_) #[tt,tt,tt,ff,ff,ff,ff,ff] HT_.out rfl rfl (by kernel_rfl) (fun _ _ _ h => h) (Or.inl ⟨by rfl, ?_⟩) ?_ ?_
       rotate_left
       ·intro w'
        go_simp
        with_reducible rfl
       rotate_left
       ·simp only [Act.put, ps_]
        rfl
       refine pu_ 3 (some 15) (v := ?_) (a' := ?_) #[tt,tt,tt,tt,ff,ff,ff,ff] HT_.out rfl rfl (by kernel_rfl) (fun _ _ _ h => h) (Or.inl ⟨by rfl, ?_⟩) ?_ ?_
       rotate_left
       ·intro w'
        go_simp
        with_reducible rfl
       rotate_left
       ·simp only [Act.put, ps_]
        rfl
       refine pu_ 5 (some 17) (v := ?_) (a' := ?_) #[tt,tt,tt,tt,ff,tt,ff,ff] HT_.out rfl rfl (by kernel_rfl) (fun _ _ _ h => h) (Or.inl ⟨by rfl, ?_⟩) ?_ ?_
       rotate_left
       ·intro w'
        go_simp
        with_reducible rfl
       rotate_left
       ·simp only [Act.put, ps_]
        rfl
       refine take_ (i := 4) (N := some 16) (v := ?_) (a' := ?_) #[tt,tt,tt,tt,tt,tt,ff,ff] rfl rfl (take_ofW HT_.out HW_.out (by kernel_rfl)) (fun _ _ _ h => h) (Or.inl ⟨by rfl, ?_⟩) hHeld ?_ ?_
       rotate_left
       ·rintro w' ⟨s0, s1, s2, s3⟩
        go_simp
        with_reducible rfl
       rotate_left
       ·simp only [Act.put, ps_]
        rfl
       refine one_ (i := 6) (N := some 18) #[tt,tt,tt,tt,tt,tt,tt,ff] rfl rfl (one_of HT_.out (by kernel_rfl)) (by decide) (fun K hK => ?_)
       refine goes_ Try.func41 (by kernel_rfl) rfl #[.int .i64 x1_1] (by rfl) rfl rfl (by (try simp only [List.map_toArray, List.map_cons, List.map_nil]); first | done | rfl) ?_
       with_reducible refine (laws_markText.calls k1 x1_1 t272 _ A5.out).mono ?_
       rintro e w31 ⟨rfl, hb⟩
       refine ⟨_, rfl, ?_⟩
       replace HB := Aside0.mk (below_step (by repeat first | (with_reducible first | exact HB.out | apply below_alloc | apply pw_below_drewN | apply below_drew1) | exact HB.out) hb)
       (try clear hb)
       (try clear hb2)
       (try clear hk)
       (try clear hi)
       refine hK.out _ _ ⟨((HB.out.cell (World.block_lt_of_cell? w _ hw271_0)).trans hw271_0), ((HB.out.cell (World.block_lt_of_cell? w _ hw271_1)).trans hw271_1), ((HB.out.cell (World.block_lt_of_cell? w _ hw271_2)).trans hw271_2), ((HB.out.cell (World.block_lt_of_cell? w _ hw271_3)).trans hw271_3)⟩ (fun hHeld => ?_)
       clear hK K
       refine norm_ (a' := ?_) ?_ ?_
       rotate_left
       ·show Act.put _ (some 18) _ = _
        simp only [Act.put, ps_]
        rfl
       refine pu_ 7 (some 19) (v := ?_) (a' := ?_) #[tt,tt,tt,tt,tt,tt,tt,tt] HT_.out rfl rfl (by kernel_rfl) (fun _ _ _ h => h) (Or.inl ⟨by rfl, ?_⟩) ?_ ?_
       rotate_left
       ·intro w'
        go_simp
        with_reducible rfl
       rotate_left
       ·simp only [Act.put, ps_]
        rfl
       refine done_ (done_of HT_.out (by kernel_rfl)) ?_
       try go_wp2; replace HB := Aside0.mk (below_drew1 HB.out)
       have p273 : 0 ≤ (x5_1 : Int) := of_decide_eq_true (by first | (with_reducible assumption) | assumption)
       have q273 : x5_1 < (l0.length : Int) := of_decide_eq_true (by first | (with_reducible assumption) | assumption)
       obtain ⟨ad273, A273_2, c273_2, A273_3, c273_3, e273, hx273_0, hx273_1, hx273_2, hx273_3, hl273_2, hi273_2, hl273_3, hi273_3⟩ := at_T31 HR0.out x5_1 p273 q273
       have hw273_3 := hx273_3; have hw273_2 := hx273_2; have hw273_1 := hx273_1; have hw273_0 := hx273_0
       obtain rfl : ad271 = ad273 := (by injection e273)
       obtain ⟨rfl, rfl⟩ : A271_2 = A273_2 ∧ c271_2 = c273_2 := by
        have e_ := Option.some.inj (hw271_2.symm.trans hx273_2)
        injection e_ with e1_ _ e2_
        exact ⟨e1_, e2_⟩
       obtain ⟨rfl, rfl⟩ : A271_3 = A273_3 ∧ c271_3 = c273_3 := by
        have e_ := Option.some.inj (hw271_3.symm.trans hx273_3)
        injection e_ with e1_ _ e2_
        exact ⟨e1_, e2_⟩
       replace hx273_0 := cup_ HB.out hx273_0; replace hx273_1 := cup_ HB.out hx273_1; replace hx273_2 := cup_ HB.out hx273_2; replace hx273_3 := cup_ HB.out hx273_3
       have HR273_2 := Aside0.mk hi273_2; have HC273_2 := Aside0.mk hl273_2; clear hi273_2 hl273_2; have HR273_3 := Aside0.mk hi273_3; have HC273_3 := Aside0.mk hl273_3; clear hi273_3 hl273_3
       replace p273 := eq_true p273
       replace q273 := eq_true q273
       refine start_ (n := 8) (S := fun w' => w'.cell? (ad271.add ((x5_1).toNat * 4)) = some (.string ((rd_T31 l0 x5_1).f0)) ∧ w'.cell? ⟨(ad271.add ((x5_1).toNat * 4)).block, (ad271.add ((x5_1).toNat * 4)).off + 1, none⟩ = some (.string ((rd_T31 l0 x5_1).f1)) ∧ w'.cell? ⟨(ad271.add ((x5_1).toNat * 4)).block, (ad271.add ((x5_1).toNat * 4)).off + 2, none⟩ = some (.slice A271_2 ((rd_T31 l0 x5_1).f2).length c271_2) ∧ w'.cell? ⟨(ad271.add ((x5_1).toNat * 4)).block, (ad271.add ((x5_1).toNat * 4)).off + 3, none⟩ = some (.slice A271_3 ((rd_T31 l0 x5_1).f3).length c271_3)) (ds := []) #[ff,ff,ff,ff,ff,ff,ff,ff] (by kernel_rfl) rfl rfl ⟨((HB.out.cell (World.block_lt_of_cell? w _ hw273_0)).trans hw273_0), ((HB.out.cell (World.block_lt_of_cell? w _ hw273_1)).trans hw273_1), ((HB.out.cell (World.block_lt_of_cell? w _ hw273_2)).trans hw273_2), ((HB.out.cell (World.block_lt_of_cell? w _ hw273_3)).trans hw273_3)⟩ (fun hHeld => ?_); refine with_tabW laws_heldTestS.tab7 laws_heldTestS.bits7 (fun HT_ HW_ => ?_)
       generalize w31.drew = w32 at HB HR273_2 HR273_3 hx273_0 hx273_1 hx273_2 hx273_3 hHeld ⊢
       refine pu_ 0 (some 22) (v := ?_) (a' := ?_) #[tt,ff,ff,ff,ff,ff,ff,ff] HT_.out rfl rfl (by kernel_rfl) (fun _ _ _ h => h) (Or.inl ⟨by rfl, ?_⟩) ?_ ?_
       rotate_left
       ·intro w'
        go_simp
        with_reducible rfl
       rotate_left
       ·simp only [Act.put, ps_]
        rfl
       refine pu_ 1 (some 23) (v := ?_) (a' := ?_) #[tt,tt,ff,ff,ff,ff,ff,ff] HT_.out rfl rfl (by kernel_rfl) (fun _ _ _ h => h) (Or.inl ⟨by rfl, ?_⟩) ?_ ?_
       rotate_left
       ·intro w'
        go_simp
        with_reducible rfl
       rotate_left
       ·simp only [Act.put, ps_]
        rfl
       refine pu_ 2 (some 24) (v := ?_) (a' := ?_) #[tt,tt,tt,ff,ff,ff,ff,ff] HT_.out rfl rfl (by kernel_rfl) (fun _ _ _ h => h) (Or.inl ⟨by rfl, ?_⟩) ?_ ?_
       rotate_left
       ·intro w'
        go_simp
        with_reducible rfl
       rotate_left
       ·simp only [Act.put, ps_]
        rfl
       refine pu_ 3 (some 25) (v := ?_) (a' := ?_) #[tt,tt,tt,tt,ff,ff,ff,ff] HT_.out rfl rfl (by kernel_rfl) (fun _ _ _ h => h) (Or.inl ⟨by rfl, ?_⟩) ?_ ?_
       rotate_left
       ·intro w'
        go_simp
        with_reducible rfl
       rotate_left
       ·simp only [Act.put, ps_]
        rfl
       refine pu_ 5 (some 27) (v := ?_) (a' := ?_) #[tt,tt,tt,tt,ff,tt,ff,ff] HT_.out rfl rfl (by kernel_rfl) (fun _ _ _ h => h) (Or.inl ⟨by rfl, ?_⟩) ?_ ?_
       rotate_left
       ·intro w'
        go_simp
        with_reducible rfl
       rotate_left
       ·simp only [Act.put, ps_]
        rfl
       refine take_ (i := 4) (N := some 26) (v := ?_) (a' := ?_) #[tt,tt,tt,tt,tt,tt,ff,ff] rfl rfl (take_ofW HT_.out HW_.out (by kernel_rfl)) (fun _ _ _ h => h) (Or.inl ⟨by rfl, ?_⟩) hHeld ?_ ?_
       rotate_left
       ·rintro w' ⟨s0, s1, s2, s3⟩
        go_simp
        with_reducible rfl
       rotate_left
       ·simp only [Act.put, ps_]
        rfl
       refine one_ (i := 6) (N := some 28) #[tt,tt,tt,tt,tt,tt,tt,ff] rfl rfl (one_of HT_.out (by kernel_rfl)) (by decide) (fun K hK => ?_)
       refine goes_ Try.func41 (by kernel_rfl) rfl #[.int .i64 (wrap64 (x1_1 + 1))] (by rfl) rfl rfl (by (try simp only [List.map_toArray, List.map_cons, List.map_nil]); first | done | rfl) ?_
       with_reducible refine (laws_markText.calls k1 (wrap64 (x1_1 + 1)) t274 _ A7.out).mono ?_
       rintro e w33 ⟨rfl, hb⟩
       refine ⟨_, rfl, ?_⟩
       replace HB := Aside0.mk (below_step (by repeat first | (with_reducible first | exact HB.out | apply below_alloc | apply pw_below_drewN | apply below_drew1) | exact HB.out) hb)
       (try clear hb)
       (try clear hb2)
       (try clear hk)
       (try clear hi)
       refine hK.out _ _ ⟨((HB.out.cell (World.block_lt_of_cell? w _ hw273_0)).trans hw273_0), ((HB.out.cell (World.block_lt_of_cell? w _ hw273_1)).trans hw273_1), ((HB.out.cell (World.block_lt_of_cell? w _ hw273_2)).trans hw273_2), ((HB.out.cell (World.block_lt_of_cell? w _ hw273_3)).trans hw273_3)⟩ (fun hHeld => ?_)
       clear hK K
       refine norm_ (a' := ?_) ?_ ?_
       rotate_left
       ·show Act.put _ (some 28) _ = _
        simp only [Act.put, ps_]
        rfl
       refine pu_ 7 (some 29) (v := ?_) (a' := ?_) #[tt,tt,tt,tt,tt,tt,tt,tt] HT_.out rfl rfl (by kernel_rfl) (fun _ _ _ h => h) (Or.inl ⟨by rfl, ?_⟩) ?_ ?_
       rotate_left
       ·intro w'
        go_simp
        with_reducible rfl
       rotate_left
       ·simp only [Act.put, ps_]
        rfl
       refine done_ (done_of HT_.out (by kernel_rfl)) ?_
       try go_wp2
       go_ret
       exact ⟨by first | rfl | (simp [errW_none, errW_some] <;> rfl) | (simp [*, errW_none, errW_some] <;> rfl), by repeat (first | (with_reducible first | exact HB.out | apply below_alloc | apply pw_below_drewN | apply below_drew1) | exact HB.out)⟩
     ·rw [if_neg c6] at H
      have c6b0 : (((rd_T31 l0 x5_1).f0).toList == t272.toList) = false := beq_eq_false_iff_ne.mpr c6
      have c6b1 : (((rd_T31 l0 x5_1).f0).toList != t272.toList) = true := bne_iff_ne.mpr c6
      obtain rfl := Option.some.inj H
      try go_wp2; replace HB := Aside0.mk (below_drew1 HB.out)
      have p271 : 0 ≤ (x5_1 : Int) := of_decide_eq_true (by first | (with_reducible assumption) | assumption)
      have q271 : x5_1 < (l0.length : Int) := of_decide_eq_true (by first | (with_reducible assumption) | assumption)
      obtain ⟨ad271, A271_2, c271_2, A271_3, c271_3, e271, hx271_0, hx271_1, hx271_2, hx271_3, hl271_2, hi271_2, hl271_3, hi271_3⟩ := at_T31 HR0.out x5_1 p271 q271
      have hw271_3 := hx271_3; have hw271_2 := hx271_2; have hw271_1 := hx271_1; have hw271_0 := hx271_0
      cases e271
      replace hx271_0 := cup_ HB.out hx271_0; replace hx271_1 := cup_ HB.out hx271_1; replace hx271_2 := cup_ HB.out hx271_2; replace hx271_3 := cup_ HB.out hx271_3
      have HR271_2 := Aside0.mk hi271_2; have HC271_2 := Aside0.mk hl271_2; clear hi271_2 hl271_2; have HR271_3 := Aside0.mk hi271_3; have HC271_3 := Aside0.mk hl271_3; clear hi271_3 hl271_3
      replace p271 := eq_true p271
      replace q271 := eq_true q271
      refine start_ (n := 8) (S := fun w' => w'.cell? (ad271.add ((x5_1).toNat * 4)) = some (.string ((rd_T31 l0 x5_1).f0)) ∧ w'.cell? ⟨(ad271.add ((x5_1).toNat * 4)).block, (ad271.add ((x5_1).toNat * 4)).off + 1, none⟩ = some (.string ((rd_T31 l0 x5_1).f1)) ∧ w'.cell? ⟨(ad271.add ((x5_1).toNat * 4)).block, (ad271.add ((x5_1).toNat * 4)).off + 2, none⟩ = some (.slice A271_2 ((rd_T31 l0 x5_1).f2).length c271_2) ∧ w'.cell? ⟨(ad271.add ((x5_1).toNat * 4)).block, (ad271.add ((x5_1).toNat * 4)).off + 3, none⟩ = some (.slice A271_3 ((rd_T31 l0 x5_1).f3).length c271_3)) (ds := []) #[ff,ff,ff,ff,ff,ff,ff,ff] (by kernel_rfl) rfl rfl ⟨((HB.out.cell (World.block_lt_of_cell? w _ hw271_0)).trans hw271_0), ((HB.out.cell (World.block_lt_of_cell? w _ hw271_1)).trans hw271_1), ((HB.out.cell (World.block_lt_of_cell? w _ hw271_2)).trans hw271_2), ((HB.out.cell (World.block_lt_of_cell? w _ hw271_3)).trans hw271_3)⟩ (fun hHeld => ?_); refine with_tabW laws_heldTestS.tab4 laws_heldTestS.bits4 (fun HT_ HW_ => ?_)
      generalize wr.drew = w34 at HB HR271_2 HR271_3 hx271_0 hx271_1 hx271_2 hx271_3 hHeld ⊢
      refine pu_ 0 (some 12) (v := ?_) (a' := ?_) #[tt,ff,ff,ff,ff,ff,ff,ff] HT_.out rfl rfl (by kernel_rfl) (fun _ _ _ h => h) (Or.inl ⟨by rfl, ?_⟩) ?_ ?_
      rotate_left
      ·intro w'
       go_simp
       with_reducible rfl
      rotate_left
      ·simp only [Act.put, ps_]
       rfl
      refine pu_ 1 (some 13) (v := ?_) (a' := ?_) #[tt,tt,ff,ff,ff,ff,ff,ff] HT_.out rfl rfl (by kernel_rfl) (fun _ _ _ h => h) (Or.inl ⟨by rfl, ?_⟩) ?_ ?_
      rotate_left
      ·intro w'
       go_simp
       with_reducible rfl
      rotate_left
      ·simp only [Act.put, ps_]
       rfl
      refine pu_ 2 (some 14) (v := ?_) (a' := ?_) #[tt,tt,tt,ff,ff,ff,ff,ff] HT_.out rfl rfl (by kernel_rfl) (fun _ _ _ h => h) (Or.inl ⟨by rfl, ?_⟩) ?_ ?_
      rotate_left
      ·intro w'
       go_simp
       with_reducible rfl
      rotate_left
      ·simp only [Act.put, ps_]
       rfl
      refine pu_ 3 (some 15) (v := ?_) (a' := ?_) #[tt,tt,tt,tt,ff,ff,ff,ff] HT_.out rfl rfl (by kernel_rfl) (fun _ _ _ h => h) (Or.inl ⟨by rfl, ?_⟩) ?_ ?_
      rotate_left
      ·intro w'
       go_simp
       with_reducible rfl
      rotate_left
      ·simp only [Act.put, ps_]
       rfl
      refine pu_ 5 (some 17) (v := ?_) (a' := ?_) #[tt,tt,tt,tt,ff,tt,ff,ff] HT_.out rfl rfl (by kernel_rfl) (fun _ _ _ h => h) (Or.inl ⟨by rfl, ?_⟩) ?_ ?_
      rotate_left
      ·intro w'
       go_simp
       with_reducible rfl
      rotate_left
      ·simp only [Act.put, ps_]
       rfl
      refine take_ (i := 4) (N := some 16) (v := ?_) (a' := ?_) #[tt,tt,tt,tt,tt,tt,ff,ff] rfl rfl (take_ofW HT_.out HW_.out (by kernel_rfl)) (fun _ _ _ h => h) (Or.inl ⟨by rfl, ?_⟩) hHeld ?_ ?_
      rotate_left
      ·rintro w' ⟨s0, s1, s2, s3⟩
       go_simp
       with_reducible rfl
      rotate_left
      ·simp only [Act.put, ps_]
       rfl
      refine one_ (i := 6) (N := some 18) #[tt,tt,tt,tt,tt,tt,tt,ff] rfl rfl (one_of HT_.out (by kernel_rfl)) (by decide) (fun K hK => ?_)
      refine goes_ Try.func41 (by kernel_rfl) rfl #[.int .i64 x1_1] (by rfl) rfl rfl (by (try simp only [List.map_toArray, List.map_cons, List.map_nil]); first | done | rfl) ?_
      with_reducible refine (laws_markText.calls k1 x1_1 t272 _ A5.out).mono ?_
      rintro e w35 ⟨rfl, hb⟩
      refine ⟨_, rfl, ?_⟩
      replace HB := Aside0.mk (below_step (by repeat first | (with_reducible first | exact HB.out | apply below_alloc | apply pw_below_drewN | apply below_drew1) | exact HB.out) hb)
      (try clear hb)
      (try clear hb2)
      (try clear hk)
      (try clear hi)
      refine hK.out _ _ ⟨((HB.out.cell (World.block_lt_of_cell? w _ hw271_0)).trans hw271_0), ((HB.out.cell (World.block_lt_of_cell? w _ hw271_1)).trans hw271_1), ((HB.out.cell (World.block_lt_of_cell? w _ hw271_2)).trans hw271_2), ((HB.out.cell (World.block_lt_of_cell? w _ hw271_3)).trans hw271_3)⟩ (fun hHeld => ?_)
      clear hK K
      refine norm_ (a' := ?_) ?_ ?_
      rotate_left
      ·show Act.put _ (some 18) _ = _
       simp only [Act.put, ps_]
       rfl
      refine pu_ 7 (some 19) (v := ?_) (a' := ?_) #[tt,tt,tt,tt,tt,tt,tt,tt] HT_.out rfl rfl (by kernel_rfl) (fun _ _ _ h => h) (Or.inl ⟨by rfl, ?_⟩) ?_ ?_
      rotate_left
      ·intro w'
       go_simp
       with_reducible rfl
      rotate_left
      ·simp only [Act.put, ps_]
       rfl
      refine done_ (done_of HT_.out (by kernel_rfl)) ?_
      try go_wp2
      go_ret
      exact ⟨by first | rfl | (simp [errW_none, errW_some] <;> rfl) | (simp [*, errW_none, errW_some] <;> rfl), by repeat (first | (with_reducible first | exact HB.out | apply below_alloc | apply pw_below_drewN | apply below_drew1) | exact HB.out)⟩
    ·rw [if_neg c4] at H
     exact absurd H (by simp)
   ·rw [if_neg c3] at H
    have c3b0 : decide (x5_1 < (l0.length : Int)) = false := decide_eq_false c3
    clear c3
    obtain rfl := Option.some.inj H
    go_wp2
    go_ret
    exact ⟨by first | rfl | (simp [errW_none, errW_some] <;> rfl) | (simp [*, errW_none, errW_some] <;> rfl), by repeat (first | (with_reducible first | exact HB.out | apply below_alloc | apply pw_below_drewN | apply below_drew1) | exact HB.out)⟩

end Go.Proofs.Ytadhfpbkanobnaa.U
