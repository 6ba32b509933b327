-- WRITTEN by wip/ext.py
import Derived.Test.YtcbkpdgbijdbbaaRx0
import Derived.Test.YtcbkpdgbijdbbaaRx8
import Derived.Test.YtcbkpdgbijdbbaaRx9
namespace Go.Proofs.Ytcbkpdgbijdbbaa.R
open Go.RowKit Go.Proofs.YtcbkpdgbijdbbaaW.PrintWords Go.Proofs.YtcbkpdgbijdbbaaW.PrintLast Go.Proofs.YtcbkpdgbijdbbaaW.PrintMore
attribute [local go_sem] max2_int min2_int max_two min_two max_three min_three max_four min_four   -- for this text's walks alone
set_option linter.unusedVariables false
set_option linter.unusedSimpArgs false

/-! ### laws_heldExpectS: function 32 -/
def laws_heldExpectS.l0 : Nat → List (S73) → Int → Int → Option (Int)
 | 0, _, _, _ => none
 | k + 1, x0, x1, x5 => if x5 < (x0.length : Int) then (if 0 ≤ x5 then ((laws_markText.f k x1).bind fun t235 => (if ((rd_T73 x0 x5).f0).toList = t235.toList then ((laws_heldIntS.f k ((rd_T73 x0 x5).f1) (wrap64 (x1 + 1))).bind fun t237 => (if t237 < 0 then (some (-1)) else (if (((rd_T73 x0 x5).f2) != ((Int.tmod t237 3) == 0)) = true then (some (-1)) else (if ((rd_T73 x0 x5).f3) = (wrap64 (t237 + 1)) then (if ((rd_T73 x0 x5).f4) = (wrap64 ((wrap64 (t237 + 1)) + 1)) then (laws_heldExpectS.l0 k x0 (wrap64 ((wrap64 ((wrap64 (t237 + 1)) + 1)) + 1)) (wrap64 (x5 + 1))) else (some (-1))) else (some (-1)))))) else (some (-1)))) else (none)) else (some x1)
def laws_heldExpectS.f (k : Nat) (l0 : List (S73)) (a1 : Int) : Option (Int) := laws_heldExpectS.l0 k l0 a1 0
theorem laws_heldExpectS.mono_l : ∀ k, (∀ y0 y1 y2, LeO (laws_heldExpectS.l0 k y0 y1 y2) (laws_heldExpectS.l0 (k + 1) y0 y1 y2))
 | 0 => fun _ _ _ r h => by simp [laws_heldExpectS.l0] at h
 | k + 1 => by
  have ih0 := laws_heldExpectS.mono_l k
  ·intro y0 y1 y2
   unfold laws_heldExpectS.l0
   repeat' first
   | (with_reducible exact ih0 _ _ _)
   | (with_reducible exact laws_heldIntS.mono _ _ _)
   | (with_reducible exact laws_markText.mono _ _)
   | (with_reducible exact LeO.refl _)
   | (with_reducible exact LeO.none _)
   | (with_reducible refine LeO.ite ?_ ?_)
   | (with_reducible refine LeO.bind ?_ (fun _ => ?_))
   | refine LeO.ite ?_ ?_
   | refine LeO.bind ?_ (fun _ => ?_)
theorem laws_heldExpectS.mono : ∀ a0 a1 k, LeO (laws_heldExpectS.f k a0 a1) (laws_heldExpectS.f (k + 1) a0 a1) := by
 intro a0 a1 k
 have ih0 := laws_heldExpectS.mono_l k
 unfold laws_heldExpectS.f
 repeat' first
   | (with_reducible exact ih0 _ _ _)
   | (with_reducible exact laws_heldIntS.mono _ _ _)
   | (with_reducible exact laws_markText.mono _ _)
   | (with_reducible exact LeO.refl _)
   | (with_reducible exact LeO.none _)
   | (with_reducible refine LeO.ite ?_ ?_)
   | (with_reducible refine LeO.bind ?_ (fun _ => ?_))
   | refine LeO.ite ?_ ?_
   | refine LeO.bind ?_ (fun _ => ?_)
def laws_heldExpectS.T4 : Bool × List (List Nat × List Nat) := (true, [([], []), ([], []), ([0, 1], [0, 1]), ([2], [2]), ([3], [3]), ([], []), ([5], [5]), ([4, 6], [4, 6])])
def laws_heldExpectS.B4 : List Nat := [0, 0, 3, 7, 15, 0, 32, 127]
theorem laws_heldExpectS.tab4 : rtab .any (opsOf Try.f32 4) = laws_heldExpectS.T4 := by kernel_rfl
theorem laws_heldExpectS.bits4 : waitsOk laws_heldExpectS.T4.2 laws_heldExpectS.B4 = true := by kernel_rfl
set_option maxHeartbeats 8000000 in
set_option maxRecDepth 100000 in
theorem laws_heldExpectS.calls (k : Nat) (A0 : Option Addr) (c0 : Nat) (l0 : List (S73)) (a1 : Int) (r : Int) (w : World) (hr0 : Kd.C k73 w A0 l0.length l0) (hc0 : l0.length ≤ c0) (h : laws_heldExpectS.f k l0 a1 = some r) :
  Calls Try.prog 32 #[.slice A0 l0.length c0, .int .i64 a1] w fun e w' => e = .returned (.int .i64 r) ∧ Below w.heap.size w w' := by
 have HR0 := Aside0.mk hr0; have HC0 := Aside0.mk hc0; clear hr0 hc0; have HB := Aside0.mk (Below.refl w.heap.size w)
 have H : (laws_heldExpectS.l0 k l0 a1 0) = some r := h
 clear h; have H' := Aside0.mk H; clear H
 go_enter Try.func32, Try.ntmps32
 go_wp2
 go_loopg [1, 5] k (fun kq v1 v5 w' => ∃ (x1_1 : Int) (x5_1 : Int), v1 = .int .i64 x1_1 ∧ v5 = .int .i64 x5_1 ∧ Aside0 (laws_heldExpectS.l0 kq l0 x1_1 x5_1 = some r) ∧ Aside0 (kq ≤ k) ∧ Aside0 (Below w.heap.size w w'))
 case atStart => exact ⟨(a1), (0), (by first | rfl | (simp; done) | (simp [*]; done)), (by first | rfl | (simp; done) | (simp [*]; done)), H', ⟨Nat.le_refl _⟩, ⟨by repeat (first | (with_reducible first | exact HB.out | apply below_alloc | apply pw_below_drewN | apply below_drew1) | exact HB.out)⟩⟩
 case round =>
  clear H'; try clear p2
  obtain ⟨x1_1, x5_1, rfl, rfl, HA, HK1, HB⟩ := hrel
  cases gk with
  | zero => exact absurd HA.out (by simp [laws_heldExpectS.l0])
  | succ k1 =>
   have H := HA.out; clear HA
   simp only [laws_heldExpectS.l0] at H
   by_cases c3 : x5_1 < (l0.length : Int)
   ·rw [if_pos c3] at H
    have c3b0 : decide (x5_1 < (l0.length : Int)) = true := decide_eq_true c3
    clear c3
    by_cases c4 : 0 ≤ x5_1
    ·rw [if_pos c4] at H
     have c4b0 : decide (0 ≤ x5_1) = true := decide_eq_true c4
     clear c4
     replace H := Option.bind_eq_some_iff.mp H
     obtain ⟨t235, A50, H⟩ := H
     replace H : (if ((rd_T73 l0 x5_1).f0).toList = t235.toList then ((laws_heldIntS.f k1 ((rd_T73 l0 x5_1).f1) (wrap64 (x1_1 + 1))).bind fun t237 => (if t237 < 0 then (some (-1)) else (if (((rd_T73 l0 x5_1).f2) != ((Int.tmod t237 3) == 0)) = true then (some (-1)) else (if ((rd_T73 l0 x5_1).f3) = (wrap64 (t237 + 1)) then (if ((rd_T73 l0 x5_1).f4) = (wrap64 ((wrap64 (t237 + 1)) + 1)) then (laws_heldExpectS.l0 k1 l0 (wrap64 ((wrap64 ((wrap64 (t237 + 1)) + 1)) + 1)) (wrap64 (x5_1 + 1))) else (some (-1))) else (some (-1)))))) else (some (-1))) = some r := H
     have A5 := Aside0.mk A50; clear A50
     by_cases c6 : ((rd_T73 l0 x5_1).f0).toList = t235.toList
     ·rw [if_pos c6] at H
      have c6b0 : (((rd_T73 l0 x5_1).f0).toList == t235.toList) = true := beq_iff_eq.mpr c6
      have c6b1 : (((rd_T73 l0 x5_1).f0).toList != t235.toList) = false := bne_eq_false_iff_eq.mpr c6
      clear c6
      replace H := Option.bind_eq_some_iff.mp H
      obtain ⟨t237, A70, H⟩ := H
      replace H : (if t237 < 0 then (some (-1)) else (if (((rd_T73 l0 x5_1).f2) != ((Int.tmod t237 3) == 0)) = true then (some (-1)) else (if ((rd_T73 l0 x5_1).f3) = (wrap64 (t237 + 1)) then (if ((rd_T73 l0 x5_1).f4) = (wrap64 ((wrap64 (t237 + 1)) + 1)) then (laws_heldExpectS.l0 k1 l0 (wrap64 ((wrap64 ((wrap64 (t237 + 1)) + 1)) + 1)) (wrap64 (x5_1 + 1))) else (some (-1))) else (some (-1))))) = some r := H
      have A7 := Aside0.mk A70; clear A70
      by_cases c8 : t237 < 0
      ·rw [if_pos c8] at H
       have c8b0 : decide (t237 < 0) = true := decide_eq_true c8
       clear c8
       obtain rfl := Option.some.inj H
       try go_wp2; replace HB := Aside0.mk (below_drew1 HB.out)
       have p234 : 0 ≤ (x5_1 : Int) := of_decide_eq_true (by first | (with_reducible assumption) | assumption)
       have q234 : x5_1 < (l0.length : Int) := of_decide_eq_true (by first | (with_reducible assumption) | assumption)
       obtain ⟨ad234, A234_1, c234_1, e234, hx234_0, hx234_1, hx234_2, hx234_3, hx234_4, hl234_1, hi234_1⟩ := at_T73 HR0.out x5_1 p234 q234
       have hw234_4 := hx234_4; have hw234_3 := hx234_3; have hw234_2 := hx234_2; have hw234_1 := hx234_1; have hw234_0 := hx234_0
       cases e234
       replace hx234_0 := cup_ HB.out hx234_0; replace hx234_1 := cup_ HB.out hx234_1; replace hx234_2 := cup_ HB.out hx234_2; replace hx234_3 := cup_ HB.out hx234_3; replace hx234_4 := cup_ HB.out hx234_4
       have HR234_1 := Aside0.mk hi234_1; have HC234_1 := Aside0.mk hl234_1; clear hi234_1 hl234_1
       replace p234 := eq_true p234
       replace q234 := eq_true q234
       refine start_ (n := 8) (S := fun w' => w'.cell? (ad234.add ((x5_1).toNat * 5)) = some (.string ((rd_T73 l0 x5_1).f0)) ∧ w'.cell? ⟨(ad234.add ((x5_1).toNat * 5)).block, (ad234.add ((x5_1).toNat * 5)).off + 1, none⟩ = some (.slice A234_1 ((rd_T73 l0 x5_1).f1).length c234_1) ∧ w'.cell? ⟨(ad234.add ((x5_1).toNat * 5)).block, (ad234.add ((x5_1).toNat * 5)).off + 2, none⟩ = some (.bool ((rd_T73 l0 x5_1).f2)) ∧ w'.cell? ⟨(ad234.add ((x5_1).toNat * 5)).block, (ad234.add ((x5_1).toNat * 5)).off + 3, none⟩ = some (.int .i64 ((rd_T73 l0 x5_1).f3)) ∧ w'.cell? ⟨(ad234.add ((x5_1).toNat * 5)).block, (ad234.add ((x5_1).toNat * 5)).off + 4, none⟩ = some (.int .i64 ((rd_T73 l0 x5_1).f4))) (ds := []) #[ff,ff,ff,ff,ff,ff,ff,ff] (by kernel_rfl) rfl rfl ⟨((HB.out.cell (World.block_lt_of_cell? w _ hw234_0)).trans hw234_0), ((HB.out.cell (World.block_lt_of_cell? w _ hw234_1)).trans hw234_1), ((HB.out.cell (World.block_lt_of_cell? w _ hw234_2)).trans hw234_2), ((HB.out.cell (World.block_lt_of_cell? w _ hw234_3)).trans hw234_3), ((HB.out.cell (World.block_lt_of_cell? w _ hw234_4)).trans hw234_4)⟩ (fun hHeld => ?_); refine with_tabW laws_heldExpectS.tab4 laws_heldExpectS.bits4 (fun HT_ HW_ => ?_)
       generalize wr.drew = w9 at HB HR234_1 hx234_0 hx234_1 hx234_2 hx234_3 hx234_4 hHeld ⊢
       refine pu_ 0 (some 12) (v := ?_) (a' := ?_) #[tt,ff,ff,ff,ff,ff,ff,ff] HT_.out rfl rfl (by kernel_rfl) (fun _ _ _ h => h) (Or.inl ⟨by rfl, ?_⟩) ?_ ?_
       rotate_left
       ·intro w'
        go_simp
        with_reducible rfl
       rotate_left
       ·simp only [Act.put, ps_]
        rfl
       refine pu_ 1 (some 13) (v := ?_) (a' := ?_) #[tt,tt,ff,ff,ff,ff,ff,ff] HT_.out rfl rfl (by kernel_rfl) (fun _ _ _ h => h) (Or.inl ⟨by rfl, ?_⟩) ?_ ?_
       rotate_left
       ·intro w'
        go_simp
        with_reducible rfl
       rotate_left
       ·simp only [Act.put, ps_]
        rfl
       refine pu_ 2 (some 14) (v := ?_) (a' := ?_) #[tt,tt,tt,ff,ff,ff,ff,ff] HT_.out rfl rfl (by kernel_rfl) (fun _ _ _ h => h) (Or.inl ⟨by rfl, ?_⟩) ?_ ?_
       rotate_left
       ·intro w'
        go_simp
        with_reducible rfl
       rotate_left
       ·simp only [Act.put, ps_]
        rfl
       refine pu_ 3 (some 15) (v := ?_) (a' := ?_) #[tt,tt,tt,tt,ff,ff,ff,ff] HT_.out rfl rfl (by kernel_rfl) (fun _ _ _ h => h) (Or.inl ⟨by rfl, ?_⟩) ?_ ?_
       rotate_left
       ·intro w'
        go_simp
        with_reducible rfl
       rotate_left
       ·simp only [Act.put, ps_]
        rfl
       refine pu_ 5 (some 17) (v := ?_) (a' := ?_) #[tt,tt,tt,tt,ff,tt,ff,ff] HT_.out rfl rfl (by kernel_rfl) (fun _ _ _ h => h) (Or.inl ⟨by rfl, ?_⟩) ?_ ?_
       rotate_left
       ·intro w'
        go_simp
        with_reducible rfl
       rotate_left
       ·simp only [Act.put, ps_]
        rfl
       refine take_ (i := 4) (N := some 16) (v := ?_) (a' := ?_) #[tt,tt,tt,tt,tt,tt,ff,ff] rfl rfl (take_ofW HT_.out HW_.out (by kernel_rfl)) (fun _ _ _ h => h) (Or.inl ⟨by rfl, ?_⟩) hHeld ?_ ?_
       rotate_left
       ·rintro w' ⟨s0, s1, s2, s3, s4⟩
        go_simp
        with_reducible rfl
       rotate_left
       ·simp only [Act.put, ps_]
        rfl
       refine one_ (i := 6) (N := some 18) #[tt,tt,tt,tt,tt,tt,tt,ff] rfl rfl (one_of HT_.out (by kernel_rfl)) (by decide) (fun K hK => ?_)
       refine goes_ Try.func68 (by kernel_rfl) rfl #[.int .i64 x1_1] (by rfl) rfl rfl (by (try simp only [List.map_toArray, List.map_cons, List.map_nil]); first | done | rfl) ?_
       with_reducible refine (laws_markText.calls k1 x1_1 t235 _ A5.out).mono ?_
       rintro e w10 ⟨rfl, hb⟩
       refine ⟨_, rfl, ?_⟩
       replace HB := Aside0.mk (below_step (by repeat first | (with_reducible first | exact HB.out | apply below_alloc | apply pw_below_drewN | apply below_drew1) | exact HB.out) hb)
       (try clear hb)
       (try clear hb2)
       (try clear hk)
       (try clear hi)
       refine hK.out _ _ ⟨((HB.out.cell (World.block_lt_of_cell? w _ hw234_0)).trans hw234_0), ((HB.out.cell (World.block_lt_of_cell? w _ hw234_1)).trans hw234_1), ((HB.out.cell (World.block_lt_of_cell? w _ hw234_2)).trans hw234_2), ((HB.out.cell (World.block_lt_of_cell? w _ hw234_3)).trans hw234_3), ((HB.out.cell (World.block_lt_of_cell? w _ hw234_4)).trans hw234_4)⟩ (fun hHeld => ?_)
       clear hK K
       refine norm_ (a' := ?_) ?_ ?_
       rotate_left
       ·show Act.put _ (some 18) _ = _
        simp only [Act.put, ps_]
        rfl
       refine pu_ 7 (some 19) (v := ?_) (a' := ?_) #[tt,tt,tt,tt,tt,tt,tt,tt] HT_.out rfl rfl (by kernel_rfl) (fun _ _ _ h => h) (Or.inl ⟨by rfl, ?_⟩) ?_ ?_
       rotate_left
       ·intro w'
        go_simp
        with_reducible rfl
       rotate_left
       ·simp only [Act.put, ps_]
        rfl
       refine done_ (done_of HT_.out (by kernel_rfl)) ?_
       have p236 : 0 ≤ (x5_1 : Int) := of_decide_eq_true (by first | (with_reducible assumption) | assumption)
       have q236 : x5_1 < (l0.length : Int) := of_decide_eq_true (by first | (with_reducible assumption) | assumption)
       obtain ⟨ad236, A236_1, c236_1, e236, hx236_0, hx236_1, hx236_2, hx236_3, hx236_4, hl236_1, hi236_1⟩ := at_T73 HR0.out x5_1 p236 q236
       obtain rfl : ad234 = ad236 := (by injection e236)
       obtain ⟨rfl, rfl⟩ : A234_1 = A236_1 ∧ c234_1 = c236_1 := by
        have e_ := Option.some.inj (hw234_1.symm.trans hx236_1)
        injection e_ with e1_ _ e2_
        exact ⟨e1_, e2_⟩
       replace hx236_0 := cup_ HB.out hx236_0; replace hx236_1 := cup_ HB.out hx236_1; replace hx236_2 := cup_ HB.out hx236_2; replace hx236_3 := cup_ HB.out hx236_3; replace hx236_4 := cup_ HB.out hx236_4
       have HR236_1 := Aside0.mk hi236_1; have HC236_1 := Aside0.mk hl236_1; clear hi236_1 hl236_1
       replace p236 := eq_true p236
       replace q236 := eq_true q236
       try go_wp2_with (first | ((with_reducible refine gate_callee (f := 38) rfl ?_); refine goesL_ (some 28) rfl rfl Try.func38 (by kernel_rfl) rfl #[.slice A234_1 ((rd_T73 l0 x5_1).f1).length c234_1, .int .i64 (wrap64 (x1_1 + 1))] rfl (by (try simp only [List.map_toArray, List.map_cons, List.map_nil]); first | done | rfl) ?_; (with_reducible refine (laws_heldIntS.calls k1 _ _ ((rd_T73 l0 x5_1).f1) (wrap64 (x1_1 + 1)) t237 _ ?side1 ?side2 A7.out).mono ?_); (case side1 => repeat (first | exact (Kd.C_below HR236_1.out HB.out) | with_reducible first | apply Kd.C_alloc | apply Kd.C_drewN | apply Kd.C_drew)); (case side2 => exact HC236_1.out); rintro e w' ⟨rfl, ⟨nd, rfl⟩⟩; refine ⟨_, rfl, ?_⟩))
       go_ret
       exact ⟨by first | rfl | (simp [errW_none, errW_some] <;> rfl) | (simp [*, errW_none, errW_some] <;> rfl), by repeat (first | (with_reducible first | exact HB.out | apply below_alloc | apply pw_below_drewN | apply below_drew1) | exact HB.out)⟩
      ·rw [if_neg c8] at H
       have c8b0 : decide (t237 < 0) = false := decide_eq_false c8
       clear c8
       by_cases c11 : (((rd_T73 l0 x5_1).f2) != ((Int.tmod t237 3) == 0)) = true
       ·rw [if_pos c11] at H
        have c11b0 : (((rd_T73 l0 x5_1).f2) != ((Int.tmod t237 3) == 0)) = true := c11
        (try (have c11b1 : decide (((rd_T73 l0 x5_1).f2) = ((Int.tmod t237 3) == 0)) = false := by simpa using c11))
        (try (have c11b2 : (((rd_T73 l0 x5_1).f2) == ((Int.tmod t237 3) == 0)) = false := by simpa using c11))
        (try (have c11b3 : ¬ (((rd_T73 l0 x5_1).f2) = ((Int.tmod t237 3) == 0)) := by simpa using c11))
        clear c11
        obtain rfl := Option.some.inj H
        try go_wp2; replace HB := Aside0.mk (below_drew1 HB.out)
        have p234 : 0 ≤ (x5_1 : Int) := of_decide_eq_true (by first | (with_reducible assumption) | assumption)
        have q234 : x5_1 < (l0.length : Int) := of_decide_eq_true (by first | (with_reducible assumption) | assumption)
        obtain ⟨ad234, A234_1, c234_1, e234, hx234_0, hx234_1, hx234_2, hx234_3, hx234_4, hl234_1, hi234_1⟩ := at_T73 HR0.out x5_1 p234 q234
        have hw234_4 := hx234_4; have hw234_3 := hx234_3; have hw234_2 := hx234_2; have hw234_1 := hx234_1; have hw234_0 := hx234_0
        cases e234
        replace hx234_0 := cup_ HB.out hx234_0; replace hx234_1 := cup_ HB.out hx234_1; replace hx234_2 := cup_ HB.out hx234_2; replace hx234_3 := cup_ HB.out hx234_3; replace hx234_4 := cup_ HB.out hx234_4
        have HR234_1 := Aside0.mk hi234_1; have HC234_1 := Aside0.mk hl234_1; clear hi234_1 hl234_1
        replace p234 := eq_true p234
        replace q234 := eq_true q234
        refine start_ (n := 8) (S := fun w' => w'.cell? (ad234.add ((x5_1).toNat * 5)) = some (.string ((rd_T73 l0 x5_1).f0)) ∧ w'.cell? ⟨(ad234.add ((x5_1).toNat * 5)).block, (ad234.add ((x5_1).toNat * 5)).off + 1, none⟩ = some (.slice A234_1 ((rd_T73 l0 x5_1).f1).length c234_1) ∧ w'.cell? ⟨(ad234.add ((x5_1).toNat * 5)).block, (ad234.add ((x5_1).toNat * 5)).off + 2, none⟩ = some (.bool ((rd_T73 l0 x5_1).f2)) ∧ w'.cell? ⟨(ad234.add ((x5_1).toNat * 5)).block, (ad234.add ((x5_1).toNat * 5)).off + 3, none⟩ = some (.int .i64 ((rd_T73 l0 x5_1).f3)) ∧ w'.cell? ⟨(ad234.add ((x5_1).toNat * 5)).block, (ad234.add ((x5_1).toNat * 5)).off + 4, none⟩ = some (.int .i64 ((rd_T73 l0 x5_1).f4))) (ds := []) #[ff,ff,ff,ff,ff,ff,ff,ff] (by kernel_rfl) rfl rfl ⟨((HB.out.cell (World.block_lt_of_cell? w _ hw234_0)).trans hw234_0), ((HB.out.cell (World.block_lt_of_cell? w _ hw234_1)).trans hw234_1), ((HB.out.cell (World.block_lt_of_cell? w _ hw234_2)).trans hw234_2), ((HB.out.cell (World.block_lt_of_cell? w _ hw234_3)).trans hw234_3), ((HB.out.cell (World.block_lt_of_cell? w _ hw234_4)).trans hw234_4)⟩ (fun hHeld => ?_); refine with_tabW laws_heldExpectS.tab4 laws_heldExpectS.bits4 (fun HT_ HW_ => ?_)
        generalize wr.drew = w12 at HB HR234_1 hx234_0 hx234_1 hx234_2 hx234_3 hx234_4 hHeld ⊢
        refine pu_ 0 (some 12) (v := ?_) (a' := ?_) #[tt,ff,ff,ff,ff,ff,ff,ff] HT_.out rfl rfl (by kernel_rfl) (fun _ _ _ h => h) (Or.inl ⟨by rfl, ?_⟩) ?_ ?_
        rotate_left
        ·intro w'
         go_simp
         with_reducible rfl
        rotate_left
        ·simp only [Act.put, ps_]
         rfl
        refine pu_ 1 (some 13) (v := ?_) (a' := ?_) #[tt,tt,ff,ff,ff,ff,ff,ff] HT_.out rfl rfl (by kernel_rfl) (fun _ _ _ h => h) (Or.inl ⟨by rfl, ?_⟩) ?_ ?_
        rotate_left
        ·intro w'
         go_simp
         with_reducible rfl
        rotate_left
        ·simp only [Act.put, ps_]
         rfl
        refine pu_ 2 (some 14) (v := ?_) (a' := ?_) #[tt,tt,tt,ff,ff,ff,ff,ff] HT_.out rfl rfl (by kernel_rfl) (fun _ _ _ h => h) (Or.inl ⟨by rfl, ?_⟩) ?_ ?_
        rotate_left
        ·intro w'
         go_simp
         with_reducible rfl
        rotate_left
        ·simp only [Act.put, ps_]
         rfl
        refine pu_ 3 (some 15) (v := ?_) (a' := ?_) #[tt,tt,tt,tt,ff,ff,ff,ff] HT_.out rfl rfl (by kernel_rfl) (fun _ _ _ h => h) (Or.inl ⟨by rfl, ?_⟩) ?_ ?_
        rotate_left
        ·intro w'
         go_simp
         with_reducible rfl
        rotate_left
        ·simp only [Act.put, ps_]
         rfl
        refine pu_ 5 (some 17) (v := ?_) (a' := ?_) #[tt,tt,tt,tt,ff,tt,ff,ff] HT_.out rfl rfl (by kernel_rfl) (fun _ _ _ h => h) (Or.inl ⟨by rfl, ?_⟩) ?_ ?_
        rotate_left
        ·intro w'
         go_simp
         with_reducible rfl
        rotate_left
        ·simp only [Act.put, ps_]
         rfl
        refine take_ (i := 4) (N := some 16) (v := ?_) (a' := ?_) #[tt,tt,tt,tt,tt,tt,ff,ff] rfl rfl (take_ofW HT_.out HW_.out (by kernel_rfl)) (fun _ _ _ h => h) (Or.inl ⟨by rfl, ?_⟩) hHeld ?_ ?_
        rotate_left
        ·rintro w' ⟨s0, s1, s2, s3, s4⟩
         go_simp
         with_reducible rfl
        rotate_left
        ·simp only [Act.put, ps_]
         rfl
        refine one_ (i := 6) (N := some 18) #[tt,tt,tt,tt,tt,tt,tt,ff] rfl rfl (one_of HT_.out (by kernel_rfl)) (by decide) (fun K hK => ?_)
        refine goes_ Try.func68 (by kernel_rfl) rfl #[.int .i64 x1_1] (by rfl) rfl rfl (by (try simp only [List.map_toArray, List.map_cons, List.map_nil]); first | done | rfl) ?_
        with_reducible refine (laws_markText.calls k1 x1_1 t235 _ A5.out).mono ?_
        rintro e w13 ⟨rfl, hb⟩
        refine ⟨_, rfl, ?_⟩
        replace HB := Aside0.mk (below_step (by repeat first | (with_reducible first | exact HB.out | apply below_alloc | apply pw_below_drewN | apply below_drew1) | exact HB.out) hb)
        (try clear hb)
        (try clear hb2)
        (try clear hk)
        (try clear hi)
        refine hK.out _ _ ⟨((HB.out.cell (World.block_lt_of_cell? w _ hw234_0)).trans hw234_0), ((HB.out.cell (World.block_lt_of_cell? w _ hw234_1)).trans hw234_1), ((HB.out.cell (World.block_lt_of_cell? w _ hw234_2)).trans hw234_2), ((HB.out.cell (World.block_lt_of_cell? w _ hw234_3)).trans hw234_3), ((HB.out.cell (World.block_lt_of_cell? w _ hw234_4)).trans hw234_4)⟩ (fun hHeld => ?_)
        clear hK K
        refine norm_ (a' := ?_) ?_ ?_
        rotate_left
        ·show Act.put _ (some 18) _ = _
         simp only [Act.put, ps_]
         rfl
        refine pu_ 7 (some 19) (v := ?_) (a' := ?_) #[tt,tt,tt,tt,tt,tt,tt,tt] HT_.out rfl rfl (by kernel_rfl) (fun _ _ _ h => h) (Or.inl ⟨by rfl, ?_⟩) ?_ ?_
        rotate_left
        ·intro w'
         go_simp
         with_reducible rfl
        rotate_left
        ·simp only [Act.put, ps_]
         rfl
        refine done_ (done_of HT_.out (by kernel_rfl)) ?_
        have p236 : 0 ≤ (x5_1 : Int) := of_decide_eq_true (by first | (with_reducible assumption) | assumption)
        have q236 : x5_1 < (l0.length : Int) := of_decide_eq_true (by first | (with_reducible assumption) | assumption)
        obtain ⟨ad236, A236_1, c236_1, e236, hx236_0, hx236_1, hx236_2, hx236_3, hx236_4, hl236_1, hi236_1⟩ := at_T73 HR0.out x5_1 p236 q236
        obtain rfl : ad234 = ad236 := (by injection e236)
        obtain ⟨rfl, rfl⟩ : A234_1 = A236_1 ∧ c234_1 = c236_1 := by
         have e_ := Option.some.inj (hw234_1.symm.trans hx236_1)
         injection e_ with e1_ _ e2_
         exact ⟨e1_, e2_⟩
        replace hx236_0 := cup_ HB.out hx236_0; replace hx236_1 := cup_ HB.out hx236_1; replace hx236_2 := cup_ HB.out hx236_2; replace hx236_3 := cup_ HB.out hx236_3; replace hx236_4 := cup_ HB.out hx236_4
        have HR236_1 := Aside0.mk hi236_1; have HC236_1 := Aside0.mk hl236_1; clear hi236_1 hl236_1
        replace p236 := eq_true p236
        replace q236 := eq_true q236
        try go_wp2_with (first | ((with_reducible refine gate_callee (f := 38) rfl ?_); refine goesL_ (some 28) rfl rfl Try.func38 (by kernel_rfl) rfl #[.slice A234_1 ((rd_T73 l0 x5_1).f1).length c234_1, .int .i64 (wrap64 (x1_1 + 1))] rfl (by (try simp only [List.map_toArray, List.map_cons, List.map_nil]); first | done | rfl) ?_; (with_reducible refine (laws_heldIntS.calls k1 _ _ ((rd_T73 l0 x5_1).f1) (wrap64 (x1_1 + 1)) t237 _ ?side1 ?side2 A7.out).mono ?_); (case side1 => repeat (first | exact (Kd.C_below HR236_1.out HB.out) | with_reducible first | apply Kd.C_alloc | apply Kd.C_drewN | apply Kd.C_drew)); (case side2 => exact HC236_1.out); rintro e w' ⟨rfl, ⟨nd, rfl⟩⟩; refine ⟨_, rfl, ?_⟩; have p238 : 0 ≤ (x5_1 : Int) := of_decide_eq_true (by first | (with_reducible assumption) | assumption); have q238 : x5_1 < (l0.length : Int) := of_decide_eq_true (by first | (with_reducible assumption) | assumption); obtain ⟨ad238, A238_1, c238_1, e238, hx238_0, hx238_1, hx238_2, hx238_3, hx238_4, hl238_1, hi238_1⟩ := at_T73 HR0.out x5_1 p238 q238; obtain rfl : ad234 = ad238 := (by injection e238); replace hx238_0 := (HB.out.cell (World.block_lt_of_cell? w _ hx238_0)).trans hx238_0; replace hx238_1 := (HB.out.cell (World.block_lt_of_cell? w _ hx238_1)).trans hx238_1; replace hx238_2 := (HB.out.cell (World.block_lt_of_cell? w _ hx238_2)).trans hx238_2; replace hx238_3 := (HB.out.cell (World.block_lt_of_cell? w _ hx238_3)).trans hx238_3; replace hx238_4 := (HB.out.cell (World.block_lt_of_cell? w _ hx238_4)).trans hx238_4; have HR238_1 := Aside0.mk hi238_1; have HC238_1 := Aside0.mk hl238_1; clear hi238_1 hl238_1; replace p238 := eq_true p238; replace q238 := eq_true q238; have ea_ := Option.some.inj (hx236_1.symm.trans hx238_1); injection ea_ with ea_ en_ ec_; first | (subst ea_; subst ec_; clear en_) | clear ea_ en_ ec_))
        go_ret
        exact ⟨by first | rfl | (simp [errW_none, errW_some] <;> rfl) | (simp [*, errW_none, errW_some] <;> rfl), by repeat (first | (with_reducible first | exact HB.out | apply below_alloc | apply pw_below_drewN | apply below_drew1) | exact HB.out)⟩
       ·rw [if_neg c11] at H
        have c11b0 : (((rd_T73 l0 x5_1).f2) != ((Int.tmod t237 3) == 0)) = false := by simpa using c11
        (try (have c11b1 : decide (((rd_T73 l0 x5_1).f2) = ((Int.tmod t237 3) == 0)) = true := by simpa using c11))
        (try (have c11b2 : (((rd_T73 l0 x5_1).f2) == ((Int.tmod t237 3) == 0)) = true := by simpa using c11))
        clear c11
        by_cases c14 : ((rd_T73 l0 x5_1).f3) = (wrap64 (t237 + 1))
        ·rw [if_pos c14] at H
         have c14b0 : (((rd_T73 l0 x5_1).f3) == (wrap64 (t237 + 1))) = true := beq_iff_eq.mpr c14
         have c14b1 : (((rd_T73 l0 x5_1).f3) != (wrap64 (t237 + 1))) = false := bne_eq_false_iff_eq.mpr c14
         clear c14
         by_cases c15 : ((rd_T73 l0 x5_1).f4) = (wrap64 ((wrap64 (t237 + 1)) + 1))
         ·rw [if_pos c15] at H
          have c15b0 : (((rd_T73 l0 x5_1).f4) == (wrap64 ((wrap64 (t237 + 1)) + 1))) = true := beq_iff_eq.mpr c15
          have c15b1 : (((rd_T73 l0 x5_1).f4) != (wrap64 ((wrap64 (t237 + 1)) + 1))) = false := bne_eq_false_iff_eq.mpr c15
          clear c15; have H' := Aside0.mk H; clear H; try go_wp2; replace HB := Aside0.mk (below_drew1 HB.out)
          have p234 : 0 ≤ (x5_1 : Int) := of_decide_eq_true (by first | (with_reducible assumption) | assumption)
          have q234 : x5_1 < (l0.length : Int) := of_decide_eq_true (by first | (with_reducible assumption) | assumption)
          obtain ⟨ad234, A234_1, c234_1, e234, hx234_0, hx234_1, hx234_2, hx234_3, hx234_4, hl234_1, hi234_1⟩ := at_T73 HR0.out x5_1 p234 q234
          have hw234_4 := hx234_4; have hw234_3 := hx234_3; have hw234_2 := hx234_2; have hw234_1 := hx234_1; have hw234_0 := hx234_0
          cases e234
          replace hx234_0 := cup_ HB.out hx234_0; replace hx234_1 := cup_ HB.out hx234_1; replace hx234_2 := cup_ HB.out hx234_2; replace hx234_3 := cup_ HB.out hx234_3; replace hx234_4 := cup_ HB.out hx234_4
          have HR234_1 := Aside0.mk hi234_1; have HC234_1 := Aside0.mk hl234_1; clear hi234_1 hl234_1
          replace p234 := eq_true p234
          replace q234 := eq_true q234
          refine start_ (n := 8) (S := fun w' => w'.cell? (ad234.add ((x5_1).toNat * 5)) = some (.string ((rd_T73 l0 x5_1).f0)) ∧ w'.cell? ⟨(ad234.add ((x5_1).toNat * 5)).block, (ad234.add ((x5_1).toNat * 5)).off + 1, none⟩ = some (.slice A234_1 ((rd_T73 l0 x5_1).f1).length c234_1) ∧ w'.cell? ⟨(ad234.add ((x5_1).toNat * 5)).block, (ad234.add ((x5_1).toNat * 5)).off + 2, none⟩ = some (.bool ((rd_T73 l0 x5_1).f2)) ∧ w'.cell? ⟨(ad234.add ((x5_1).toNat * 5)).block, (ad234.add ((x5_1).toNat * 5)).off + 3, none⟩ = some (.int .i64 ((rd_T73 l0 x5_1).f3)) ∧ w'.cell? ⟨(ad234.add ((x5_1).toNat * 5)).block, (ad234.add ((x5_1).toNat * 5)).off + 4, none⟩ = some (.int .i64 ((rd_T73 l0 x5_1).f4))) (ds := []) #[ff,ff,ff,ff,ff,ff,ff,ff] (by kernel_rfl) rfl rfl ⟨((HB.out.cell (World.block_lt_of_cell? w _ hw234_0)).trans hw234_0), ((HB.out.cell (World.block_lt_of_cell? w _ hw234_1)).trans hw234_1), ((HB.out.cell (World.block_lt_of_cell? w _ hw234_2)).trans hw234_2), ((HB.out.cell (World.block_lt_of_cell? w _ hw234_3)).trans hw234_3), ((HB.out.cell (World.block_lt_of_cell? w _ hw234_4)).trans hw234_4)⟩ (fun hHeld => ?_); refine with_tabW laws_heldExpectS.tab4 laws_heldExpectS.bits4 (fun HT_ HW_ => ?_)
          generalize wr.drew = w16 at HB HR234_1 hx234_0 hx234_1 hx234_2 hx234_3 hx234_4 hHeld ⊢
          refine pu_ 0 (some 12) (v := ?_) (a' := ?_) #[tt,ff,ff,ff,ff,ff,ff,ff] HT_.out rfl rfl (by kernel_rfl) (fun _ _ _ h => h) (Or.inl ⟨by rfl, ?_⟩) ?_ ?_
          rotate_left
          ·intro w'
           go_simp
           with_reducible rfl
          rotate_left
          ·simp only [Act.put, ps_]
           rfl
          refine pu_ 1 (some 13) (v := ?_) (a' := ?_) #[tt,tt,ff,ff,ff,ff,ff,ff] HT_.out rfl rfl (by kernel_rfl) (fun _ _ _ h => h) (Or.inl ⟨by rfl, ?_⟩) ?_ ?_
          rotate_left
          ·intro w'
           go_simp
           with_reducible rfl
          rotate_left
          ·simp only [Act.put, ps_]
           rfl
          refine pu_ 2 (some 14) (v := ?_) (a' := ?_) #[tt,tt,tt,ff,ff,ff,ff,ff] HT_.out rfl rfl (by kernel_rfl) (fun _ _ _ h => h) (Or.inl ⟨by rfl, ?_⟩) ?_ ?_
          rotate_left
          ·intro w'
           go_simp
           with_reducible rfl
          rotate_left
          ·simp only [Act.put, ps_]
           rfl
          refine pu_ 3 (some 15) (v := ?_) (a' := ?_) #[tt,tt,tt,tt,ff,ff,ff,ff] HT_.out rfl rfl (by kernel_rfl) (fun _ _ _ h => h) (Or.inl ⟨by rfl, ?_⟩) ?_ ?_
          rotate_left
          ·intro w'
           go_simp
           with_reducible rfl
          rotate_left
          ·simp only [Act.put, ps_]
           rfl
          refine pu_ 5 (some 17) (v := ?_) (a' := ?_) #[tt,tt,tt,tt,ff,tt,ff,ff] HT_.out rfl rfl (by kernel_rfl) (fun _ _ _ h => h) (Or.inl ⟨by rfl, ?_⟩) ?_ ?_
          rotate_left
          ·intro w'
           go_simp
           with_reducible rfl
          rotate_left
          ·simp only [Act.put, ps_]
           rfl
          refine take_ (i := 4) (N := some 16) (v := ?_) (a' := ?_) #[tt,tt,tt,tt,tt,tt,ff,ff] rfl rfl (take_ofW HT_.out HW_.out (by kernel_rfl)) (fun _ _ _ h => h) (Or.inl ⟨by rfl, ?_⟩) hHeld ?_ ?_
          rotate_left
          ·rintro w' ⟨s0, s1, s2, s3, s4⟩
           go_simp
           with_reducible rfl
          rotate_left
          ·simp only [Act.put, ps_]
           rfl
          refine one_ (i := 6) (N := some 18) #[tt,tt,tt,tt,tt,tt,tt,ff] rfl rfl (one_of HT_.out (by kernel_rfl)) (by decide) (fun K hK => ?_)
          refine goes_ Try.func68 (by kernel_rfl) rfl #[.int .i64 x1_1] (by rfl) rfl rfl (by (try simp only [List.map_toArray, List.map_cons, List.map_nil]); first | done | rfl) ?_
          with_reducible refine (laws_markText.calls k1 x1_1 t235 _ A5.out).mono ?_
          rintro e w17 ⟨rfl, hb⟩
          refine ⟨_, rfl, ?_⟩
          replace HB := Aside0.mk (below_step (by repeat first | (with_reducible first | exact HB.out | apply below_alloc | apply pw_below_drewN | apply below_drew1) | exact HB.out) hb)
          (try clear hb)
          (try clear hb2)
          (try clear hk)
          (try clear hi)
          refine hK.out _ _ ⟨((HB.out.cell (World.block_lt_of_cell? w _ hw234_0)).trans hw234_0), ((HB.out.cell (World.block_lt_of_cell? w _ hw234_1)).trans hw234_1), ((HB.out.cell (World.block_lt_of_cell? w _ hw234_2)).trans hw234_2), ((HB.out.cell (World.block_lt_of_cell? w _ hw234_3)).trans hw234_3), ((HB.out.cell (World.block_lt_of_cell? w _ hw234_4)).trans hw234_4)⟩ (fun hHeld => ?_)
          clear hK K
          refine norm_ (a' := ?_) ?_ ?_
          rotate_left
          ·show Act.put _ (some 18) _ = _
           simp only [Act.put, ps_]
           rfl
          refine pu_ 7 (some 19) (v := ?_) (a' := ?_) #[tt,tt,tt,tt,tt,tt,tt,tt] HT_.out rfl rfl (by kernel_rfl) (fun _ _ _ h => h) (Or.inl ⟨by rfl, ?_⟩) ?_ ?_
          rotate_left
          ·intro w'
           go_simp
           with_reducible rfl
          rotate_left
          ·simp only [Act.put, ps_]
           rfl
          refine done_ (done_of HT_.out (by kernel_rfl)) ?_
          have p236 : 0 ≤ (x5_1 : Int) := of_decide_eq_true (by first | (with_reducible assumption) | assumption)
          have q236 : x5_1 < (l0.length : Int) := of_decide_eq_true (by first | (with_reducible assumption) | assumption)
          obtain ⟨ad236, A236_1, c236_1, e236, hx236_0, hx236_1, hx236_2, hx236_3, hx236_4, hl236_1, hi236_1⟩ := at_T73 HR0.out x5_1 p236 q236
          obtain rfl : ad234 = ad236 := (by injection e236)
          obtain ⟨rfl, rfl⟩ : A234_1 = A236_1 ∧ c234_1 = c236_1 := by
           have e_ := Option.some.inj (hw234_1.symm.trans hx236_1)
           injection e_ with e1_ _ e2_
           exact ⟨e1_, e2_⟩
          replace hx236_0 := cup_ HB.out hx236_0; replace hx236_1 := cup_ HB.out hx236_1; replace hx236_2 := cup_ HB.out hx236_2; replace hx236_3 := cup_ HB.out hx236_3; replace hx236_4 := cup_ HB.out hx236_4
          have HR236_1 := Aside0.mk hi236_1; have HC236_1 := Aside0.mk hl236_1; clear hi236_1 hl236_1
          replace p236 := eq_true p236
          replace q236 := eq_true q236
          try go_wp2_with (first | ((with_reducible refine gate_callee (f := 38) rfl ?_); refine goesL_ (some 28) rfl rfl Try.func38 (by kernel_rfl) rfl #[.slice A234_1 ((rd_T73 l0 x5_1).f1).length c234_1, .int .i64 (wrap64 (x1_1 + 1))] rfl (by (try simp only [List.map_toArray, List.map_cons, List.map_nil]); first | done | rfl) ?_; (with_reducible refine (laws_heldIntS.calls k1 _ _ ((rd_T73 l0 x5_1).f1) (wrap64 (x1_1 + 1)) t237 _ ?side1 ?side2 A7.out).mono ?_); (case side1 => repeat (first | exact (Kd.C_below HR236_1.out HB.out) | with_reducible first | apply Kd.C_alloc | apply Kd.C_drewN | apply Kd.C_drew)); (case side2 => exact HC236_1.out); rintro e w' ⟨rfl, ⟨nd, rfl⟩⟩; refine ⟨_, rfl, ?_⟩; have p238 : 0 ≤ (x5_1 : Int) := of_decide_eq_true (by first | (with_reducible assumption) | assumption); have q238 : x5_1 < (l0.length : Int) := of_decide_eq_true (by first | (with_reducible assumption) | assumption); obtain ⟨ad238, A238_1, c238_1, e238, hx238_0, hx238_1, hx238_2, hx238_3, hx238_4, hl238_1, hi238_1⟩ := at_T73 HR0.out x5_1 p238 q238; obtain rfl : ad234 = ad238 := (by injection e238); replace hx238_0 := (HB.out.cell (World.block_lt_of_cell? w _ hx238_0)).trans hx238_0; replace hx238_1 := (HB.out.cell (World.block_lt_of_cell? w _ hx238_1)).trans hx238_1; replace hx238_2 := (HB.out.cell (World.block_lt_of_cell? w _ hx238_2)).trans hx238_2; replace hx238_3 := (HB.out.cell (World.block_lt_of_cell? w _ hx238_3)).trans hx238_3; replace hx238_4 := (HB.out.cell (World.block_lt_of_cell? w _ hx238_4)).trans hx238_4; have HR238_1 := Aside0.mk hi238_1; have HC238_1 := Aside0.mk hl238_1; clear hi238_1 hl238_1; replace p238 := eq_true p238; replace q238 := eq_true q238; have ea_ := Option.some.inj (hx236_1.symm.trans hx238_1); injection ea_ with ea_ en_ ec_; first | (subst ea_; subst ec_; clear en_) | clear ea_ en_ ec_; have p239 : 0 ≤ (x5_1 : Int) := of_decide_eq_true (by first | (with_reducible assumption) | assumption); have q239 : x5_1 < (l0.length : Int) := of_decide_eq_true (by first | (with_reducible assumption) | assumption); obtain ⟨ad239, A239_1, c239_1, e239, hx239_0, hx239_1, hx239_2, hx239_3, hx239_4, hl239_1, hi239_1⟩ := at_T73 HR0.out x5_1 p239 q239; obtain rfl : ad234 = ad239 := (by injection e239); replace hx239_0 := (HB.out.cell (World.block_lt_of_cell? w _ hx239_0)).trans hx239_0; replace hx239_1 := (HB.out.cell (World.block_lt_of_cell? w _ hx239_1)).trans hx239_1; replace hx239_2 := (HB.out.cell (World.block_lt_of_cell? w _ hx239_2)).trans hx239_2; replace hx239_3 := (HB.out.cell (World.block_lt_of_cell? w _ hx239_3)).trans hx239_3; replace hx239_4 := (HB.out.cell (World.block_lt_of_cell? w _ hx239_4)).trans hx239_4; have HR239_1 := Aside0.mk hi239_1; have HC239_1 := Aside0.mk hl239_1; clear hi239_1 hl239_1; replace p239 := eq_true p239; replace q239 := eq_true q239; have ea_ := Option.some.inj (hx236_1.symm.trans hx239_1); injection ea_ with ea_ en_ ec_; first | (subst ea_; subst ec_; clear en_) | clear ea_ en_ ec_; have p240 : 0 ≤ (x5_1 : Int) := of_decide_eq_true (by first | (with_reducible assumption) | assumption); have q240 : x5_1 < (l0.length : Int) := of_decide_eq_true (by first | (with_reducible assumption) | assumption); obtain ⟨ad240, A240_1, c240_1, e240, hx240_0, hx240_1, hx240_2, hx240_3, hx240_4, hl240_1, hi240_1⟩ := at_T73 HR0.out x5_1 p240 q240; obtain rfl : ad234 = ad240 := (by injection e240); replace hx240_0 := (HB.out.cell (World.block_lt_of_cell? w _ hx240_0)).trans hx240_0; replace hx240_1 := (HB.out.cell (World.block_lt_of_cell? w _ hx240_1)).trans hx240_1; replace hx240_2 := (HB.out.cell (World.block_lt_of_cell? w _ hx240_2)).trans hx240_2; replace hx240_3 := (HB.out.cell (World.block_lt_of_cell? w _ hx240_3)).trans hx240_3; replace hx240_4 := (HB.out.cell (World.block_lt_of_cell? w _ hx240_4)).trans hx240_4; have HR240_1 := Aside0.mk hi240_1; have HC240_1 := Aside0.mk hl240_1; clear hi240_1 hl240_1; replace p240 := eq_true p240; replace q240 := eq_true q240; have ea_ := Option.some.inj (hx236_1.symm.trans hx240_1); injection ea_ with ea_ en_ ec_; first | (subst ea_; subst ec_; clear en_) | clear ea_ en_ ec_))
          go_roundg k1
          case measure => have := HK1.out; omega
          case rel => exact ⟨(wrap64 ((wrap64 ((wrap64 (t237 + 1)) + 1)) + 1)), (wrap64 (x5_1 + 1)), (by first | rfl | (simp; done) | (simp [*]; done)), (by first | rfl | (simp; done) | (simp [*]; done)), H', ⟨by have := HK1.out; omega⟩, ⟨by repeat (first | (with_reducible first | exact HB.out | apply below_alloc | apply pw_below_drewN | apply below_drew1) | exact HB.out)⟩⟩
         ·rw [if_neg c15] at H
          have c15b0 : (((rd_T73 l0 x5_1).f4) == (wrap64 ((wrap64 (t237 + 1)) + 1))) = false := beq_eq_false_iff_ne.mpr c15
          have c15b1 : (((rd_T73 l0 x5_1).f4) != (wrap64 ((wrap64 (t237 + 1)) + 1))) = true := bne_iff_ne.mpr c15
          obtain rfl := Option.some.inj H
          try go_wp2; replace HB := Aside0.mk (below_drew1 HB.out)
          have p234 : 0 ≤ (x5_1 : Int) := of_decide_eq_true (by first | (with_reducible assumption) | assumption)
          have q234 : x5_1 < (l0.length : Int) := of_decide_eq_true (by first | (with_reducible assumption) | assumption)
          obtain ⟨ad234, A234_1, c234_1, e234, hx234_0, hx234_1, hx234_2, hx234_3, hx234_4, hl234_1, hi234_1⟩ := at_T73 HR0.out x5_1 p234 q234
          have hw234_4 := hx234_4; have hw234_3 := hx234_3; have hw234_2 := hx234_2; have hw234_1 := hx234_1; have hw234_0 := hx234_0
          cases e234
          replace hx234_0 := cup_ HB.out hx234_0; replace hx234_1 := cup_ HB.out hx234_1; replace hx234_2 := cup_ HB.out hx234_2; replace hx234_3 := cup_ HB.out hx234_3; replace hx234_4 := cup_ HB.out hx234_4
          have HR234_1 := Aside0.mk hi234_1; have HC234_1 := Aside0.mk hl234_1; clear hi234_1 hl234_1
          replace p234 := eq_true p234
          replace q234 := eq_true q234
          refine start_ (n := 8) (S := fun w' => w'.cell? (ad234.add ((x5_1).toNat * 5)) = some (.string ((rd_T73 l0 x5_1).f0)) ∧ w'.cell? ⟨(ad234.add ((x5_1).toNat * 5)).block, (ad234.add ((x5_1).toNat * 5)).off + 1, none⟩ = some (.slice A234_1 ((rd_T73 l0 x5_1).f1).length c234_1) ∧ w'.cell? ⟨(ad234.add ((x5_1).toNat * 5)).block, (ad234.add ((x5_1).toNat * 5)).off + 2, none⟩ = some (.bool ((rd_T73 l0 x5_1).f2)) ∧ w'.cell? ⟨(ad234.add ((x5_1).toNat * 5)).block, (ad234.add ((x5_1).toNat * 5)).off + 3, none⟩ = some (.int .i64 ((rd_T73 l0 x5_1).f3)) ∧ w'.cell? ⟨(ad234.add ((x5_1).toNat * 5)).block, (ad234.add ((x5_1).toNat * 5)).off + 4, none⟩ = some (.int .i64 ((rd_T73 l0 x5_1).f4))) (ds := []) #[ff,ff,ff,ff,ff,ff,ff,ff] (by kernel_rfl) rfl rfl ⟨((HB.out.cell (World.block_lt_of_cell? w _ hw234_0)).trans hw234_0), ((HB.out.cell (World.block_lt_of_cell? w _ hw234_1)).trans hw234_1), ((HB.out.cell (World.block_lt_of_cell? w _ hw234_2)).trans hw234_2), ((HB.out.cell (World.block_lt_of_cell? w _ hw234_3)).trans hw234_3), ((HB.out.cell (World.block_lt_of_cell? w _ hw234_4)).trans hw234_4)⟩ (fun hHeld => ?_); refine with_tabW laws_heldExpectS.tab4 laws_heldExpectS.bits4 (fun HT_ HW_ => ?_)
          generalize wr.drew = w18 at HB HR234_1 hx234_0 hx234_1 hx234_2 hx234_3 hx234_4 hHeld ⊢
          refine pu_ 0 (some 12) (v := ?_) (a' := ?_) #[tt,ff,ff,ff,ff,ff,ff,ff] HT_.out rfl rfl (by kernel_rfl) (fun _ _ _ h => h) (Or.inl ⟨by rfl, ?_⟩) ?_ ?_
          rotate_left
          ·intro w'
           go_simp
           with_reducible rfl
          rotate_left
          ·simp only [Act.put, ps_]
           rfl
          refine pu_ 1 (some 13) (v := ?_) (a' := ?_) #[tt,tt,ff,ff,ff,ff,ff,ff] HT_.out rfl rfl (by kernel_rfl) (fun _ _ _ h => h) (Or.inl ⟨by rfl, ?_⟩) ?_ ?_
          rotate_left
          ·intro w'
           go_simp
           with_reducible rfl
          rotate_left
          ·simp only [Act.put, ps_]
           rfl
          refine pu_ 2 (some 14) (v := ?_) (a' := ?_) #[tt,tt,tt,ff,ff,ff,ff,ff] HT_.out rfl rfl (by kernel_rfl) (fun _ _ _ h => h) (Or.inl ⟨by rfl, ?_⟩) ?_ ?_
          rotate_left
          ·intro w'
           go_simp
           with_reducible rfl
          rotate_left
          ·simp only [Act.put, ps_]
           rfl
          refine pu_ 3 (some 15) (v := ?_) (a' := ?_) #[tt,tt,tt,tt,ff,ff,ff,ff] HT_.out rfl rfl (by kernel_rfl) (fun _ _ _ h => h) (Or.inl ⟨by rfl, ?_⟩) ?_ ?_
          rotate_left
          ·intro w'
           go_simp
           with_reducible rfl
          rotate_left
          ·simp only [Act.put, ps_]
           rfl
          refine pu_ 5 (some 17) (v := ?_) (a' := ?_) #[tt,tt,tt,tt,ff,tt,ff,ff] HT_.out rfl rfl (by kernel_rfl) (fun _ _ _ h => h) (Or.inl ⟨by rfl, ?_⟩) ?_ ?_
          rotate_left
          ·intro w'
           go_simp
           with_reducible rfl
          rotate_left
          ·simp only [Act.put, ps_]
           rfl
          refine take_ (i := 4) (N := some 16) (v := ?_) (a' := ?_) #[tt,tt,tt,tt,tt,tt,ff,ff] rfl rfl (take_ofW HT_.out HW_.out (by kernel_rfl)) (fun _ _ _ h => h) (Or.inl ⟨by rfl, ?_⟩) hHeld ?_ ?_
          rotate_left
          ·rintro w' ⟨s0, s1, s2, s3, s4⟩
           go_simp
           with_reducible rfl
          rotate_left
          ·simp only [Act.put, ps_]
           rfl
          refine one_ (i := 6) (N := some 18) #[tt,tt,tt,tt,tt,tt,tt,ff] rfl rfl (one_of HT_.out (by kernel_rfl)) (by decide) (fun K hK => ?_)
          refine goes_ Try.func68 (by kernel_rfl) rfl #[.int .i64 x1_1] (by rfl) rfl rfl (by (try simp only [List.map_toArray, List.map_cons, List.map_nil]); first | done | rfl) ?_
          with_reducible refine (laws_markText.calls k1 x1_1 t235 _ A5.out).mono ?_
          rintro e w19 ⟨rfl, hb⟩
          refine ⟨_, rfl, ?_⟩
          replace HB := Aside0.mk (below_step (by repeat first | (with_reducible first | exact HB.out | apply below_alloc | apply pw_below_drewN | apply below_drew1) | exact HB.out) hb)
          (try clear hb)
          (try clear hb2)
          (try clear hk)
          (try clear hi)
          refine hK.out _ _ ⟨((HB.out.cell (World.block_lt_of_cell? w _ hw234_0)).trans hw234_0), ((HB.out.cell (World.block_lt_of_cell? w _ hw234_1)).trans hw234_1), ((HB.out.cell (World.block_lt_of_cell? w _ hw234_2)).trans hw234_2), ((HB.out.cell (World.block_lt_of_cell? w _ hw234_3)).trans hw234_3), ((HB.out.cell (World.block_lt_of_cell? w _ hw234_4)).trans hw234_4)⟩ (fun hHeld => ?_)
          clear hK K
          refine norm_ (a' := ?_) ?_ ?_
          rotate_left
          ·show Act.put _ (some 18) _ = _
           simp only [Act.put, ps_]
           rfl
          refine pu_ 7 (some 19) (v := ?_) (a' := ?_) #[tt,tt,tt,tt,tt,tt,tt,tt] HT_.out rfl rfl (by kernel_rfl) (fun _ _ _ h => h) (Or.inl ⟨by rfl, ?_⟩) ?_ ?_
          rotate_left
          ·intro w'
           go_simp
           with_reducible rfl
          rotate_left
          ·simp only [Act.put, ps_]
           rfl
          refine done_ (done_of HT_.out (by kernel_rfl)) ?_
          have p236 : 0 ≤ (x5_1 : Int) := of_decide_eq_true (by first | (with_reducible assumption) | assumption)
          have q236 : x5_1 < (l0.length : Int) := of_decide_eq_true (by first | (with_reducible assumption) | assumption)
          obtain ⟨ad236, A236_1, c236_1, e236, hx236_0, hx236_1, hx236_2, hx236_3, hx236_4, hl236_1, hi236_1⟩ := at_T73 HR0.out x5_1 p236 q236
          obtain rfl : ad234 = ad236 := (by injection e236)
          obtain ⟨rfl, rfl⟩ : A234_1 = A236_1 ∧ c234_1 = c236_1 := by
           have e_ := Option.some.inj (hw234_1.symm.trans hx236_1)
           injection e_ with e1_ _ e2_
           exact ⟨e1_, e2_⟩
          replace hx236_0 := cup_ HB.out hx236_0; replace hx236_1 := cup_ HB.out hx236_1; replace hx236_2 := cup_ HB.out hx236_2; replace hx236_3 := cup_ HB.out hx236_3; replace hx236_4 := cup_ HB.out hx236_4
          have HR236_1 := Aside0.mk hi236_1; have HC236_1 := Aside0.mk hl236_1; clear hi236_1 hl236_1
          replace p236 := eq_true p236
          replace q236 := eq_true q236
          try go_wp2_with (first | ((with_reducible refine gate_callee (f := 38) rfl ?_); refine goesL_ (some 28) rfl rfl Try.func38 (by kernel_rfl) rfl #[.slice A234_1 ((rd_T73 l0 x5_1).f1).length c234_1, .int .i64 (wrap64 (x1_1 + 1))] rfl (by (try simp only [List.map_toArray, List.map_cons, List.map_nil]); first | done | rfl) ?_; (with_reducible refine (laws_heldIntS.calls k1 _ _ ((rd_T73 l0 x5_1).f1) (wrap64 (x1_1 + 1)) t237 _ ?side1 ?side2 A7.out).mono ?_); (case side1 => repeat (first | exact (Kd.C_below HR236_1.out HB.out) | with_reducible first | apply Kd.C_alloc | apply Kd.C_drewN | apply Kd.C_drew)); (case side2 => exact HC236_1.out); rintro e w' ⟨rfl, ⟨nd, rfl⟩⟩; refine ⟨_, rfl, ?_⟩; have p238 : 0 ≤ (x5_1 : Int) := of_decide_eq_true (by first | (with_reducible assumption) | assumption); have q238 : x5_1 < (l0.length : Int) := of_decide_eq_true (by first | (with_reducible assumption) | assumption); obtain ⟨ad238, A238_1, c238_1, e238, hx238_0, hx238_1, hx238_2, hx238_3, hx238_4, hl238_1, hi238_1⟩ := at_T73 HR0.out x5_1 p238 q238; obtain rfl : ad234 = ad238 := (by injection e238); replace hx238_0 := (HB.out.cell (World.block_lt_of_cell? w _ hx238_0)).trans hx238_0; replace hx238_1 := (HB.out.cell (World.block_lt_of_cell? w _ hx238_1)).trans hx238_1; replace hx238_2 := (HB.out.cell (World.block_lt_of_cell? w _ hx238_2)).trans hx238_2; replace hx238_3 := (HB.out.cell (World.block_lt_of_cell? w _ hx238_3)).trans hx238_3; replace hx238_4 := (HB.out.cell (World.block_lt_of_cell? w _ hx238_4)).trans hx238_4; have HR238_1 := Aside0.mk hi238_1; have HC238_1 := Aside0.mk hl238_1; clear hi238_1 hl238_1; replace p238 := eq_true p238; replace q238 := eq_true q238; have ea_ := Option.some.inj (hx236_1.symm.trans hx238_1); injection ea_ with ea_ en_ ec_; first | (subst ea_; subst ec_; clear en_) | clear ea_ en_ ec_; have p239 : 0 ≤ (x5_1 : Int) := of_decide_eq_true (by first | (with_reducible assumption) | assumption); have q239 : x5_1 < (l0.length : Int) := of_decide_eq_true (by first | (with_reducible assumption) | assumption); obtain ⟨ad239, A239_1, c239_1, e239, hx239_0, hx239_1, hx239_2, hx239_3, hx239_4, hl239_1, hi239_1⟩ := at_T73 HR0.out x5_1 p239 q239; obtain rfl : ad234 = ad239 := (by injection e239); replace hx239_0 := (HB.out.cell (World.block_lt_of_cell? w _ hx239_0)).trans hx239_0; replace hx239_1 := (HB.out.cell (World.block_lt_of_cell? w _ hx239_1)).trans hx239_1; replace hx239_2 := (HB.out.cell (World.block_lt_of_cell? w _ hx239_2)).trans hx239_2; replace hx239_3 := (HB.out.cell (World.block_lt_of_cell? w _ hx239_3)).trans hx239_3; replace hx239_4 := (HB.out.cell (World.block_lt_of_cell? w _ hx239_4)).trans hx239_4; have HR239_1 := Aside0.mk hi239_1; have HC239_1 := Aside0.mk hl239_1; clear hi239_1 hl239_1; replace p239 := eq_true p239; replace q239 := eq_true q239; have ea_ := Option.some.inj (hx236_1.symm.trans hx239_1); injection ea_ with ea_ en_ ec_; first | (subst ea_; subst ec_; clear en_) | clear ea_ en_ ec_; have p240 : 0 ≤ (x5_1 : Int) := of_decide_eq_true (by first | (with_reducible assumption) | assumption); have q240 : x5_1 < (l0.length : Int) := of_decide_eq_true (by first | (with_reducible assumption) | assumption); obtain ⟨ad240, A240_1, c240_1, e240, hx240_0, hx240_1, hx240_2, hx240_3, hx240_4, hl240_1, hi240_1⟩ := at_T73 HR0.out x5_1 p240 q240; obtain rfl : ad234 = ad240 := (by injection e240); replace hx240_0 := (HB.out.cell (World.block_lt_of_cell? w _ hx240_0)).trans hx240_0; replace hx240_1 := (HB.out.cell (World.block_lt_of_cell? w _ hx240_1)).trans hx240_1; replace hx240_2 := (HB.out.cell (World.block_lt_of_cell? w _ hx240_2)).trans hx240_2; replace hx240_3 := (HB.out.cell (World.block_lt_of_cell? w _ hx240_3)).trans hx240_3; replace hx240_4 := (HB.out.cell (World.block_lt_of_cell? w _ hx240_4)).trans hx240_4; have HR240_1 := Aside0.mk hi240_1; have HC240_1 := Aside0.mk hl240_1; clear hi240_1 hl240_1; replace p240 := eq_true p240; replace q240 := eq_true q240; have ea_ := Option.some.inj (hx236_1.symm.trans hx240_1); injection ea_ with ea_ en_ ec_; first | (subst ea_; subst ec_; clear en_) | clear ea_ en_ ec_))
          go_ret
          exact ⟨by first | rfl | (simp [errW_none, errW_some] <;> rfl) | (simp [*, errW_none, errW_some] <;> rfl), by repeat (first | (with_reducible first | exact HB.out | apply below_alloc | apply pw_below_drewN | apply below_drew1) | exact HB.out)⟩
        ·rw [if_neg c14] at H
         have c14b0 : (((rd_T73 l0 x5_1).f3) == (wrap64 (t237 + 1))) = false := beq_eq_false_iff_ne.mpr c14
         have c14b1 : (((rd_T73 l0 x5_1).f3) != (wrap64 (t237 + 1))) = true := bne_iff_ne.mpr c14
         obtain rfl := Option.some.inj H
         try go_wp2; replace HB := Aside0.mk (below_drew1 HB.out)
         have p234 : 0 ≤ (x5_1 : Int) := of_decide_eq_true (by first | (with_reducible assumption) | assumption)
         have q234 : x5_1 < (l0.length : Int) := of_decide_eq_true (by first | (with_reducible assumption) | assumption)
         obtain ⟨ad234, A234_1, c234_1, e234, hx234_0, hx234_1, hx234_2, hx234_3, hx234_4, hl234_1, hi234_1⟩ := at_T73 HR0.out x5_1 p234 q234
         have hw234_4 := hx234_4; have hw234_3 := hx234_3; have hw234_2 := hx234_2; have hw234_1 := hx234_1; have hw234_0 := hx234_0
         cases e234
         replace hx234_0 := cup_ HB.out hx234_0; replace hx234_1 := cup_ HB.out hx234_1; replace hx234_2 := cup_ HB.out hx234_2; replace hx234_3 := cup_ HB.out hx234_3; replace hx234_4 := cup_ HB.out hx234_4
         have HR234_1 := Aside0.mk hi234_1; have HC234_1 := Aside0.mk hl234_1; clear hi234_1 hl234_1
         replace p234 := eq_true p234
         replace q234 := eq_true q234
         refine start_ (n := 8) (S := fun w' => w'.cell? (ad234.add ((x5_1).toNat * 5)) = some (.string ((rd_T73 l0 x5_1).f0)) ∧ w'.cell? ⟨(ad234.add ((x5_1).toNat * 5)).block, (ad234.add ((x5_1).toNat * 5)).off + 1, none⟩ = some (.slice A234_1 ((rd_T73 l0 x5_1).f1).length c234_1) ∧ w'.cell? ⟨(ad234.add ((x5_1).toNat * 5)).block, (ad234.add ((x5_1).toNat * 5)).off + 2, none⟩ = some (.bool ((rd_T73 l0 x5_1).f2)) ∧ w'.cell? ⟨(ad234.add ((x5_1).toNat * 5)).block, (ad234.add ((x5_1).toNat * 5)).off + 3, none⟩ = some (.int .i64 ((rd_T73 l0 x5_1).f3)) ∧ w'.cell? ⟨(ad234.add ((x5_1).toNat * 5)).block, (ad234.add ((x5_1).toNat * 5)).off + 4, none⟩ = some (.int .i64 ((rd_T73 l0 x5_1).f4))) (ds := []) #[ff,ff,ff,ff,ff,ff,ff,ff] (by kernel_rfl) rfl rfl ⟨((HB.out.cell (World.block_lt_of_cell? w _ hw234_0)).trans hw234_0), ((HB.out.cell (World.block_lt_of_cell? w _ hw234_1)).trans hw234_1), ((HB.out.cell (World.block_lt_of_cell? w _ hw234_2)).trans hw234_2), ((HB.out.cell (World.block_lt_of_cell? w _ hw234_3)).trans hw234_3), ((HB.out.cell (World.block_lt_of_cell? w _ hw234_4)).trans hw234_4)⟩ (fun hHeld => ?_); refine with_tabW laws_heldExpectS.tab4 laws_heldExpectS.bits4 (fun HT_ HW_ => ?_)
         generalize wr.drew = w20 at HB HR234_1 hx234_0 hx234_1 hx234_2 hx234_3 hx234_4 hHeld ⊢
         refine pu_ 0 (some 12) (v := ?_) (a' := ?_) #[tt,ff,ff,ff,ff,ff,ff,ff] HT_.out rfl rfl (by kernel_rfl) (fun _ _ _ h => h) (Or.inl ⟨by rfl, ?_⟩) ?_ ?_
         rotate_left
         ·intro w'
          go_simp
          with_reducible rfl
         rotate_left
         ·simp only [Act.put, ps_]
          rfl
         refine pu_ 1 (some 13) (v := ?_) (a' := ?_) #[tt,tt,ff,ff,ff,ff,ff,ff] HT_.out rfl rfl (by kernel_rfl) (fun _ _ _ h => h) (Or.inl ⟨by rfl, ?_⟩) ?_ ?_
         rotate_left
         ·intro w'
          go_simp
          with_reducible rfl
         rotate_left
         ·simp only [Act.put, ps_]
          rfl
         refine pu_ 2 (some 14) (v := ?_) (a' := ?_) #[tt,tt,tt,ff,ff,ff,ff,ff] HT_.out rfl rfl (by kernel_rfl) (fun _ _ _ h => h) (Or.inl ⟨by rfl, ?_⟩) ?_ ?_
         rotate_left
         ·intro w'
          go_simp
          with_reducible rfl
         rotate_left
         ·simp only [Act.put, ps_]
          rfl
         refine pu_ 3 (some 15) (v := ?_) (a' := ?_) #[tt,tt,tt,tt,ff,ff,ff,ff] HT_.out rfl rfl (by kernel_rfl) (fun _ _ _ h => h) (Or.inl ⟨by rfl, ?_⟩) ?_ ?_
         rotate_left
         ·intro w'
          go_simp
          with_reducible rfl
         rotate_left
         ·simp only [Act.put, ps_]
          rfl
         refine pu_ 5 (some 17) (v := ?_) (a' := ?_) #[tt,tt,tt,tt,ff,tt,ff,ff] HT_.out rfl rfl (by kernel_rfl) (fun _ _ _ h => h) (Or.inl ⟨by rfl, ?_⟩) ?_ ?_
         rotate_left
         ·intro w'
          go_simp
          with_reducible rfl
         rotate_left
         ·simp only [Act.put, ps_]
          rfl
         refine take_ (i := 4) (N := some 16) (v := ?_) (a' := ?_) #[tt,tt,tt,tt,tt,tt,ff,ff] rfl rfl (take_ofW HT_.out HW_.out (by kernel_rfl)) (fun _ _ _ h => h) (Or.inl ⟨by rfl, ?_⟩) hHeld ?_ ?_
         rotate_left
         ·rintro w' ⟨s0, s1, s2, s3, s4⟩
          go_simp
          with_reducible rfl
         rotate_left
         ·simp only [Act.put, ps_]
          rfl
         refine one_ (i := 6) (N := some 18) #[tt,tt,tt,tt,tt,tt,tt,ff] rfl rfl (one_of HT_.out (by kernel_rfl)) (by decide) (fun K hK => ?_)
         refine goes_ Try.func68 (by kernel_rfl) rfl #[.int .i64 x1_1] (by rfl) rfl rfl (by (try simp only [List.map_toArray, List.map_cons, List.map_nil]); first | done | rfl) ?_
         with_reducible refine (laws_markText.calls k1 x1_1 t235 _ A5.out).mono ?_
         rintro e w21 ⟨rfl, hb⟩
         refine ⟨_, rfl, ?_⟩
         replace HB := Aside0.mk (below_step (by repeat first | (with_reducible first | exact HB.out | apply below_alloc | apply pw_below_drewN | apply below_drew1) | exact HB.out) hb)
         (try clear hb)
         (try clear hb2)
         (try clear hk)
         (try clear hi)
         refine hK.out _ _ ⟨((HB.out.cell (World.block_lt_of_cell? w _ hw234_0)).trans hw234_0), ((HB.out.cell (World.block_lt_of_cell? w _ hw234_1)).trans hw234_1), ((HB.out.cell (World.block_lt_of_cell? w _ hw234_2)).trans hw234_2), ((HB.out.cell (World.block_lt_of_cell? w _ hw234_3)).trans hw234_3), ((HB.out.cell (World.block_lt_of_cell? w _ hw234_4)).trans hw234_4)⟩ (fun hHeld => ?_)
         clear hK K
         refine norm_ (a' := ?_) ?_ ?_
         rotate_left
         ·show Act.put _ (some 18) _ = _
          simp only [Act.put, ps_]
          rfl
         refine pu_ 7 (some 19) (v := ?_) (a' := ?_) #[tt,tt,tt,tt,tt,tt,tt,tt] HT_.out rfl rfl (by kernel_rfl) (fun _ _ _ h => h) (Or.inl ⟨by rfl, ?_⟩) ?_ ?_
         rotate_left
         ·intro w'
          go_simp
          with_reducible rfl
         rotate_left
         ·simp only [Act.put, ps_]
          rfl
         refine done_ (done_of HT_.out (by kernel_rfl)) ?_
         have p236 : 0 ≤ (x5_1 : Int) := of_decide_eq_true (by first | (with_reducible assumption) | assumption)
         have q236 : x5_1 < (l0.length : Int) := of_decide_eq_true (by first | (with_reducible assumption) | assumption)
         obtain ⟨ad236, A236_1, c236_1, e236, hx236_0, hx236_1, hx236_2, hx236_3, hx236_4, hl236_1, hi236_1⟩ := at_T73 HR0.out x5_1 p236 q236
         obtain rfl : ad234 = ad236 := (by injection e236)
         obtain ⟨rfl, rfl⟩ : A234_1 = A236_1 ∧ c234_1 = c236_1 := by
          have e_ := Option.some.inj (hw234_1.symm.trans hx236_1)
          injection e_ with e1_ _ e2_
          exact ⟨e1_, e2_⟩
         replace hx236_0 := cup_ HB.out hx236_0; replace hx236_1 := cup_ HB.out hx236_1; replace hx236_2 := cup_ HB.out hx236_2; replace hx236_3 := cup_ HB.out hx236_3; replace hx236_4 := cup_ HB.out hx236_4
         have HR236_1 := Aside0.mk hi236_1; have HC236_1 := Aside0.mk hl236_1; clear hi236_1 hl236_1
         replace p236 := eq_true p236
         replace q236 := eq_true q236
         try go_wp2_with (first | ((with_reducible refine gate_callee (f := 38) rfl ?_); refine goesL_ (some 28) rfl rfl Try.func38 (by kernel_rfl) rfl #[.slice A234_1 ((rd_T73 l0 x5_1).f1).length c234_1, .int .i64 (wrap64 (x1_1 + 1))] rfl (by (try simp only [List.map_toArray, List.map_cons, List.map_nil]); first | done | rfl) ?_; (with_reducible refine (laws_heldIntS.calls k1 _ _ ((rd_T73 l0 x5_1).f1) (wrap64 (x1_1 + 1)) t237 _ ?side1 ?side2 A7.out).mono ?_); (case side1 => repeat (first | exact (Kd.C_below HR236_1.out HB.out) | with_reducible first | apply Kd.C_alloc | apply Kd.C_drewN | apply Kd.C_drew)); (case side2 => exact HC236_1.out); rintro e w' ⟨rfl, ⟨nd, rfl⟩⟩; refine ⟨_, rfl, ?_⟩; have p238 : 0 ≤ (x5_1 : Int) := of_decide_eq_true (by first | (with_reducible assumption) | assumption); have q238 : x5_1 < (l0.length : Int) := of_decide_eq_true (by first | (with_reducible assumption) | assumption); obtain ⟨ad238, A238_1, c238_1, e238, hx238_0, hx238_1, hx238_2, hx238_3, hx238_4, hl238_1, hi238_1⟩ := at_T73 HR0.out x5_1 p238 q238; obtain rfl : ad234 = ad238 := (by injection e238); replace hx238_0 := (HB.out.cell (World.block_lt_of_cell? w _ hx238_0)).trans hx238_0; replace hx238_1 := (HB.out.cell (World.block_lt_of_cell? w _ hx238_1)).trans hx238_1; replace hx238_2 := (HB.out.cell (World.block_lt_of_cell? w _ hx238_2)).trans hx238_2; replace hx238_3 := (HB.out.cell (World.block_lt_of_cell? w _ hx238_3)).trans hx238_3; replace hx238_4 := (HB.out.cell (World.block_lt_of_cell? w _ hx238_4)).trans hx238_4; have HR238_1 := Aside0.mk hi238_1; have HC238_1 := Aside0.mk hl238_1; clear hi238_1 hl238_1; replace p238 := eq_true p238; replace q238 := eq_true q238; have ea_ := Option.some.inj (hx236_1.symm.trans hx238_1); injection ea_ with ea_ en_ ec_; first | (subst ea_; subst ec_; clear en_) | clear ea_ en_ ec_; have p239 : 0 ≤ (x5_1 : Int) := of_decide_eq_true (by first | (with_reducible assumption) | assumption); have q239 : x5_1 < (l0.length : Int) := of_decide_eq_true (by first | (with_reducible assumption) | assumption); obtain ⟨ad239, A239_1, c239_1, e239, hx239_0, hx239_1, hx239_2, hx239_3, hx239_4, hl239_1, hi239_1⟩ := at_T73 HR0.out x5_1 p239 q239; obtain rfl : ad234 = ad239 := (by injection e239); replace hx239_0 := (HB.out.cell (World.block_lt_of_cell? w _ hx239_0)).trans hx239_0; replace hx239_1 := (HB.out.cell (World.block_lt_of_cell? w _ hx239_1)).trans hx239_1; replace hx239_2 := (HB.out.cell (World.block_lt_of_cell? w _ hx239_2)).trans hx239_2; replace hx239_3 := (HB.out.cell (World.block_lt_of_cell? w _ hx239_3)).trans hx239_3; replace hx239_4 := (HB.out.cell (World.block_lt_of_cell? w _ hx239_4)).trans hx239_4; have HR239_1 := Aside0.mk hi239_1; have HC239_1 := Aside0.mk hl239_1; clear hi239_1 hl239_1; replace p239 := eq_true p239; replace q239 := eq_true q239; have ea_ := Option.some.inj (hx236_1.symm.trans hx239_1); injection ea_ with ea_ en_ ec_; first | (subst ea_; subst ec_; clear en_) | clear ea_ en_ ec_))
         go_ret
         exact ⟨by first | rfl | (simp [errW_none, errW_some] <;> rfl) | (simp [*, errW_none, errW_some] <;> rfl), by repeat (first | (with_reducible first | exact HB.out | apply below_alloc | apply pw_below_drewN | apply below_drew1) | exact HB.out)⟩
     ·rw [if_neg c6] at H
      have c6b0 : (((rd_T73 l0 x5_1).f0).toList == t235.toList) = false := beq_eq_false_iff_ne.mpr c6
      have c6b1 : (((rd_T73 l0 x5_1).f0).toList != t235.toList) = true := bne_iff_ne.mpr c6
      obtain rfl := Option.some.inj H
      try go_wp2; replace HB := Aside0.mk (below_drew1 HB.out)
      have p234 : 0 ≤ (x5_1 : Int) := of_decide_eq_true (by first | (with_reducible assumption) | assumption)
      have q234 : x5_1 < (l0.length : Int) := of_decide_eq_true (by first | (with_reducible assumption) | assumption)
      obtain ⟨ad234, A234_1, c234_1, e234, hx234_0, hx234_1, hx234_2, hx234_3, hx234_4, hl234_1, hi234_1⟩ := at_T73 HR0.out x5_1 p234 q234
      have hw234_4 := hx234_4; have hw234_3 := hx234_3; have hw234_2 := hx234_2; have hw234_1 := hx234_1; have hw234_0 := hx234_0
      cases e234
      replace hx234_0 := cup_ HB.out hx234_0; replace hx234_1 := cup_ HB.out hx234_1; replace hx234_2 := cup_ HB.out hx234_2; replace hx234_3 := cup_ HB.out hx234_3; replace hx234_4 := cup_ HB.out hx234_4
      have HR234_1 := Aside0.mk hi234_1; have HC234_1 := Aside0.mk hl234_1; clear hi234_1 hl234_1
      replace p234 := eq_true p234
      replace q234 := eq_true q234
      refine start_ (n := 8) (S := fun w' => w'.cell? (ad234.add ((x5_1).toNat * 5)) = some (.string ((rd_T73 l0 x5_1).f0)) ∧ w'.cell? ⟨(ad234.add ((x5_1).toNat * 5)).block, (ad234.add ((x5_1).toNat * 5)).off + 1, none⟩ = some (.slice A234_1 ((rd_T73 l0 x5_1).f1).length c234_1) ∧ w'.cell? ⟨(ad234.add ((x5_1).toNat * 5)).block, (ad234.add ((x5_1).toNat * 5)).off + 2, none⟩ = some (.bool ((rd_T73 l0 x5_1).f2)) ∧ w'.cell? ⟨(ad234.add ((x5_1).toNat * 5)).block, (ad234.add ((x5_1).toNat * 5)).off + 3, none⟩ = some (.int .i64 ((rd_T73 l0 x5_1).f3)) ∧ w'.cell? ⟨(ad234.add ((x5_1).toNat * 5)).block, (ad234.add ((x5_1).toNat * 5)).off + 4, none⟩ = some (.int .i64 ((rd_T73 l0 x5_1).f4))) (ds := []) #[ff,ff,ff,ff,ff,ff,ff,ff] (by kernel_rfl) rfl rfl ⟨((HB.out.cell (World.block_lt_of_cell? w _ hw234_0)).trans hw234_0), ((HB.out.cell (World.block_lt_of_cell? w _ hw234_1)).trans hw234_1), ((HB.out.cell (World.block_lt_of_cell? w _ hw234_2)).trans hw234_2), ((HB.out.cell (World.block_lt_of_cell? w _ hw234_3)).trans hw234_3), ((HB.out.cell (World.block_lt_of_cell? w _ hw234_4)).trans hw234_4)⟩ (fun hHeld => ?_); refine with_tabW laws_heldExpectS.tab4 laws_heldExpectS.bits4 (fun HT_ HW_ => ?_)
      generalize wr.drew = w22 at HB HR234_1 hx234_0 hx234_1 hx234_2 hx234_3 hx234_4 hHeld ⊢
      refine pu_ 0 (some 12) (v := ?_) (a' := ?_) #[tt,ff,ff,ff,ff,ff,ff,ff] HT_.out rfl rfl (by kernel_rfl) (fun _ _ _ h => h) (Or.inl ⟨by rfl, ?_⟩) ?_ ?_
      rotate_left
      ·intro w'
       go_simp
       with_reducible rfl
      rotate_left
      ·simp only [Act.put, ps_]
       rfl
      refine pu_ 1 (some 13) (v := ?_) (a' := ?_) #[tt,tt,ff,ff,ff,ff,ff,ff] HT_.out rfl rfl (by kernel_rfl) (fun _ _ _ h => h) (Or.inl ⟨by rfl, ?_⟩) ?_ ?_
      rotate_left
      ·intro w'
       go_simp
       with_reducible rfl
      rotate_left
      ·simp only [Act.put, ps_]
       rfl
      refine pu_ 2 (some 14) (v := ?_) (a' := ?_) #[tt,tt,tt,ff,ff,ff,ff,ff] HT_.out rfl rfl (by kernel_rfl) (fun _ _ _ h => h) (Or.inl ⟨by rfl, ?_⟩) ?_ ?_
      rotate_left
      ·intro w'
       go_simp
       with_reducible rfl
      rotate_left
      ·simp only [Act.put, ps_]
       rfl
      refine pu_ 3 (some 15) (v := ?_) (a' := ?_) #[tt,tt,tt,tt,ff,ff,ff,ff] HT_.out rfl rfl (by kernel_rfl) (fun _ _ _ h => h) (Or.inl ⟨by rfl, ?_⟩) ?_ ?_
      rotate_left
      ·intro w'
       go_simp
       with_reducible rfl
      rotate_left
      ·simp only [Act.put, ps_]
       rfl
      refine pu_ 5 (some 17) (v := ?_) (a' := ?_) #[tt,tt,tt,tt,ff,tt,ff,ff] HT_.out rfl rfl (by kernel_rfl) (fun _ _ _ h => h) (Or.inl ⟨by rfl, ?_⟩) ?_ ?_
      rotate_left
      ·intro w'
       go_simp
       with_reducible rfl
      rotate_left
      ·simp only [Act.put, ps_]
       rfl
      refine take_ (i := 4) (N := some 16) (v := ?_) (a' := ?_) #[tt,tt,tt,tt,tt,tt,ff,ff] rfl rfl (take_ofW HT_.out HW_.out (by kernel_rfl)) (fun _ _ _ h => h) (Or.inl ⟨by rfl, ?_⟩) hHeld ?_ ?_
      rotate_left
      ·rintro w' ⟨s0, s1, s2, s3, s4⟩
       go_simp
       with_reducible rfl
      rotate_left
      ·simp only [Act.put, ps_]
       rfl
      refine one_ (i := 6) (N := some 18) #[tt,tt,tt,tt,tt,tt,tt,ff] rfl rfl (one_of HT_.out (by kernel_rfl)) (by decide) (fun K hK => ?_)
      refine goes_ Try.func68 (by kernel_rfl) rfl #[.int .i64 x1_1] (by rfl) rfl rfl (by (try simp only [List.map_toArray, List.map_cons, List.map_nil]); first | done | rfl) ?_
      with_reducible refine (laws_markText.calls k1 x1_1 t235 _ A5.out).mono ?_
      rintro e w23 ⟨rfl, hb⟩
      refine ⟨_, rfl, ?_⟩
      replace HB := Aside0.mk (below_step (by repeat first | (with_reducible first | exact HB.out | apply below_alloc | apply pw_below_drewN | apply below_drew1) | exact HB.out) hb)
      (try clear hb)
      (try clear hb2)
      (try clear hk)
      (try clear hi)
      refine hK.out _ _ ⟨((HB.out.cell (World.block_lt_of_cell? w _ hw234_0)).trans hw234_0), ((HB.out.cell (World.block_lt_of_cell? w _ hw234_1)).trans hw234_1), ((HB.out.cell (World.block_lt_of_cell? w _ hw234_2)).trans hw234_2), ((HB.out.cell (World.block_lt_of_cell? w _ hw234_3)).trans hw234_3), ((HB.out.cell (World.block_lt_of_cell? w _ hw234_4)).trans hw234_4)⟩ (fun hHeld => ?_)
      clear hK K
      refine norm_ (a' := ?_) ?_ ?_
      rotate_left
      ·show Act.put _ (some 18) _ = _
       simp only [Act.put, ps_]
       rfl
      refine pu_ 7 (some 19) (v := ?_) (a' := ?_) #[tt,tt,tt,tt,tt,tt,tt,tt] HT_.out rfl rfl (by kernel_rfl) (fun _ _ _ h => h) (Or.inl ⟨by rfl, ?_⟩) ?_ ?_
      rotate_left
      ·intro w'
       go_simp
       with_reducible rfl
      rotate_left
      ·simp only [Act.put, ps_]
       rfl
      refine done_ (done_of HT_.out (by kernel_rfl)) ?_
      try go_wp2
      go_ret
      exact ⟨by first | rfl | (simp [errW_none, errW_some] <;> rfl) | (simp [*, errW_none, errW_some] <;> rfl), by repeat (first | (with_reducible first | exact HB.out | apply below_alloc | apply pw_below_drewN | apply below_drew1) | exact HB.out)⟩
    ·rw [if_neg c4] at H
     exact absurd H (by simp)
   ·rw [if_neg c3] at H
    have c3b0 : decide (x5_1 < (l0.length : Int)) = false := decide_eq_false c3
    clear c3
    obtain rfl := Option.some.inj H
    go_wp2
    go_ret
    exact ⟨by first | rfl | (simp [errW_none, errW_some] <;> rfl) | (simp [*, errW_none, errW_some] <;> rfl), by repeat (first | (with_reducible first | exact HB.out | apply below_alloc | apply pw_below_drewN | apply below_drew1) | exact HB.out)⟩

end Go.Proofs.Ytcbkpdgbijdbbaa.R
