-- WRITTEN by wip/ext.py
import Derived.Test.YtdllommmccgleaaAx0
import Derived.Test.YtdllommmccgleaaAx7
namespace Go.Proofs.Ytdllommmccgleaa.A
open Go.RowKit Go.Proofs.YtdllommmccgleaaW.PrintWords Go.Proofs.YtdllommmccgleaaW.PrintLast Go.Proofs.YtdllommmccgleaaW.PrintMore
attribute [local go_sem] max2_int min2_int max_two min_two max_three min_three max_four min_four   -- for this text's walks alone
set_option linter.unusedVariables false
set_option linter.unusedSimpArgs false

/-! ### spec_nameAt: function 99 -/
def spec_nameAt.l0 : Nat → Int → ByteArray → Int → ByteArray → ByteArray → List ByteArray → List ByteArray → Bool → Option (ByteArray × ByteArray × Int × ByteArray × ByteArray × Bool)
 | 0, _, _, _, _, _, _, _, _ => none
 | k + 1, x3, x1000, x1001, x1002, x1003, x1004, x1005, x1006 => if x1001 < (x1000.size : Int) then (if 0 ≤ x1001 then (if (bt x1000 x1001) ≥ 97 then (if (bt x1000 x1001) ≤ 122 then (spec_nameAt.l0 k x3 x1000 (wrap64 (x1001 + 1)) x1002 x1003 x1004 x1005 x1006) else (if 0 ≤ x3 then (if x3 ≤ x1001 then (if x1001 ≤ (x1000.size : Int) then (some (x1000.extract (x3 : Int).toNat (x1001 : Int).toNat, x1000, x1001, x1002, x1003, x1006)) else (none)) else (none)) else (none))) else (if 0 ≤ x3 then (if x3 ≤ x1001 then (if x1001 ≤ (x1000.size : Int) then (some (x1000.extract (x3 : Int).toNat (x1001 : Int).toNat, x1000, x1001, x1002, x1003, x1006)) else (none)) else (none)) else (none))) else (none)) else (if 0 ≤ x3 then (if x3 ≤ x1001 then (if x1001 ≤ (x1000.size : Int) then (some (x1000.extract (x3 : Int).toNat (x1001 : Int).toNat, x1000, x1001, x1002, x1003, x1006)) else (none)) else (none)) else (none))
def spec_nameAt.f (k : Nat) (s0_0 : ByteArray) (s0_1 : Int) (s0_2 : ByteArray) (s0_3 : ByteArray) (s0_4 : List ByteArray) (s0_5 : List ByteArray) (s0_6 : Bool) : Option (ByteArray × ByteArray × Int × ByteArray × ByteArray × Bool) := spec_nameAt.l0 k s0_1 s0_0 s0_1 s0_2 s0_3 s0_4 s0_5 s0_6
theorem spec_nameAt.mono_l : ∀ k, (∀ y0 y1 y2 y3 y4 y5 y6 y7, LeO (spec_nameAt.l0 k y0 y1 y2 y3 y4 y5 y6 y7) (spec_nameAt.l0 (k + 1) y0 y1 y2 y3 y4 y5 y6 y7))
 | 0 => fun _ _ _ _ _ _ _ _ r h => by simp [spec_nameAt.l0] at h
 | k + 1 => by
  have ih0 := spec_nameAt.mono_l k
  ·intro y0 y1 y2 y3 y4 y5 y6 y7
   unfold spec_nameAt.l0
   repeat' first
   | (with_reducible exact ih0 _ _ _ _ _ _ _ _)
   | (with_reducible exact LeO.refl _)
   | (with_reducible exact LeO.none _)
   | (with_reducible refine LeO.ite ?_ ?_)
   | (with_reducible refine LeO.bind ?_ (fun _ => ?_))
   | refine LeO.ite ?_ ?_
   | refine LeO.bind ?_ (fun _ => ?_)
theorem spec_nameAt.mono : ∀ a0 a1 a2 a3 a4 a5 a6 k, LeO (spec_nameAt.f k a0 a1 a2 a3 a4 a5 a6) (spec_nameAt.f (k + 1) a0 a1 a2 a3 a4 a5 a6) := by
 intro a0 a1 a2 a3 a4 a5 a6 k
 have ih0 := spec_nameAt.mono_l k
 unfold spec_nameAt.f
 repeat' first
   | (with_reducible exact ih0 _ _ _ _ _ _ _ _)
   | (with_reducible exact LeO.refl _)
   | (with_reducible exact LeO.none _)
   | (with_reducible refine LeO.ite ?_ ?_)
   | (with_reducible refine LeO.bind ?_ (fun _ => ?_))
   | refine LeO.ite ?_ ?_
   | refine LeO.bind ?_ (fun _ => ?_)
set_option maxHeartbeats 8000000 in
set_option maxRecDepth 100000 in
theorem spec_nameAt.calls (k : Nat) (g : Nat) (s0_0 : ByteArray) (s0_1 : Int) (s0_2 : ByteArray) (s0_3 : ByteArray) (s0_4 : List ByteArray) (s0_5 : List ByteArray) (s0_6 : Bool) (r1 : ByteArray) (r2 : ByteArray) (r3 : Int) (r4 : ByteArray) (r5 : ByteArray) (r6 : Bool) (w0 w : World) (hI : IsS72 w0 w g s0_0 s0_1 s0_2 s0_3 s0_4 s0_5 s0_6) (hB : Below w0.heap.size w0 w) (h : spec_nameAt.f k s0_0 s0_1 s0_2 s0_3 s0_4 s0_5 s0_6 = some (r1, r2, r3, r4, r5, r6)) :
  Calls Try.prog 99 #[.pointer (some ⟨g, 0, none⟩)] w fun e w' => e = .returned (.string r1) ∧ IsS72 w0 w' g r2 r3 r4 r5 s0_4 s0_5 r6 ∧ Below w0.heap.size w0 w' ∧ KeepBut w w' g none := by
 have HI0 := Aside0.mk hI; have HK := Aside0.mk (KeepBut.refl w g none); have HL := Aside0.mk hB.size; clear hI; have HW0 := Aside0.mk hB.size; have HB := Aside0.mk hB; clear hB
 have H : (spec_nameAt.l0 k s0_1 s0_0 s0_1 s0_2 s0_3 s0_4 s0_5 s0_6) = some (r1, r2, r3, r4, r5, r6) := h
 clear h; have H' := Aside0.mk H; clear H
 obtain ⟨ASz2_4, cSz2_4, ASz2_5, cSz2_5, HGz2, hgz2, HSz2_4, HSz2_5⟩ := HI0.out
 have hcz2_0 := cellS72_0 HGz2; have hcz2_1 := cellS72_1 HGz2; have hcz2_2 := cellS72_2 HGz2; have hcz2_3 := cellS72_3 HGz2; have hcz2_4 := cellS72_4 HGz2; have hcz2_5 := cellS72_5 HGz2; have hcz2_6 := cellS72_6 HGz2; have hfz2_0 := blk_frozen HGz2 0; have hfz2_1 := blk_frozen HGz2 1; have hfz2_2 := blk_frozen HGz2 2; have hfz2_3 := blk_frozen HGz2 3; have hfz2_6 := blk_frozen HGz2 6; clear HGz2 hgz2
 go_enter Try.func99, Try.ntmps99
 go_wp2
 repeat (go_quiet (fail); try go_wp2)
 go_loopg [] k (fun kq w' => ∃ (x1001_1 : Int), Aside0 (spec_nameAt.l0 kq s0_1 s0_0 x1001_1 s0_2 s0_3 s0_4 s0_5 s0_6 = some (r1, r2, r3, r4, r5, r6)) ∧ Aside0 (kq ≤ k) ∧ Aside0 (IsS72 w0 w' g s0_0 x1001_1 s0_2 s0_3 s0_4 s0_5 s0_6) ∧ Aside0 (KeepBut w w' g none) ∧ Aside0 (Below w0.heap.size w0 w'))
 case atStart => exact ⟨(s0_1), H', ⟨Nat.le_refl _⟩, ⟨by repeat (first | (with_reducible first | exact HI0.out | apply IsS72.alloc | apply IsS72.drewN | apply IsS72.drew | apply IsS72.set_0 | apply IsS72.set_1 | apply IsS72.set_2 | apply IsS72.set_3 | apply IsS72.set_6) | exact HI0.out)⟩, ⟨by repeat (first | (with_reducible first | exact HK.out | apply KeepBut.set_ | apply keep_drewN | apply keep_drew | apply keep_alloc) | exact HK.out)⟩, ⟨by repeat (first | (with_reducible first | exact HB.out | apply below_alloc | apply pw_below_drewN | apply below_drew1 | refine below_set ?_ (IsS72.ge HI0.out)) | exact HB.out)⟩⟩
 case round =>
  clear H'; try clear p2; try clear hcz2_0; try clear hcz2_1; try clear hcz2_2; try clear hcz2_3; try clear hcz2_4; try clear hcz2_5; try clear hcz2_6; try clear hfz2_0; try clear hfz2_1; try clear hfz2_2; try clear hfz2_3; try clear hfz2_6
  obtain ⟨x1001_1, HA, HK1, HI0, HK, HB⟩ := hrel
  cases gk with
  | zero => exact absurd HA.out (by simp [spec_nameAt.l0])
  | succ k1 =>
   have H := HA.out; clear HA
   simp only [spec_nameAt.l0] at H
   by_cases c3 : x1001_1 < (s0_0.size : Int)
   ·rw [if_pos c3] at H
    have c3b0 : decide (x1001_1 < (s0_0.size : Int)) = true := decide_eq_true c3
    clear c3
    by_cases c4 : 0 ≤ x1001_1
    ·rw [if_pos c4] at H
     have c4b0 : decide (0 ≤ x1001_1) = true := decide_eq_true c4
     clear c4
     by_cases c6 : (bt s0_0 x1001_1) ≥ 97
     ·rw [if_pos c6] at H
      have c6b0 : decide (97 ≤ (bt s0_0 x1001_1)) = true := decide_eq_true c6
      clear c6
      by_cases c8 : (bt s0_0 x1001_1) ≤ 122
      ·rw [if_pos c8] at H
       have c8b0 : decide ((bt s0_0 x1001_1) ≤ 122) = true := decide_eq_true c8
       clear c8; have H' := Aside0.mk H; clear H
       obtain ⟨ASz9_4, cSz9_4, ASz9_5, cSz9_5, HGz9, hgz9, HSz9_4, HSz9_5⟩ := HI0.out
       have hcz9_0 := cellS72_0 HGz9; have hcz9_1 := cellS72_1 HGz9; have hcz9_2 := cellS72_2 HGz9; have hcz9_3 := cellS72_3 HGz9; have hcz9_4 := cellS72_4 HGz9; have hcz9_5 := cellS72_5 HGz9; have hcz9_6 := cellS72_6 HGz9; have hfz9_0 := blk_frozen HGz9 0; have hfz9_1 := blk_frozen HGz9 1; have hfz9_2 := blk_frozen HGz9 2; have hfz9_3 := blk_frozen HGz9 3; have hfz9_6 := blk_frozen HGz9 6; clear HGz9 hgz9
       have p5 : 0 ≤ (x1001_1 : Int) := of_decide_eq_true (by first | (with_reducible assumption) | assumption)
       have q5 : x1001_1 < (s0_0.size : Int) := of_decide_eq_true (by first | (with_reducible assumption) | assumption)
       have hx5 := bt_at s0_0 x1001_1
       replace p5 := eq_true p5
       replace q5 := eq_true q5
       have p7 : 0 ≤ (x1001_1 : Int) := of_decide_eq_true (by first | (with_reducible assumption) | assumption)
       have q7 : x1001_1 < (s0_0.size : Int) := of_decide_eq_true (by first | (with_reducible assumption) | assumption)
       have hx7 := bt_at s0_0 x1001_1
       replace p7 := eq_true p7
       replace q7 := eq_true q7
       go_wp2
       repeat (go_quiet (fail); try go_wp2)
       go_roundg k1
       case measure => have := HK1.out; omega
       case rel => exact ⟨(wrap64 (x1001_1 + 1)), H', ⟨by have := HK1.out; omega⟩, ⟨by repeat (first | (with_reducible first | exact HI0.out | apply IsS72.alloc | apply IsS72.drewN | apply IsS72.drew | apply IsS72.set_0 | apply IsS72.set_1 | apply IsS72.set_2 | apply IsS72.set_3 | apply IsS72.set_6) | exact HI0.out)⟩, ⟨by repeat (first | (with_reducible first | exact HK.out | apply KeepBut.set_ | apply keep_drewN | apply keep_drew | apply keep_alloc) | exact HK.out)⟩, ⟨by repeat (first | (with_reducible first | exact HB.out | apply below_alloc | apply pw_below_drewN | apply below_drew1 | refine below_set ?_ (IsS72.ge HI0.out)) | exact HB.out)⟩⟩
      ·rw [if_neg c8] at H
       have c8b0 : decide ((bt s0_0 x1001_1) ≤ 122) = false := decide_eq_false c8
       clear c8
       by_cases c10 : 0 ≤ s0_1
       ·rw [if_pos c10] at H
        have c10b0 := eq_true c10
        have c10b1 : decide (0 ≤ s0_1) = true := decide_eq_true c10
        clear c10
        by_cases c11 : s0_1 ≤ x1001_1
        ·rw [if_pos c11] at H
         have c11b0 := eq_true c11
         have c11b1 : decide (s0_1 ≤ x1001_1) = true := decide_eq_true c11
         clear c11
         by_cases c12 : x1001_1 ≤ (s0_0.size : Int)
         ·rw [if_pos c12] at H
          have c12b0 := eq_true c12
          have c12b1 : decide (x1001_1 ≤ (s0_0.size : Int)) = true := decide_eq_true c12
          clear c12
          simp only [Option.some.injEq, Prod.mk.injEq] at H
          obtain ⟨rfl, rfl, rfl, rfl, rfl, rfl⟩ := H
          obtain ⟨ASz13_4, cSz13_4, ASz13_5, cSz13_5, HGz13, hgz13, HSz13_4, HSz13_5⟩ := HI0.out
          have hcz13_0 := cellS72_0 HGz13; have hcz13_1 := cellS72_1 HGz13; have hcz13_2 := cellS72_2 HGz13; have hcz13_3 := cellS72_3 HGz13; have hcz13_4 := cellS72_4 HGz13; have hcz13_5 := cellS72_5 HGz13; have hcz13_6 := cellS72_6 HGz13; have hfz13_0 := blk_frozen HGz13 0; have hfz13_1 := blk_frozen HGz13 1; have hfz13_2 := blk_frozen HGz13 2; have hfz13_3 := blk_frozen HGz13 3; have hfz13_6 := blk_frozen HGz13 6; clear HGz13 hgz13
          have p5 : 0 ≤ (x1001_1 : Int) := of_decide_eq_true (by first | (with_reducible assumption) | assumption)
          have q5 : x1001_1 < (s0_0.size : Int) := of_decide_eq_true (by first | (with_reducible assumption) | assumption)
          have hx5 := bt_at s0_0 x1001_1
          replace p5 := eq_true p5
          replace q5 := eq_true q5
          have p7 : 0 ≤ (x1001_1 : Int) := of_decide_eq_true (by first | (with_reducible assumption) | assumption)
          have q7 : x1001_1 < (s0_0.size : Int) := of_decide_eq_true (by first | (with_reducible assumption) | assumption)
          have hx7 := bt_at s0_0 x1001_1
          replace p7 := eq_true p7
          replace q7 := eq_true q7
          go_wp2
          repeat (go_quiet (fail); try go_wp2)
          go_ret
          exact ⟨by first | rfl | (simp [errW_none, errW_some] <;> rfl) | (simp [*, errW_none, errW_some] <;> rfl), by repeat (first | (with_reducible first | exact HI0.out | apply IsS72.alloc | apply IsS72.drewN | apply IsS72.drew | apply IsS72.set_0 | apply IsS72.set_1 | apply IsS72.set_2 | apply IsS72.set_3 | apply IsS72.set_6) | exact HI0.out), by repeat (first | (with_reducible first | exact HB.out | apply below_alloc | apply pw_below_drewN | apply below_drew1 | refine below_set ?_ (IsS72.ge HI0.out)) | exact HB.out), by repeat (first | (with_reducible first | exact HK.out | apply KeepBut.set_ | apply keep_drewN | apply keep_drew | apply keep_alloc) | exact HK.out)⟩
         ·rw [if_neg c12] at H
          exact absurd H (by simp)
        ·rw [if_neg c11] at H
         exact absurd H (by simp)
       ·rw [if_neg c10] at H
        exact absurd H (by simp)
     ·rw [if_neg c6] at H
      have c6b0 : decide (97 ≤ (bt s0_0 x1001_1)) = false := decide_eq_false c6
      clear c6
      by_cases c14 : 0 ≤ s0_1
      ·rw [if_pos c14] at H
       have c14b0 := eq_true c14
       have c14b1 : decide (0 ≤ s0_1) = true := decide_eq_true c14
       clear c14
       by_cases c15 : s0_1 ≤ x1001_1
       ·rw [if_pos c15] at H
        have c15b0 := eq_true c15
        have c15b1 : decide (s0_1 ≤ x1001_1) = true := decide_eq_true c15
        clear c15
        by_cases c16 : x1001_1 ≤ (s0_0.size : Int)
        ·rw [if_pos c16] at H
         have c16b0 := eq_true c16
         have c16b1 : decide (x1001_1 ≤ (s0_0.size : Int)) = true := decide_eq_true c16
         clear c16
         simp only [Option.some.injEq, Prod.mk.injEq] at H
         obtain ⟨rfl, rfl, rfl, rfl, rfl, rfl⟩ := H
         obtain ⟨ASz17_4, cSz17_4, ASz17_5, cSz17_5, HGz17, hgz17, HSz17_4, HSz17_5⟩ := HI0.out
         have hcz17_0 := cellS72_0 HGz17; have hcz17_1 := cellS72_1 HGz17; have hcz17_2 := cellS72_2 HGz17; have hcz17_3 := cellS72_3 HGz17; have hcz17_4 := cellS72_4 HGz17; have hcz17_5 := cellS72_5 HGz17; have hcz17_6 := cellS72_6 HGz17; have hfz17_0 := blk_frozen HGz17 0; have hfz17_1 := blk_frozen HGz17 1; have hfz17_2 := blk_frozen HGz17 2; have hfz17_3 := blk_frozen HGz17 3; have hfz17_6 := blk_frozen HGz17 6; clear HGz17 hgz17
         have p5 : 0 ≤ (x1001_1 : Int) := of_decide_eq_true (by first | (with_reducible assumption) | assumption)
         have q5 : x1001_1 < (s0_0.size : Int) := of_decide_eq_true (by first | (with_reducible assumption) | assumption)
         have hx5 := bt_at s0_0 x1001_1
         replace p5 := eq_true p5
         replace q5 := eq_true q5
         go_wp2
         repeat (go_quiet (fail); try go_wp2)
         go_ret
         exact ⟨by first | rfl | (simp [errW_none, errW_some] <;> rfl) | (simp [*, errW_none, errW_some] <;> rfl), by repeat (first | (with_reducible first | exact HI0.out | apply IsS72.alloc | apply IsS72.drewN | apply IsS72.drew | apply IsS72.set_0 | apply IsS72.set_1 | apply IsS72.set_2 | apply IsS72.set_3 | apply IsS72.set_6) | exact HI0.out), by repeat (first | (with_reducible first | exact HB.out | apply below_alloc | apply pw_below_drewN | apply below_drew1 | refine below_set ?_ (IsS72.ge HI0.out)) | exact HB.out), by repeat (first | (with_reducible first | exact HK.out | apply KeepBut.set_ | apply keep_drewN | apply keep_drew | apply keep_alloc) | exact HK.out)⟩
        ·rw [if_neg c16] at H
         exact absurd H (by simp)
       ·rw [if_neg c15] at H
        exact absurd H (by simp)
      ·rw [if_neg c14] at H
       exact absurd H (by simp)
    ·rw [if_neg c4] at H
     exact absurd H (by simp)
   ·rw [if_neg c3] at H
    have c3b0 : decide (x1001_1 < (s0_0.size : Int)) = false := decide_eq_false c3
    clear c3
    by_cases c18 : 0 ≤ s0_1
    ·rw [if_pos c18] at H
     have c18b0 := eq_true c18
     have c18b1 : decide (0 ≤ s0_1) = true := decide_eq_true c18
     clear c18
     by_cases c19 : s0_1 ≤ x1001_1
     ·rw [if_pos c19] at H
      have c19b0 := eq_true c19
      have c19b1 : decide (s0_1 ≤ x1001_1) = true := decide_eq_true c19
      clear c19
      by_cases c20 : x1001_1 ≤ (s0_0.size : Int)
      ·rw [if_pos c20] at H
       have c20b0 := eq_true c20
       have c20b1 : decide (x1001_1 ≤ (s0_0.size : Int)) = true := decide_eq_true c20
       clear c20
       simp only [Option.some.injEq, Prod.mk.injEq] at H
       obtain ⟨rfl, rfl, rfl, rfl, rfl, rfl⟩ := H
       obtain ⟨ASz21_4, cSz21_4, ASz21_5, cSz21_5, HGz21, hgz21, HSz21_4, HSz21_5⟩ := HI0.out
       have hcz21_0 := cellS72_0 HGz21; have hcz21_1 := cellS72_1 HGz21; have hcz21_2 := cellS72_2 HGz21; have hcz21_3 := cellS72_3 HGz21; have hcz21_4 := cellS72_4 HGz21; have hcz21_5 := cellS72_5 HGz21; have hcz21_6 := cellS72_6 HGz21; have hfz21_0 := blk_frozen HGz21 0; have hfz21_1 := blk_frozen HGz21 1; have hfz21_2 := blk_frozen HGz21 2; have hfz21_3 := blk_frozen HGz21 3; have hfz21_6 := blk_frozen HGz21 6; clear HGz21 hgz21
       go_wp2
       repeat (go_quiet (fail); try go_wp2)
       go_ret
       exact ⟨by first | rfl | (simp [errW_none, errW_some] <;> rfl) | (simp [*, errW_none, errW_some] <;> rfl), by repeat (first | (with_reducible first | exact HI0.out | apply IsS72.alloc | apply IsS72.drewN | apply IsS72.drew | apply IsS72.set_0 | apply IsS72.set_1 | apply IsS72.set_2 | apply IsS72.set_3 | apply IsS72.set_6) | exact HI0.out), by repeat (first | (with_reducible first | exact HB.out | apply below_alloc | apply pw_below_drewN | apply below_drew1 | refine below_set ?_ (IsS72.ge HI0.out)) | exact HB.out), by repeat (first | (with_reducible first | exact HK.out | apply KeepBut.set_ | apply keep_drewN | apply keep_drew | apply keep_alloc) | exact HK.out)⟩
      ·rw [if_neg c20] at H
       exact absurd H (by simp)
     ·rw [if_neg c19] at H
      exact absurd H (by simp)
    ·rw [if_neg c18] at H
     exact absurd H (by simp)

/-! ### spec_expr: function 68 -/
/-! #### spec.hasText, nothing asked of the capacity -/
set_option maxHeartbeats 8000000 in
set_option maxRecDepth 100000 in
theorem spec_hasText.callsX (k : Nat) (A0 : Option Addr) (c0 : Nat) (l0 : List ByteArray) (a1 : ByteArray) (r : Bool) (w : World) (hr0 : Kd.C Kd.string w A0 l0.length l0) (h : spec_hasText.f k l0 a1 = some r) :
  Calls Try.prog 67 #[.slice A0 l0.length c0, .string a1] w fun e w' => e = .returned (.bool r) ∧ Drawn0 w w' := by
 have HR0 := Aside0.mk hr0; clear hr0
 have H : (spec_hasText.l0 k l0 a1 0) = some r := h
 clear h; have H' := Aside0.mk H; clear H
 go_enter Try.func67, Try.ntmps67
 go_wp2
 go_loopg [5] k (fun kq v5 w' => ∃ (x5_1 : Int), v5 = .int .i64 x5_1 ∧ Aside0 (spec_hasText.l0 kq l0 a1 x5_1 = some r) ∧ Aside0 (kq ≤ k) ∧ Drawn0 w w')
 case atStart => exact ⟨(0), (by first | rfl | (simp; done) | (simp [*]; done)), H', ⟨Nat.le_refl _⟩, by repeat (first | exact Drawn0.refl _ | apply Drawn0.step)⟩
 case round =>
  clear H'; try clear p2
  obtain ⟨x5_1, rfl, HA, HK1, ⟨m1, rfl⟩⟩ := hrel
  cases gk with
  | zero => exact absurd HA.out (by simp [spec_hasText.l0])
  | succ k1 =>
   have H := HA.out; clear HA
   simp only [spec_hasText.l0] at H
   by_cases c3 : x5_1 < (l0.length : Int)
   ·rw [if_pos c3] at H
    have c3b0 : decide (x5_1 < (l0.length : Int)) = true := decide_eq_true c3
    clear c3
    by_cases c4 : 0 ≤ x5_1
    ·rw [if_pos c4] at H
     have c4b0 : decide (0 ≤ x5_1) = true := decide_eq_true c4
     clear c4
     by_cases c5 : (rdOf ByteArray.empty l0 x5_1).toList = a1.toList
     ·rw [if_pos c5] at H
      have c5b0 : ((rdOf ByteArray.empty l0 x5_1).toList == a1.toList) = true := beq_iff_eq.mpr c5
      have c5b1 : ((rdOf ByteArray.empty l0 x5_1).toList != a1.toList) = false := bne_eq_false_iff_eq.mpr c5
      clear c5
      obtain rfl := Option.some.inj H
      have p109 : 0 ≤ (x5_1 : Int) := of_decide_eq_true (by first | (with_reducible assumption) | assumption)
      have q109 : x5_1 < (l0.length : Int) := of_decide_eq_true (by first | (with_reducible assumption) | assumption)
      obtain ⟨ad109, e109, hx109_0⟩ := Kd.at_string HR0.out x5_1 p109 q109
      cases e109
      replace p109 := eq_true p109
      replace q109 := eq_true q109
      go_wp2
      go_ret
      exact ⟨by first | rfl | (simp; done) | (simp [*]; done), by repeat (first | exact Drawn0.refl _ | apply Drawn0.step)⟩
     ·rw [if_neg c5] at H
      have c5b0 : ((rdOf ByteArray.empty l0 x5_1).toList == a1.toList) = false := beq_eq_false_iff_ne.mpr c5
      have c5b1 : ((rdOf ByteArray.empty l0 x5_1).toList != a1.toList) = true := bne_iff_ne.mpr c5
      have H' := Aside0.mk H; clear H
      have p109 : 0 ≤ (x5_1 : Int) := of_decide_eq_true (by first | (with_reducible assumption) | assumption)
      have q109 : x5_1 < (l0.length : Int) := of_decide_eq_true (by first | (with_reducible assumption) | assumption)
      obtain ⟨ad109, e109, hx109_0⟩ := Kd.at_string HR0.out x5_1 p109 q109
      cases e109
      replace p109 := eq_true p109
      replace q109 := eq_true q109
      go_wp2
      go_roundg k1
      case measure => have := HK1.out; omega
      case rel => exact ⟨(wrap64 (x5_1 + 1)), (by first | rfl | (simp; done) | (simp [*]; done)), H', ⟨by have := HK1.out; omega⟩, by repeat (first | exact Drawn0.refl _ | apply Drawn0.step)⟩
    ·rw [if_neg c4] at H
     exact absurd H (by simp)
   ·rw [if_neg c3] at H
    have c3b0 : decide (x5_1 < (l0.length : Int)) = false := decide_eq_false c3
    clear c3
    obtain rfl := Option.some.inj H
    go_wp2
    go_ret
    exact ⟨by first | rfl | (simp; done) | (simp [*]; done), by repeat (first | exact Drawn0.refl _ | apply Drawn0.step)⟩
/-- A function of the scanner's state. -/
abbrev StF := ByteArray → Int → ByteArray → ByteArray → List ByteArray → List ByteArray → Bool → Option (Bool × ByteArray × Int × ByteArray × ByteArray × Bool)
/-- What factor's contract says, of F. -/
abbrev FacOk (F : StF) : Prop := ∀ (g : Nat) (s0_0 : ByteArray) (s0_1 : Int) (s0_2 : ByteArray) (s0_3 : ByteArray) (s0_4 : List ByteArray) (s0_5 : List ByteArray) (s0_6 : Bool) (r1 : Bool) (r2 : ByteArray) (r3 : Int) (r4 : ByteArray) (r5 : ByteArray) (r6 : Bool) (w0 w : World), IsS72 w0 w g s0_0 s0_1 s0_2 s0_3 s0_4 s0_5 s0_6 → Below w0.heap.size w0 w → F s0_0 s0_1 s0_2 s0_3 s0_4 s0_5 s0_6 = some (r1, r2, r3, r4, r5, r6) →
  Calls Try.prog 95 #[.pointer (some ⟨g, 0, none⟩)] w fun e w' => e = .returned (.bool r1) ∧ IsS72 w0 w' g r2 r3 r4 r5 s0_4 s0_5 r6 ∧ Below w0.heap.size w0 w' ∧ KeepBut w w' g none
abbrev LeF (F F' : StF) : Prop := ∀ a0 a1 a2 a3 a4 a5 a6, LeO (F a0 a1 a2 a3 a4 a5 a6) (F' a0 a1 a2 a3 a4 a5 a6)
/-! #### spec_term: function 83 -/
def spec_term.l0 (F : StF) : Nat → Bool → ByteArray → Int → ByteArray → ByteArray → List ByteArray → List ByteArray → Bool → Option (Bool × ByteArray × Int × ByteArray × ByteArray × Bool)
 | 0, _, _, _, _, _, _, _, _ => none
 | k + 1, x3, x1000, x1001, x1002, x1003, x1004, x1005, x1006 => if x1006 = true then ((spec_eat.f x1000 x1001 x1002 x1003 x1004 x1005 x1006 (⟨#[32, 97, 110, 100, 32]⟩ : ByteArray)).bind fun bt161 => (if bt161.1 = true then ((F bt161.2.1 bt161.2.2.1 bt161.2.2.2.1 bt161.2.2.2.2.1 x1004 x1005 bt161.2.2.2.2.2).bind fun bt167 => (if x3 = true then (spec_term.l0 F k bt167.1 bt167.2.1 bt167.2.2.1 bt167.2.2.2.1 bt167.2.2.2.2.1 x1004 x1005 bt167.2.2.2.2.2) else (spec_term.l0 F k false bt167.2.1 bt167.2.2.1 bt167.2.2.2.1 bt167.2.2.2.2.1 x1004 x1005 bt167.2.2.2.2.2))) else (some (x3, bt161.2.1, bt161.2.2.1, bt161.2.2.2.1, bt161.2.2.2.2.1, bt161.2.2.2.2.2)))) else (some (x3, x1000, x1001, x1002, x1003, x1006))
def spec_term.f (F : StF) (k : Nat) (s0_0 : ByteArray) (s0_1 : Int) (s0_2 : ByteArray) (s0_3 : ByteArray) (s0_4 : List ByteArray) (s0_5 : List ByteArray) (s0_6 : Bool) : Option (Bool × ByteArray × Int × ByteArray × ByteArray × Bool) := (F s0_0 s0_1 s0_2 s0_3 s0_4 s0_5 s0_6).bind fun bt155 => (spec_term.l0 F k bt155.1 bt155.2.1 bt155.2.2.1 bt155.2.2.2.1 bt155.2.2.2.2.1 s0_4 s0_5 bt155.2.2.2.2.2)
theorem spec_term.mono2_l {F F' : StF} (hF : LeF F F') : ∀ k, (∀ y0 y1 y2 y3 y4 y5 y6 y7, LeO (spec_term.l0 F k y0 y1 y2 y3 y4 y5 y6 y7) (spec_term.l0 F' (k + 1) y0 y1 y2 y3 y4 y5 y6 y7))
 | 0 => fun _ _ _ _ _ _ _ _ r h => by simp [spec_term.l0] at h
 | k + 1 => by
  have ih0 := spec_term.mono2_l hF k
  ·intro y0 y1 y2 y3 y4 y5 y6 y7
   unfold spec_term.l0
   repeat' first
   | (with_reducible exact ih0 _ _ _ _ _ _ _ _)
   | (with_reducible exact hF _ _ _ _ _ _ _)
   | (with_reducible exact LeO.refl _)
   | (with_reducible exact LeO.none _)
   | (with_reducible refine LeO.ite ?_ ?_)
   | (with_reducible refine LeO.bind ?_ (fun _ => ?_))
   | refine LeO.ite ?_ ?_
   | refine LeO.bind ?_ (fun _ => ?_)
theorem spec_term.mono2 {F F' : StF} (hF : LeF F F') : ∀ a0 a1 a2 a3 a4 a5 a6 k, LeO (spec_term.f F k a0 a1 a2 a3 a4 a5 a6) (spec_term.f F' (k + 1) a0 a1 a2 a3 a4 a5 a6) := by
 intro a0 a1 a2 a3 a4 a5 a6 k
 have ih0 := spec_term.mono2_l hF k
 unfold spec_term.f
 repeat' first
   | (with_reducible exact ih0 _ _ _ _ _ _ _ _)
   | (with_reducible exact hF _ _ _ _ _ _ _)
   | (with_reducible exact LeO.refl _)
   | (with_reducible exact LeO.none _)
   | (with_reducible refine LeO.ite ?_ ?_)
   | (with_reducible refine LeO.bind ?_ (fun _ => ?_))
   | refine LeO.ite ?_ ?_
   | refine LeO.bind ?_ (fun _ => ?_)
set_option maxHeartbeats 8000000 in
set_option maxRecDepth 100000 in
theorem spec_term.calls2 (F : StF) (HF : Aside0 (FacOk F)) (k : Nat) (g : Nat) (s0_0 : ByteArray) (s0_1 : Int) (s0_2 : ByteArray) (s0_3 : ByteArray) (s0_4 : List ByteArray) (s0_5 : List ByteArray) (s0_6 : Bool) (r1 : Bool) (r2 : ByteArray) (r3 : Int) (r4 : ByteArray) (r5 : ByteArray) (r6 : Bool) (w0 w : World) (hI : IsS72 w0 w g s0_0 s0_1 s0_2 s0_3 s0_4 s0_5 s0_6) (hB : Below w0.heap.size w0 w) (h : spec_term.f F k s0_0 s0_1 s0_2 s0_3 s0_4 s0_5 s0_6 = some (r1, r2, r3, r4, r5, r6)) :
  Calls Try.prog 83 #[.pointer (some ⟨g, 0, none⟩)] w fun e w' => e = .returned (.bool r1) ∧ IsS72 w0 w' g r2 r3 r4 r5 s0_4 s0_5 r6 ∧ Below w0.heap.size w0 w' ∧ KeepBut w w' g none := by
 have HI0 := Aside0.mk hI; have HK := Aside0.mk (KeepBut.refl w g none); have HL := Aside0.mk hB.size; clear hI; have HW0 := Aside0.mk hB.size; have HB := Aside0.mk hB; clear hB
 have H : ((F s0_0 s0_1 s0_2 s0_3 s0_4 s0_5 s0_6).bind fun bt155 => (spec_term.l0 F k bt155.1 bt155.2.1 bt155.2.2.1 bt155.2.2.2.1 bt155.2.2.2.2.1 s0_4 s0_5 bt155.2.2.2.2.2)) = some (r1, r2, r3, r4, r5, r6) := h
 clear h
 replace H := Option.bind_eq_some_iff.mp H
 obtain ⟨⟨t155, t156, t157, t158, t159, t160⟩, A20, H⟩ := H
 replace H : (spec_term.l0 F k t155 t156 t157 t158 t159 s0_4 s0_5 t160) = some (r1, r2, r3, r4, r5, r6) := H
 have A2 := Aside0.mk A20; clear A20; have H' := Aside0.mk H; clear H
 go_enter Try.func83, Try.ntmps83
 go_wp2_with (first | ((with_reducible refine gate_callee (f := 95) rfl ?_); refine goesL_ (some 6) rfl rfl Try.func95 (by kernel_rfl) rfl #[.pointer (some ⟨g, 0, none⟩)] rfl (by (try simp only [List.map_toArray, List.map_cons, List.map_nil]); first | done | rfl) ?_; (with_reducible refine (HF.out g s0_0 s0_1 s0_2 s0_3 s0_4 s0_5 s0_6 t155 t156 t157 t158 t159 t160 w0 _ ?side1 ?side2 A2.out).mono ?_); (case side1 => repeat (first | (with_reducible first | exact HI0.out | apply IsS72.alloc | apply IsS72.drewN | apply IsS72.drew | apply IsS72.set_0 | apply IsS72.set_1 | apply IsS72.set_2 | apply IsS72.set_3 | apply IsS72.set_6) | exact HI0.out)); (case side2 => repeat (first | (with_reducible first | exact HB.out | apply below_alloc | apply pw_below_drewN | apply below_drew1 | refine below_set ?_ (IsS72.ge HI0.out)) | exact HB.out)); rintro e w3 ⟨rfl, hi, hb, hk⟩; refine ⟨_, rfl, ?_⟩; replace HK := Aside0.mk (KeepBut.trans (by repeat first | (with_reducible first | exact HK.out | apply KeepBut.set_ | apply keep_drewN | apply keep_drew | apply keep_alloc) | exact HK.out) hk (.inl rfl)); replace HB := Aside0.mk (hb); replace HI0 := Aside0.mk (hi); (try clear hb); (try clear hk); (try clear hi)))
 go_loopg [3] k (fun kq v3 w' => ∃ (x3_1 : Bool) (x1000_1 : ByteArray) (x1001_1 : Int) (x1002_1 : ByteArray) (x1003_1 : ByteArray) (x1006_1 : Bool), v3 = .bool x3_1 ∧ Aside0 (spec_term.l0 F kq x3_1 x1000_1 x1001_1 x1002_1 x1003_1 s0_4 s0_5 x1006_1 = some (r1, r2, r3, r4, r5, r6)) ∧ Aside0 (kq ≤ k) ∧ Aside0 (IsS72 w0 w' g x1000_1 x1001_1 x1002_1 x1003_1 s0_4 s0_5 x1006_1) ∧ Aside0 (KeepBut w w' g none) ∧ Aside0 (Below w0.heap.size w0 w'))
 case atStart => exact ⟨(t155), (t156), (t157), (t158), (t159), (t160), (by first | rfl | (simp; done) | (simp [*]; done)), H', ⟨Nat.le_refl _⟩, ⟨by repeat (first | (with_reducible first | exact HI0.out | apply IsS72.alloc | apply IsS72.drewN | apply IsS72.drew | apply IsS72.set_0 | apply IsS72.set_1 | apply IsS72.set_2 | apply IsS72.set_3 | apply IsS72.set_6) | exact HI0.out)⟩, ⟨by repeat (first | (with_reducible first | exact HK.out | apply KeepBut.set_ | apply keep_drewN | apply keep_drew | apply keep_alloc) | exact HK.out)⟩, ⟨by repeat (first | (with_reducible first | exact HB.out | apply below_alloc | apply pw_below_drewN | apply below_drew1 | refine below_set ?_ (IsS72.ge HI0.out)) | exact HB.out)⟩⟩
 case round =>
  clear H'; try clear p2
  obtain ⟨x3_1, x1000_1, x1001_1, x1002_1, x1003_1, x1006_1, rfl, HA, HK1, HI0, HK, HB⟩ := hrel
  cases gk with
  | zero => exact absurd HA.out (by simp [spec_term.l0])
  | succ k1 =>
   have H := HA.out; clear HA
   simp only [spec_term.l0] at H
   by_cases c4 : x1006_1 = true
   ·subst c4
    have H1 : ((spec_eat.f x1000_1 x1001_1 x1002_1 x1003_1 s0_4 s0_5 true (⟨#[32, 97, 110, 100, 32]⟩ : ByteArray)).bind fun bt161 => (if bt161.1 = true then ((F bt161.2.1 bt161.2.2.1 bt161.2.2.2.1 bt161.2.2.2.2.1 s0_4 s0_5 bt161.2.2.2.2.2).bind fun bt167 => (if x3_1 = true then (spec_term.l0 F k1 bt167.1 bt167.2.1 bt167.2.2.1 bt167.2.2.2.1 bt167.2.2.2.2.1 s0_4 s0_5 bt167.2.2.2.2.2) else (spec_term.l0 F k1 false bt167.2.1 bt167.2.2.1 bt167.2.2.2.1 bt167.2.2.2.2.1 s0_4 s0_5 bt167.2.2.2.2.2))) else (some (x3_1, bt161.2.1, bt161.2.2.1, bt161.2.2.2.1, bt161.2.2.2.2.1, bt161.2.2.2.2.2)))) = some (r1, r2, r3, r4, r5, r6) := by rw [if_pos rfl] at H; exact H
    clear H; have H := H1; clear H1
    replace H := Option.bind_eq_some_iff.mp H
    obtain ⟨⟨t161, t162, t163, t164, t165, t166⟩, A50, H⟩ := H
    replace H : (if t161 = true then ((F t162 t163 t164 t165 s0_4 s0_5 t166).bind fun bt167 => (if x3_1 = true then (spec_term.l0 F k1 bt167.1 bt167.2.1 bt167.2.2.1 bt167.2.2.2.1 bt167.2.2.2.2.1 s0_4 s0_5 bt167.2.2.2.2.2) else (spec_term.l0 F k1 false bt167.2.1 bt167.2.2.1 bt167.2.2.2.1 bt167.2.2.2.2.1 s0_4 s0_5 bt167.2.2.2.2.2))) else (some (x3_1, t162, t163, t164, t165, t166))) = some (r1, r2, r3, r4, r5, r6) := H
    have A5 := Aside0.mk A50; clear A50
    by_cases c6 : t161 = true
    ·subst c6
     have H1 : ((F t162 t163 t164 t165 s0_4 s0_5 t166).bind fun bt167 => (if x3_1 = true then (spec_term.l0 F k1 bt167.1 bt167.2.1 bt167.2.2.1 bt167.2.2.2.1 bt167.2.2.2.2.1 s0_4 s0_5 bt167.2.2.2.2.2) else (spec_term.l0 F k1 false bt167.2.1 bt167.2.2.1 bt167.2.2.2.1 bt167.2.2.2.2.1 s0_4 s0_5 bt167.2.2.2.2.2))) = some (r1, r2, r3, r4, r5, r6) := by rw [if_pos rfl] at H; exact H
     clear H; have H := H1; clear H1
     replace H := Option.bind_eq_some_iff.mp H
     obtain ⟨⟨t167, t168, t169, t170, t171, t172⟩, A70, H⟩ := H
     replace H : (if x3_1 = true then (spec_term.l0 F k1 t167 t168 t169 t170 t171 s0_4 s0_5 t172) else (spec_term.l0 F k1 false t168 t169 t170 t171 s0_4 s0_5 t172)) = some (r1, r2, r3, r4, r5, r6) := H
     have A7 := Aside0.mk A70; clear A70
     by_cases c8 : x3_1 = true
     ·subst c8
      have H1 : (spec_term.l0 F k1 t167 t168 t169 t170 t171 s0_4 s0_5 t172) = some (r1, r2, r3, r4, r5, r6) := by rw [if_pos rfl] at H; exact H
      clear H; have H := H1; clear H1; have H' := Aside0.mk H; clear H
      obtain ⟨ASz9_4, cSz9_4, ASz9_5, cSz9_5, HGz9, hgz9, HSz9_4, HSz9_5⟩ := HI0.out
      have hcz9_0 := cellS72_0 HGz9; have hcz9_1 := cellS72_1 HGz9; have hcz9_2 := cellS72_2 HGz9; have hcz9_3 := cellS72_3 HGz9; have hcz9_4 := cellS72_4 HGz9; have hcz9_5 := cellS72_5 HGz9; have hcz9_6 := cellS72_6 HGz9; have hfz9_0 := blk_frozen HGz9 0; have hfz9_1 := blk_frozen HGz9 1; have hfz9_2 := blk_frozen HGz9 2; have hfz9_3 := blk_frozen HGz9 3; have hfz9_6 := blk_frozen HGz9 6; clear HGz9 hgz9
      go_wp2_with (first | (go_at_call 84; (with_reducible refine (spec_eat.calls g x1000_1 x1001_1 x1002_1 x1003_1 s0_4 s0_5 true (⟨#[32, 97, 110, 100, 32]⟩ : ByteArray) true t162 t163 t164 t165 t166 w0 _ ?side1 ?side2 A5.out).mono ?_); (case side1 => repeat (first | (with_reducible first | exact HI0.out | apply IsS72.alloc | apply IsS72.drewN | apply IsS72.drew | apply IsS72.set_0 | apply IsS72.set_1 | apply IsS72.set_2 | apply IsS72.set_3 | apply IsS72.set_6) | exact HI0.out)); (case side2 => repeat (first | (with_reducible first | exact HB.out | apply below_alloc | apply pw_below_drewN | apply below_drew1 | refine below_set ?_ (IsS72.ge HI0.out)) | exact HB.out)); rintro e w10 ⟨rfl, hi, hb, hk⟩; replace HK := Aside0.mk (KeepBut.trans (by repeat first | (with_reducible first | exact HK.out | apply KeepBut.set_ | apply keep_drewN | apply keep_drew | apply keep_alloc) | exact HK.out) hk (.inl rfl)); replace HB := Aside0.mk (hb); replace HI0 := Aside0.mk (hi); (try clear hb); (try clear hk); (try clear hi)) | ((with_reducible refine gate_callee (f := 95) rfl ?_); refine goesL_ (some 16) rfl rfl Try.func95 (by kernel_rfl) rfl #[.pointer (some ⟨g, 0, none⟩)] rfl (by (try simp only [List.map_toArray, List.map_cons, List.map_nil]); first | done | rfl) ?_; (with_reducible refine (HF.out g t162 t163 t164 t165 s0_4 s0_5 t166 t167 t168 t169 t170 t171 t172 w0 _ ?side1 ?side2 A7.out).mono ?_); (case side1 => repeat (first | (with_reducible first | exact HI0.out | apply IsS72.alloc | apply IsS72.drewN | apply IsS72.drew | apply IsS72.set_0 | apply IsS72.set_1 | apply IsS72.set_2 | apply IsS72.set_3 | apply IsS72.set_6) | exact HI0.out)); (case side2 => repeat (first | (with_reducible first | exact HB.out | apply below_alloc | apply pw_below_drewN | apply below_drew1 | refine below_set ?_ (IsS72.ge HI0.out)) | exact HB.out)); rintro e w11 ⟨rfl, hi, hb, hk⟩; refine ⟨_, rfl, ?_⟩; replace HK := Aside0.mk (KeepBut.trans (by repeat first | (with_reducible first | exact HK.out | apply KeepBut.set_ | apply keep_drewN | apply keep_drew | apply keep_alloc) | exact HK.out) hk (.inl rfl)); replace HB := Aside0.mk (hb); replace HI0 := Aside0.mk (hi); (try clear hb); (try clear hk); (try clear hi)))
      go_roundg k1
      case measure => have := HK1.out; omega
      case rel => exact ⟨(t167), (t168), (t169), (t170), (t171), (t172), (by first | rfl | (simp; done) | (simp [*]; done)), H', ⟨by have := HK1.out; omega⟩, ⟨by repeat (first | (with_reducible first | exact HI0.out | apply IsS72.alloc | apply IsS72.drewN | apply IsS72.drew | apply IsS72.set_0 | apply IsS72.set_1 | apply IsS72.set_2 | apply IsS72.set_3 | apply IsS72.set_6) | exact HI0.out)⟩, ⟨by repeat (first | (with_reducible first | exact HK.out | apply KeepBut.set_ | apply keep_drewN | apply keep_drew | apply keep_alloc) | exact HK.out)⟩, ⟨by repeat (first | (with_reducible first | exact HB.out | apply below_alloc | apply pw_below_drewN | apply below_drew1 | refine below_set ?_ (IsS72.ge HI0.out)) | exact HB.out)⟩⟩
     ·replace c8 := Bool.eq_false_iff.mpr c8
      subst c8
      have H1 : (spec_term.l0 F k1 false t168 t169 t170 t171 s0_4 s0_5 t172) = some (r1, r2, r3, r4, r5, r6) := by rw [if_neg (show ¬ (false = true) by decide)] at H; exact H
      clear H; have H := H1; clear H1; have H' := Aside0.mk H; clear H
      obtain ⟨ASz12_4, cSz12_4, ASz12_5, cSz12_5, HGz12, hgz12, HSz12_4, HSz12_5⟩ := HI0.out
      have hcz12_0 := cellS72_0 HGz12; have hcz12_1 := cellS72_1 HGz12; have hcz12_2 := cellS72_2 HGz12; have hcz12_3 := cellS72_3 HGz12; have hcz12_4 := cellS72_4 HGz12; have hcz12_5 := cellS72_5 HGz12; have hcz12_6 := cellS72_6 HGz12; have hfz12_0 := blk_frozen HGz12 0; have hfz12_1 := blk_frozen HGz12 1; have hfz12_2 := blk_frozen HGz12 2; have hfz12_3 := blk_frozen HGz12 3; have hfz12_6 := blk_frozen HGz12 6; clear HGz12 hgz12
      go_wp2_with (first | (go_at_call 84; (with_reducible refine (spec_eat.calls g x1000_1 x1001_1 x1002_1 x1003_1 s0_4 s0_5 true (⟨#[32, 97, 110, 100, 32]⟩ : ByteArray) true t162 t163 t164 t165 t166 w0 _ ?side1 ?side2 A5.out).mono ?_); (case side1 => repeat (first | (with_reducible first | exact HI0.out | apply IsS72.alloc | apply IsS72.drewN | apply IsS72.drew | apply IsS72.set_0 | apply IsS72.set_1 | apply IsS72.set_2 | apply IsS72.set_3 | apply IsS72.set_6) | exact HI0.out)); (case side2 => repeat (first | (with_reducible first | exact HB.out | apply below_alloc | apply pw_below_drewN | apply below_drew1 | refine below_set ?_ (IsS72.ge HI0.out)) | exact HB.out)); rintro e w13 ⟨rfl, hi, hb, hk⟩; replace HK := Aside0.mk (KeepBut.trans (by repeat first | (with_reducible first | exact HK.out | apply KeepBut.set_ | apply keep_drewN | apply keep_drew | apply keep_alloc) | exact HK.out) hk (.inl rfl)); replace HB := Aside0.mk (hb); replace HI0 := Aside0.mk (hi); (try clear hb); (try clear hk); (try clear hi)) | ((with_reducible refine gate_callee (f := 95) rfl ?_); refine goesL_ (some 16) rfl rfl Try.func95 (by kernel_rfl) rfl #[.pointer (some ⟨g, 0, none⟩)] rfl (by (try simp only [List.map_toArray, List.map_cons, List.map_nil]); first | done | rfl) ?_; (with_reducible refine (HF.out g t162 t163 t164 t165 s0_4 s0_5 t166 t167 t168 t169 t170 t171 t172 w0 _ ?side1 ?side2 A7.out).mono ?_); (case side1 => repeat (first | (with_reducible first | exact HI0.out | apply IsS72.alloc | apply IsS72.drewN | apply IsS72.drew | apply IsS72.set_0 | apply IsS72.set_1 | apply IsS72.set_2 | apply IsS72.set_3 | apply IsS72.set_6) | exact HI0.out)); (case side2 => repeat (first | (with_reducible first | exact HB.out | apply below_alloc | apply pw_below_drewN | apply below_drew1 | refine below_set ?_ (IsS72.ge HI0.out)) | exact HB.out)); rintro e w14 ⟨rfl, hi, hb, hk⟩; refine ⟨_, rfl, ?_⟩; replace HK := Aside0.mk (KeepBut.trans (by repeat first | (with_reducible first | exact HK.out | apply KeepBut.set_ | apply keep_drewN | apply keep_drew | apply keep_alloc) | exact HK.out) hk (.inl rfl)); replace HB := Aside0.mk (hb); replace HI0 := Aside0.mk (hi); (try clear hb); (try clear hk); (try clear hi)))
      go_roundg k1
      case measure => have := HK1.out; omega
      case rel => exact ⟨(false), (t168), (t169), (t170), (t171), (t172), (by first | rfl | (simp; done) | (simp [*]; done)), H', ⟨by have := HK1.out; omega⟩, ⟨by repeat (first | (with_reducible first | exact HI0.out | apply IsS72.alloc | apply IsS72.drewN | apply IsS72.drew | apply IsS72.set_0 | apply IsS72.set_1 | apply IsS72.set_2 | apply IsS72.set_3 | apply IsS72.set_6) | exact HI0.out)⟩, ⟨by repeat (first | (with_reducible first | exact HK.out | apply KeepBut.set_ | apply keep_drewN | apply keep_drew | apply keep_alloc) | exact HK.out)⟩, ⟨by repeat (first | (with_reducible first | exact HB.out | apply below_alloc | apply pw_below_drewN | apply below_drew1 | refine below_set ?_ (IsS72.ge HI0.out)) | exact HB.out)⟩⟩
    ·replace c6 := Bool.eq_false_iff.mpr c6
     subst c6
     have H1 : (some (x3_1, t162, t163, t164, t165, t166)) = some (r1, r2, r3, r4, r5, r6) := by rw [if_neg (show ¬ (false = true) by decide)] at H; exact H
     clear H; have H := H1; clear H1
     simp only [Option.some.injEq, Prod.mk.injEq] at H
     obtain ⟨rfl, rfl, rfl, rfl, rfl, rfl⟩ := H
     obtain ⟨ASz15_4, cSz15_4, ASz15_5, cSz15_5, HGz15, hgz15, HSz15_4, HSz15_5⟩ := HI0.out
     have hcz15_0 := cellS72_0 HGz15; have hcz15_1 := cellS72_1 HGz15; have hcz15_2 := cellS72_2 HGz15; have hcz15_3 := cellS72_3 HGz15; have hcz15_4 := cellS72_4 HGz15; have hcz15_5 := cellS72_5 HGz15; have hcz15_6 := cellS72_6 HGz15; have hfz15_0 := blk_frozen HGz15 0; have hfz15_1 := blk_frozen HGz15 1; have hfz15_2 := blk_frozen HGz15 2; have hfz15_3 := blk_frozen HGz15 3; have hfz15_6 := blk_frozen HGz15 6; clear HGz15 hgz15
     go_wp2_with (first | (go_at_call 84; (with_reducible refine (spec_eat.calls g x1000_1 x1001_1 x1002_1 x1003_1 s0_4 s0_5 true (⟨#[32, 97, 110, 100, 32]⟩ : ByteArray) false t162 t163 t164 t165 t166 w0 _ ?side1 ?side2 A5.out).mono ?_); (case side1 => repeat (first | (with_reducible first | exact HI0.out | apply IsS72.alloc | apply IsS72.drewN | apply IsS72.drew | apply IsS72.set_0 | apply IsS72.set_1 | apply IsS72.set_2 | apply IsS72.set_3 | apply IsS72.set_6) | exact HI0.out)); (case side2 => repeat (first | (with_reducible first | exact HB.out | apply below_alloc | apply pw_below_drewN | apply below_drew1 | refine below_set ?_ (IsS72.ge HI0.out)) | exact HB.out)); rintro e w16 ⟨rfl, hi, hb, hk⟩; replace HK := Aside0.mk (KeepBut.trans (by repeat first | (with_reducible first | exact HK.out | apply KeepBut.set_ | apply keep_drewN | apply keep_drew | apply keep_alloc) | exact HK.out) hk (.inl rfl)); replace HB := Aside0.mk (hb); replace HI0 := Aside0.mk (hi); (try clear hb); (try clear hk); (try clear hi)))
     go_ret
     exact ⟨by first | rfl | (simp [errW_none, errW_some] <;> rfl) | (simp [*, errW_none, errW_some] <;> rfl), by repeat (first | (with_reducible first | exact HI0.out | apply IsS72.alloc | apply IsS72.drewN | apply IsS72.drew | apply IsS72.set_0 | apply IsS72.set_1 | apply IsS72.set_2 | apply IsS72.set_3 | apply IsS72.set_6) | exact HI0.out), by repeat (first | (with_reducible first | exact HB.out | apply below_alloc | apply pw_below_drewN | apply below_drew1 | refine below_set ?_ (IsS72.ge HI0.out)) | exact HB.out), by repeat (first | (with_reducible first | exact HK.out | apply KeepBut.set_ | apply keep_drewN | apply keep_drew | apply keep_alloc) | exact HK.out)⟩
   ·replace c4 := Bool.eq_false_iff.mpr c4
    subst c4
    have H1 : (some (x3_1, x1000_1, x1001_1, x1002_1, x1003_1, false)) = some (r1, r2, r3, r4, r5, r6) := by rw [if_neg (show ¬ (false = true) by decide)] at H; exact H
    clear H; have H := H1; clear H1
    simp only [Option.some.injEq, Prod.mk.injEq] at H
    obtain ⟨rfl, rfl, rfl, rfl, rfl, rfl⟩ := H
    obtain ⟨ASz17_4, cSz17_4, ASz17_5, cSz17_5, HGz17, hgz17, HSz17_4, HSz17_5⟩ := HI0.out
    have hcz17_0 := cellS72_0 HGz17; have hcz17_1 := cellS72_1 HGz17; have hcz17_2 := cellS72_2 HGz17; have hcz17_3 := cellS72_3 HGz17; have hcz17_4 := cellS72_4 HGz17; have hcz17_5 := cellS72_5 HGz17; have hcz17_6 := cellS72_6 HGz17; have hfz17_0 := blk_frozen HGz17 0; have hfz17_1 := blk_frozen HGz17 1; have hfz17_2 := blk_frozen HGz17 2; have hfz17_3 := blk_frozen HGz17 3; have hfz17_6 := blk_frozen HGz17 6; clear HGz17 hgz17
    go_wp2
    go_ret
    exact ⟨by first | rfl | (simp [errW_none, errW_some] <;> rfl) | (simp [*, errW_none, errW_some] <;> rfl), by repeat (first | (with_reducible first | exact HI0.out | apply IsS72.alloc | apply IsS72.drewN | apply IsS72.drew | apply IsS72.set_0 | apply IsS72.set_1 | apply IsS72.set_2 | apply IsS72.set_3 | apply IsS72.set_6) | exact HI0.out), by repeat (first | (with_reducible first | exact HB.out | apply below_alloc | apply pw_below_drewN | apply below_drew1 | refine below_set ?_ (IsS72.ge HI0.out)) | exact HB.out), by repeat (first | (with_reducible first | exact HK.out | apply KeepBut.set_ | apply keep_drewN | apply keep_drew | apply keep_alloc) | exact HK.out)⟩
/-! #### spec_expr: function 68 -/
def spec_expr0.l0 (F : StF) : Nat → Bool → ByteArray → Int → ByteArray → ByteArray → List ByteArray → List ByteArray → Bool → Option (Bool × ByteArray × Int × ByteArray × ByteArray × Bool)
 | 0, _, _, _, _, _, _, _, _ => none
 | k + 1, x3, x1000, x1001, x1002, x1003, x1004, x1005, x1006 => if x1006 = true then ((spec_eat.f x1000 x1001 x1002 x1003 x1004 x1005 x1006 (⟨#[32, 111, 114, 32]⟩ : ByteArray)).bind fun bt179 => (if bt179.1 = true then ((spec_term.f F k bt179.2.1 bt179.2.2.1 bt179.2.2.2.1 bt179.2.2.2.2.1 x1004 x1005 bt179.2.2.2.2.2).bind fun bt185 => (if x3 = true then (spec_expr0.l0 F k true bt185.2.1 bt185.2.2.1 bt185.2.2.2.1 bt185.2.2.2.2.1 x1004 x1005 bt185.2.2.2.2.2) else (spec_expr0.l0 F k bt185.1 bt185.2.1 bt185.2.2.1 bt185.2.2.2.1 bt185.2.2.2.2.1 x1004 x1005 bt185.2.2.2.2.2))) else (some (x3, bt179.2.1, bt179.2.2.1, bt179.2.2.2.1, bt179.2.2.2.2.1, bt179.2.2.2.2.2)))) else (some (x3, x1000, x1001, x1002, x1003, x1006))
def spec_expr0.f (F : StF) (k : Nat) (s0_0 : ByteArray) (s0_1 : Int) (s0_2 : ByteArray) (s0_3 : ByteArray) (s0_4 : List ByteArray) (s0_5 : List ByteArray) (s0_6 : Bool) : Option (Bool × ByteArray × Int × ByteArray × ByteArray × Bool) := (spec_term.f F k s0_0 s0_1 s0_2 s0_3 s0_4 s0_5 s0_6).bind fun bt173 => (spec_expr0.l0 F k bt173.1 bt173.2.1 bt173.2.2.1 bt173.2.2.2.1 bt173.2.2.2.2.1 s0_4 s0_5 bt173.2.2.2.2.2)
theorem spec_expr0.mono2_l {F F' : StF} (hF : LeF F F') : ∀ k, (∀ y0 y1 y2 y3 y4 y5 y6 y7, LeO (spec_expr0.l0 F k y0 y1 y2 y3 y4 y5 y6 y7) (spec_expr0.l0 F' (k + 1) y0 y1 y2 y3 y4 y5 y6 y7))
 | 0 => fun _ _ _ _ _ _ _ _ r h => by simp [spec_expr0.l0] at h
 | k + 1 => by
  have ih0 := spec_expr0.mono2_l hF k
  ·intro y0 y1 y2 y3 y4 y5 y6 y7
   unfold spec_expr0.l0
   repeat' first
   | (with_reducible exact ih0 _ _ _ _ _ _ _ _)
   | (with_reducible exact spec_term.mono2 hF _ _ _ _ _ _ _ _)
   | (with_reducible exact LeO.refl _)
   | (with_reducible exact LeO.none _)
   | (with_reducible refine LeO.ite ?_ ?_)
   | (with_reducible refine LeO.bind ?_ (fun _ => ?_))
   | refine LeO.ite ?_ ?_
   | refine LeO.bind ?_ (fun _ => ?_)
theorem spec_expr0.mono2 {F F' : StF} (hF : LeF F F') : ∀ a0 a1 a2 a3 a4 a5 a6 k, LeO (spec_expr0.f F k a0 a1 a2 a3 a4 a5 a6) (spec_expr0.f F' (k + 1) a0 a1 a2 a3 a4 a5 a6) := by
 intro a0 a1 a2 a3 a4 a5 a6 k
 have ih0 := spec_expr0.mono2_l hF k
 unfold spec_expr0.f
 repeat' first
   | (with_reducible exact ih0 _ _ _ _ _ _ _ _)
   | (with_reducible exact spec_term.mono2 hF _ _ _ _ _ _ _ _)
   | (with_reducible exact LeO.refl _)
   | (with_reducible exact LeO.none _)
   | (with_reducible refine LeO.ite ?_ ?_)
   | (with_reducible refine LeO.bind ?_ (fun _ => ?_))
   | refine LeO.ite ?_ ?_
   | refine LeO.bind ?_ (fun _ => ?_)
set_option maxHeartbeats 8000000 in
set_option maxRecDepth 100000 in
theorem spec_expr0.calls2 (F : StF) (HF : Aside0 (FacOk F)) (k : Nat) (g : Nat) (s0_0 : ByteArray) (s0_1 : Int) (s0_2 : ByteArray) (s0_3 : ByteArray) (s0_4 : List ByteArray) (s0_5 : List ByteArray) (s0_6 : Bool) (r1 : Bool) (r2 : ByteArray) (r3 : Int) (r4 : ByteArray) (r5 : ByteArray) (r6 : Bool) (w0 w : World) (hI : IsS72 w0 w g s0_0 s0_1 s0_2 s0_3 s0_4 s0_5 s0_6) (hB : Below w0.heap.size w0 w) (h : spec_expr0.f F k s0_0 s0_1 s0_2 s0_3 s0_4 s0_5 s0_6 = some (r1, r2, r3, r4, r5, r6)) :
  Calls Try.prog 68 #[.pointer (some ⟨g, 0, none⟩)] w fun e w' => e = .returned (.bool r1) ∧ IsS72 w0 w' g r2 r3 r4 r5 s0_4 s0_5 r6 ∧ Below w0.heap.size w0 w' ∧ KeepBut w w' g none := by
 have HI0 := Aside0.mk hI; have HK := Aside0.mk (KeepBut.refl w g none); have HL := Aside0.mk hB.size; clear hI; have HW0 := Aside0.mk hB.size; have HB := Aside0.mk hB; clear hB
 have H : ((spec_term.f F k s0_0 s0_1 s0_2 s0_3 s0_4 s0_5 s0_6).bind fun bt173 => (spec_expr0.l0 F k bt173.1 bt173.2.1 bt173.2.2.1 bt173.2.2.2.1 bt173.2.2.2.2.1 s0_4 s0_5 bt173.2.2.2.2.2)) = some (r1, r2, r3, r4, r5, r6) := h
 clear h
 replace H := Option.bind_eq_some_iff.mp H
 obtain ⟨⟨t173, t174, t175, t176, t177, t178⟩, A20, H⟩ := H
 replace H : (spec_expr0.l0 F k t173 t174 t175 t176 t177 s0_4 s0_5 t178) = some (r1, r2, r3, r4, r5, r6) := H
 have A2 := Aside0.mk A20; clear A20; have H' := Aside0.mk H; clear H
 go_enter Try.func68, Try.ntmps68
 go_wp2_with (first | ((with_reducible refine gate_callee (f := 83) rfl ?_); refine goesL_ (some 6) rfl rfl Try.func83 (by kernel_rfl) rfl #[.pointer (some ⟨g, 0, none⟩)] rfl (by (try simp only [List.map_toArray, List.map_cons, List.map_nil]); first | done | rfl) ?_; (with_reducible refine (spec_term.calls2 F HF k g s0_0 s0_1 s0_2 s0_3 s0_4 s0_5 s0_6 t173 t174 t175 t176 t177 t178 w0 _ ?side1 ?side2 A2.out).mono ?_); (case side1 => repeat (first | (with_reducible first | exact HI0.out | apply IsS72.alloc | apply IsS72.drewN | apply IsS72.drew | apply IsS72.set_0 | apply IsS72.set_1 | apply IsS72.set_2 | apply IsS72.set_3 | apply IsS72.set_6) | exact HI0.out)); (case side2 => repeat (first | (with_reducible first | exact HB.out | apply below_alloc | apply pw_below_drewN | apply below_drew1 | refine below_set ?_ (IsS72.ge HI0.out)) | exact HB.out)); rintro e w3 ⟨rfl, hi, hb, hk⟩; refine ⟨_, rfl, ?_⟩; replace HK := Aside0.mk (KeepBut.trans (by repeat first | (with_reducible first | exact HK.out | apply KeepBut.set_ | apply keep_drewN | apply keep_drew | apply keep_alloc) | exact HK.out) hk (.inl rfl)); replace HB := Aside0.mk (hb); replace HI0 := Aside0.mk (hi); (try clear hb); (try clear hk); (try clear hi)))
 go_loopg [3] k (fun kq v3 w' => ∃ (x3_1 : Bool) (x1000_1 : ByteArray) (x1001_1 : Int) (x1002_1 : ByteArray) (x1003_1 : ByteArray) (x1006_1 : Bool), v3 = .bool x3_1 ∧ Aside0 (spec_expr0.l0 F kq x3_1 x1000_1 x1001_1 x1002_1 x1003_1 s0_4 s0_5 x1006_1 = some (r1, r2, r3, r4, r5, r6)) ∧ Aside0 (kq ≤ k) ∧ Aside0 (IsS72 w0 w' g x1000_1 x1001_1 x1002_1 x1003_1 s0_4 s0_5 x1006_1) ∧ Aside0 (KeepBut w w' g none) ∧ Aside0 (Below w0.heap.size w0 w'))
 case atStart => exact ⟨(t173), (t174), (t175), (t176), (t177), (t178), (by first | rfl | (simp; done) | (simp [*]; done)), H', ⟨Nat.le_refl _⟩, ⟨by repeat (first | (with_reducible first | exact HI0.out | apply IsS72.alloc | apply IsS72.drewN | apply IsS72.drew | apply IsS72.set_0 | apply IsS72.set_1 | apply IsS72.set_2 | apply IsS72.set_3 | apply IsS72.set_6) | exact HI0.out)⟩, ⟨by repeat (first | (with_reducible first | exact HK.out | apply KeepBut.set_ | apply keep_drewN | apply keep_drew | apply keep_alloc) | exact HK.out)⟩, ⟨by repeat (first | (with_reducible first | exact HB.out | apply below_alloc | apply pw_below_drewN | apply below_drew1 | refine below_set ?_ (IsS72.ge HI0.out)) | exact HB.out)⟩⟩
 case round =>
  clear H'; try clear p2
  obtain ⟨x3_1, x1000_1, x1001_1, x1002_1, x1003_1, x1006_1, rfl, HA, HK1, HI0, HK, HB⟩ := hrel
  cases gk with
  | zero => exact absurd HA.out (by simp [spec_expr0.l0])
  | succ k1 =>
   have H := HA.out; clear HA
   simp only [spec_expr0.l0] at H
   by_cases c4 : x1006_1 = true
   ·subst c4
    have H1 : ((spec_eat.f x1000_1 x1001_1 x1002_1 x1003_1 s0_4 s0_5 true (⟨#[32, 111, 114, 32]⟩ : ByteArray)).bind fun bt179 => (if bt179.1 = true then ((spec_term.f F k1 bt179.2.1 bt179.2.2.1 bt179.2.2.2.1 bt179.2.2.2.2.1 s0_4 s0_5 bt179.2.2.2.2.2).bind fun bt185 => (if x3_1 = true then (spec_expr0.l0 F k1 true bt185.2.1 bt185.2.2.1 bt185.2.2.2.1 bt185.2.2.2.2.1 s0_4 s0_5 bt185.2.2.2.2.2) else (spec_expr0.l0 F k1 bt185.1 bt185.2.1 bt185.2.2.1 bt185.2.2.2.1 bt185.2.2.2.2.1 s0_4 s0_5 bt185.2.2.2.2.2))) else (some (x3_1, bt179.2.1, bt179.2.2.1, bt179.2.2.2.1, bt179.2.2.2.2.1, bt179.2.2.2.2.2)))) = some (r1, r2, r3, r4, r5, r6) := by rw [if_pos rfl] at H; exact H
    clear H; have H := H1; clear H1
    replace H := Option.bind_eq_some_iff.mp H
    obtain ⟨⟨t179, t180, t181, t182, t183, t184⟩, A50, H⟩ := H
    replace H : (if t179 = true then ((spec_term.f F k1 t180 t181 t182 t183 s0_4 s0_5 t184).bind fun bt185 => (if x3_1 = true then (spec_expr0.l0 F k1 true bt185.2.1 bt185.2.2.1 bt185.2.2.2.1 bt185.2.2.2.2.1 s0_4 s0_5 bt185.2.2.2.2.2) else (spec_expr0.l0 F k1 bt185.1 bt185.2.1 bt185.2.2.1 bt185.2.2.2.1 bt185.2.2.2.2.1 s0_4 s0_5 bt185.2.2.2.2.2))) else (some (x3_1, t180, t181, t182, t183, t184))) = some (r1, r2, r3, r4, r5, r6) := H
    have A5 := Aside0.mk A50; clear A50
    by_cases c6 : t179 = true
    ·subst c6
     have H1 : ((spec_term.f F k1 t180 t181 t182 t183 s0_4 s0_5 t184).bind fun bt185 => (if x3_1 = true then (spec_expr0.l0 F k1 true bt185.2.1 bt185.2.2.1 bt185.2.2.2.1 bt185.2.2.2.2.1 s0_4 s0_5 bt185.2.2.2.2.2) else (spec_expr0.l0 F k1 bt185.1 bt185.2.1 bt185.2.2.1 bt185.2.2.2.1 bt185.2.2.2.2.1 s0_4 s0_5 bt185.2.2.2.2.2))) = some (r1, r2, r3, r4, r5, r6) := by rw [if_pos rfl] at H; exact H
     clear H; have H := H1; clear H1
     replace H := Option.bind_eq_some_iff.mp H
     obtain ⟨⟨t185, t186, t187, t188, t189, t190⟩, A70, H⟩ := H
     replace H : (if x3_1 = true then (spec_expr0.l0 F k1 true t186 t187 t188 t189 s0_4 s0_5 t190) else (spec_expr0.l0 F k1 t185 t186 t187 t188 t189 s0_4 s0_5 t190)) = some (r1, r2, r3, r4, r5, r6) := H
     have A7 := Aside0.mk A70; clear A70
     by_cases c8 : x3_1 = true
     ·subst c8
      have H1 : (spec_expr0.l0 F k1 true t186 t187 t188 t189 s0_4 s0_5 t190) = some (r1, r2, r3, r4, r5, r6) := by rw [if_pos rfl] at H; exact H
      clear H; have H := H1; clear H1; have H' := Aside0.mk H; clear H
      obtain ⟨ASz9_4, cSz9_4, ASz9_5, cSz9_5, HGz9, hgz9, HSz9_4, HSz9_5⟩ := HI0.out
      have hcz9_0 := cellS72_0 HGz9; have hcz9_1 := cellS72_1 HGz9; have hcz9_2 := cellS72_2 HGz9; have hcz9_3 := cellS72_3 HGz9; have hcz9_4 := cellS72_4 HGz9; have hcz9_5 := cellS72_5 HGz9; have hcz9_6 := cellS72_6 HGz9; have hfz9_0 := blk_frozen HGz9 0; have hfz9_1 := blk_frozen HGz9 1; have hfz9_2 := blk_frozen HGz9 2; have hfz9_3 := blk_frozen HGz9 3; have hfz9_6 := blk_frozen HGz9 6; clear HGz9 hgz9
      go_wp2_with (first | (go_at_call 84; (with_reducible refine (spec_eat.calls g x1000_1 x1001_1 x1002_1 x1003_1 s0_4 s0_5 true (⟨#[32, 111, 114, 32]⟩ : ByteArray) true t180 t181 t182 t183 t184 w0 _ ?side1 ?side2 A5.out).mono ?_); (case side1 => repeat (first | (with_reducible first | exact HI0.out | apply IsS72.alloc | apply IsS72.drewN | apply IsS72.drew | apply IsS72.set_0 | apply IsS72.set_1 | apply IsS72.set_2 | apply IsS72.set_3 | apply IsS72.set_6) | exact HI0.out)); (case side2 => repeat (first | (with_reducible first | exact HB.out | apply below_alloc | apply pw_below_drewN | apply below_drew1 | refine below_set ?_ (IsS72.ge HI0.out)) | exact HB.out)); rintro e w10 ⟨rfl, hi, hb, hk⟩; replace HK := Aside0.mk (KeepBut.trans (by repeat first | (with_reducible first | exact HK.out | apply KeepBut.set_ | apply keep_drewN | apply keep_drew | apply keep_alloc) | exact HK.out) hk (.inl rfl)); replace HB := Aside0.mk (hb); replace HI0 := Aside0.mk (hi); (try clear hb); (try clear hk); (try clear hi)) | ((with_reducible refine gate_callee (f := 83) rfl ?_); refine goesL_ (some 16) rfl rfl Try.func83 (by kernel_rfl) rfl #[.pointer (some ⟨g, 0, none⟩)] rfl (by (try simp only [List.map_toArray, List.map_cons, List.map_nil]); first | done | rfl) ?_; (with_reducible refine (spec_term.calls2 F HF k1 g t180 t181 t182 t183 s0_4 s0_5 t184 t185 t186 t187 t188 t189 t190 w0 _ ?side1 ?side2 A7.out).mono ?_); (case side1 => repeat (first | (with_reducible first | exact HI0.out | apply IsS72.alloc | apply IsS72.drewN | apply IsS72.drew | apply IsS72.set_0 | apply IsS72.set_1 | apply IsS72.set_2 | apply IsS72.set_3 | apply IsS72.set_6) | exact HI0.out)); (case side2 => repeat (first | (with_reducible first | exact HB.out | apply below_alloc | apply pw_below_drewN | apply below_drew1 | refine below_set ?_ (IsS72.ge HI0.out)) | exact HB.out)); rintro e w11 ⟨rfl, hi, hb, hk⟩; refine ⟨_, rfl, ?_⟩; replace HK := Aside0.mk (KeepBut.trans (by repeat first | (with_reducible first | exact HK.out | apply KeepBut.set_ | apply keep_drewN | apply keep_drew | apply keep_alloc) | exact HK.out) hk (.inl rfl)); replace HB := Aside0.mk (hb); replace HI0 := Aside0.mk (hi); (try clear hb); (try clear hk); (try clear hi)))
      go_roundg k1
      case measure => have := HK1.out; omega
      case rel => exact ⟨(true), (t186), (t187), (t188), (t189), (t190), (by first | rfl | (simp; done) | (simp [*]; done)), H', ⟨by have := HK1.out; omega⟩, ⟨by repeat (first | (with_reducible first | exact HI0.out | apply IsS72.alloc | apply IsS72.drewN | apply IsS72.drew | apply IsS72.set_0 | apply IsS72.set_1 | apply IsS72.set_2 | apply IsS72.set_3 | apply IsS72.set_6) | exact HI0.out)⟩, ⟨by repeat (first | (with_reducible first | exact HK.out | apply KeepBut.set_ | apply keep_drewN | apply keep_drew | apply keep_alloc) | exact HK.out)⟩, ⟨by repeat (first | (with_reducible first | exact HB.out | apply below_alloc | apply pw_below_drewN | apply below_drew1 | refine below_set ?_ (IsS72.ge HI0.out)) | exact HB.out)⟩⟩
     ·replace c8 := Bool.eq_false_iff.mpr c8
      subst c8
      have H1 : (spec_expr0.l0 F k1 t185 t186 t187 t188 t189 s0_4 s0_5 t190) = some (r1, r2, r3, r4, r5, r6) := by rw [if_neg (show ¬ (false = true) by decide)] at H; exact H
      clear H; have H := H1; clear H1; have H' := Aside0.mk H; clear H
      obtain ⟨ASz12_4, cSz12_4, ASz12_5, cSz12_5, HGz12, hgz12, HSz12_4, HSz12_5⟩ := HI0.out
      have hcz12_0 := cellS72_0 HGz12; have hcz12_1 := cellS72_1 HGz12; have hcz12_2 := cellS72_2 HGz12; have hcz12_3 := cellS72_3 HGz12; have hcz12_4 := cellS72_4 HGz12; have hcz12_5 := cellS72_5 HGz12; have hcz12_6 := cellS72_6 HGz12; have hfz12_0 := blk_frozen HGz12 0; have hfz12_1 := blk_frozen HGz12 1; have hfz12_2 := blk_frozen HGz12 2; have hfz12_3 := blk_frozen HGz12 3; have hfz12_6 := blk_frozen HGz12 6; clear HGz12 hgz12
      go_wp2_with (first | (go_at_call 84; (with_reducible refine (spec_eat.calls g x1000_1 x1001_1 x1002_1 x1003_1 s0_4 s0_5 true (⟨#[32, 111, 114, 32]⟩ : ByteArray) true t180 t181 t182 t183 t184 w0 _ ?side1 ?side2 A5.out).mono ?_); (case side1 => repeat (first | (with_reducible first | exact HI0.out | apply IsS72.alloc | apply IsS72.drewN | apply IsS72.drew | apply IsS72.set_0 | apply IsS72.set_1 | apply IsS72.set_2 | apply IsS72.set_3 | apply IsS72.set_6) | exact HI0.out)); (case side2 => repeat (first | (with_reducible first | exact HB.out | apply below_alloc | apply pw_below_drewN | apply below_drew1 | refine below_set ?_ (IsS72.ge HI0.out)) | exact HB.out)); rintro e w13 ⟨rfl, hi, hb, hk⟩; replace HK := Aside0.mk (KeepBut.trans (by repeat first | (with_reducible first | exact HK.out | apply KeepBut.set_ | apply keep_drewN | apply keep_drew | apply keep_alloc) | exact HK.out) hk (.inl rfl)); replace HB := Aside0.mk (hb); replace HI0 := Aside0.mk (hi); (try clear hb); (try clear hk); (try clear hi)) | ((with_reducible refine gate_callee (f := 83) rfl ?_); refine goesL_ (some 16) rfl rfl Try.func83 (by kernel_rfl) rfl #[.pointer (some ⟨g, 0, none⟩)] rfl (by (try simp only [List.map_toArray, List.map_cons, List.map_nil]); first | done | rfl) ?_; (with_reducible refine (spec_term.calls2 F HF k1 g t180 t181 t182 t183 s0_4 s0_5 t184 t185 t186 t187 t188 t189 t190 w0 _ ?side1 ?side2 A7.out).mono ?_); (case side1 => repeat (first | (with_reducible first | exact HI0.out | apply IsS72.alloc | apply IsS72.drewN | apply IsS72.drew | apply IsS72.set_0 | apply IsS72.set_1 | apply IsS72.set_2 | apply IsS72.set_3 | apply IsS72.set_6) | exact HI0.out)); (case side2 => repeat (first | (with_reducible first | exact HB.out | apply below_alloc | apply pw_below_drewN | apply below_drew1 | refine below_set ?_ (IsS72.ge HI0.out)) | exact HB.out)); rintro e w14 ⟨rfl, hi, hb, hk⟩; refine ⟨_, rfl, ?_⟩; replace HK := Aside0.mk (KeepBut.trans (by repeat first | (with_reducible first | exact HK.out | apply KeepBut.set_ | apply keep_drewN | apply keep_drew | apply keep_alloc) | exact HK.out) hk (.inl rfl)); replace HB := Aside0.mk (hb); replace HI0 := Aside0.mk (hi); (try clear hb); (try clear hk); (try clear hi)))
      go_roundg k1
      case measure => have := HK1.out; omega
      case rel => exact ⟨(t185), (t186), (t187), (t188), (t189), (t190), (by first | rfl | (simp; done) | (simp [*]; done)), H', ⟨by have := HK1.out; omega⟩, ⟨by repeat (first | (with_reducible first | exact HI0.out | apply IsS72.alloc | apply IsS72.drewN | apply IsS72.drew | apply IsS72.set_0 | apply IsS72.set_1 | apply IsS72.set_2 | apply IsS72.set_3 | apply IsS72.set_6) | exact HI0.out)⟩, ⟨by repeat (first | (with_reducible first | exact HK.out | apply KeepBut.set_ | apply keep_drewN | apply keep_drew | apply keep_alloc) | exact HK.out)⟩, ⟨by repeat (first | (with_reducible first | exact HB.out | apply below_alloc | apply pw_below_drewN | apply below_drew1 | refine below_set ?_ (IsS72.ge HI0.out)) | exact HB.out)⟩⟩
    ·replace c6 := Bool.eq_false_iff.mpr c6
     subst c6
     have H1 : (some (x3_1, t180, t181, t182, t183, t184)) = some (r1, r2, r3, r4, r5, r6) := by rw [if_neg (show ¬ (false = true) by decide)] at H; exact H
     clear H; have H := H1; clear H1
     simp only [Option.some.injEq, Prod.mk.injEq] at H
     obtain ⟨rfl, rfl, rfl, rfl, rfl, rfl⟩ := H
     obtain ⟨ASz15_4, cSz15_4, ASz15_5, cSz15_5, HGz15, hgz15, HSz15_4, HSz15_5⟩ := HI0.out
     have hcz15_0 := cellS72_0 HGz15; have hcz15_1 := cellS72_1 HGz15; have hcz15_2 := cellS72_2 HGz15; have hcz15_3 := cellS72_3 HGz15; have hcz15_4 := cellS72_4 HGz15; have hcz15_5 := cellS72_5 HGz15; have hcz15_6 := cellS72_6 HGz15; have hfz15_0 := blk_frozen HGz15 0; have hfz15_1 := blk_frozen HGz15 1; have hfz15_2 := blk_frozen HGz15 2; have hfz15_3 := blk_frozen HGz15 3; have hfz15_6 := blk_frozen HGz15 6; clear HGz15 hgz15
     go_wp2_with (first | (go_at_call 84; (with_reducible refine (spec_eat.calls g x1000_1 x1001_1 x1002_1 x1003_1 s0_4 s0_5 true (⟨#[32, 111, 114, 32]⟩ : ByteArray) false t180 t181 t182 t183 t184 w0 _ ?side1 ?side2 A5.out).mono ?_); (case side1 => repeat (first | (with_reducible first | exact HI0.out | apply IsS72.alloc | apply IsS72.drewN | apply IsS72.drew | apply IsS72.set_0 | apply IsS72.set_1 | apply IsS72.set_2 | apply IsS72.set_3 | apply IsS72.set_6) | exact HI0.out)); (case side2 => repeat (first | (with_reducible first | exact HB.out | apply below_alloc | apply pw_below_drewN | apply below_drew1 | refine below_set ?_ (IsS72.ge HI0.out)) | exact HB.out)); rintro e w16 ⟨rfl, hi, hb, hk⟩; replace HK := Aside0.mk (KeepBut.trans (by repeat first | (with_reducible first | exact HK.out | apply KeepBut.set_ | apply keep_drewN | apply keep_drew | apply keep_alloc) | exact HK.out) hk (.inl rfl)); replace HB := Aside0.mk (hb); replace HI0 := Aside0.mk (hi); (try clear hb); (try clear hk); (try clear hi)))
     go_ret
     exact ⟨by first | rfl | (simp [errW_none, errW_some] <;> rfl) | (simp [*, errW_none, errW_some] <;> rfl), by repeat (first | (with_reducible first | exact HI0.out | apply IsS72.alloc | apply IsS72.drewN | apply IsS72.drew | apply IsS72.set_0 | apply IsS72.set_1 | apply IsS72.set_2 | apply IsS72.set_3 | apply IsS72.set_6) | exact HI0.out), by repeat (first | (with_reducible first | exact HB.out | apply below_alloc | apply pw_below_drewN | apply below_drew1 | refine below_set ?_ (IsS72.ge HI0.out)) | exact HB.out), by repeat (first | (with_reducible first | exact HK.out | apply KeepBut.set_ | apply keep_drewN | apply keep_drew | apply keep_alloc) | exact HK.out)⟩
   ·replace c4 := Bool.eq_false_iff.mpr c4
    subst c4
    have H1 : (some (x3_1, x1000_1, x1001_1, x1002_1, x1003_1, false)) = some (r1, r2, r3, r4, r5, r6) := by rw [if_neg (show ¬ (false = true) by decide)] at H; exact H
    clear H; have H := H1; clear H1
    simp only [Option.some.injEq, Prod.mk.injEq] at H
    obtain ⟨rfl, rfl, rfl, rfl, rfl, rfl⟩ := H
    obtain ⟨ASz17_4, cSz17_4, ASz17_5, cSz17_5, HGz17, hgz17, HSz17_4, HSz17_5⟩ := HI0.out
    have hcz17_0 := cellS72_0 HGz17; have hcz17_1 := cellS72_1 HGz17; have hcz17_2 := cellS72_2 HGz17; have hcz17_3 := cellS72_3 HGz17; have hcz17_4 := cellS72_4 HGz17; have hcz17_5 := cellS72_5 HGz17; have hcz17_6 := cellS72_6 HGz17; have hfz17_0 := blk_frozen HGz17 0; have hfz17_1 := blk_frozen HGz17 1; have hfz17_2 := blk_frozen HGz17 2; have hfz17_3 := blk_frozen HGz17 3; have hfz17_6 := blk_frozen HGz17 6; clear HGz17 hgz17
    go_wp2
    go_ret
    exact ⟨by first | rfl | (simp [errW_none, errW_some] <;> rfl) | (simp [*, errW_none, errW_some] <;> rfl), by repeat (first | (with_reducible first | exact HI0.out | apply IsS72.alloc | apply IsS72.drewN | apply IsS72.drew | apply IsS72.set_0 | apply IsS72.set_1 | apply IsS72.set_2 | apply IsS72.set_3 | apply IsS72.set_6) | exact HI0.out), by repeat (first | (with_reducible first | exact HB.out | apply below_alloc | apply pw_below_drewN | apply below_drew1 | refine below_set ?_ (IsS72.ge HI0.out)) | exact HB.out), by repeat (first | (with_reducible first | exact HK.out | apply KeepBut.set_ | apply keep_drewN | apply keep_drew | apply keep_alloc) | exact HK.out)⟩
/-! #### spec_factor: function 95 -/
def spec_factor.f : Nat → ByteArray → Int → ByteArray → ByteArray → List ByteArray → List ByteArray → Bool → Option (Bool × ByteArray × Int × ByteArray × ByteArray × Bool)
 | 0, _, _, _, _, _, _, _ => none
 | k + 1, s0_0, s0_1, s0_2, s0_3, s0_4, s0_5, s0_6 => (spec_eat.f s0_0 s0_1 s0_2 s0_3 s0_4 s0_5 s0_6 (⟨#[110, 111, 116, 32]⟩ : ByteArray)).bind fun bt103 => (if bt103.1 = true then ((spec_factor.f k bt103.2.1 bt103.2.2.1 bt103.2.2.2.1 bt103.2.2.2.2.1 s0_4 s0_5 bt103.2.2.2.2.2).bind fun bt109 => (some (!bt109.1, bt109.2.1, bt109.2.2.1, bt109.2.2.2.1, bt109.2.2.2.2.1, bt109.2.2.2.2.2))) else ((spec_eat.f bt103.2.1 bt103.2.2.1 bt103.2.2.2.1 bt103.2.2.2.2.1 s0_4 s0_5 bt103.2.2.2.2.2 (⟨#[40]⟩ : ByteArray)).bind fun bt115 => (if bt115.1 = true then ((spec_expr0.f (spec_factor.f k) k bt115.2.1 bt115.2.2.1 bt115.2.2.2.1 bt115.2.2.2.2.1 s0_4 s0_5 bt115.2.2.2.2.2).bind fun bt121 => ((spec_eat.f bt121.2.1 bt121.2.2.1 bt121.2.2.2.1 bt121.2.2.2.2.1 s0_4 s0_5 bt121.2.2.2.2.2 (⟨#[41]⟩ : ByteArray)).bind fun bt127 => (if bt127.1 = true then (some (bt121.1, bt127.2.1, bt127.2.2.1, bt127.2.2.2.1, bt127.2.2.2.2.1, bt127.2.2.2.2.2)) else (some (bt121.1, bt127.2.1, bt127.2.2.1, bt127.2.2.2.1, bt127.2.2.2.2.1, false))))) else ((spec_eat.f bt115.2.1 bt115.2.2.1 bt115.2.2.2.1 bt115.2.2.2.2.1 s0_4 s0_5 bt115.2.2.2.2.2 (⟨#[64]⟩ : ByteArray)).bind fun bt133 => (if bt133.1 = true then ((spec_nameAt.f k bt133.2.1 bt133.2.2.1 bt133.2.2.2.1 bt133.2.2.2.2.1 s0_4 s0_5 bt133.2.2.2.2.2).bind fun bt139 => (if bt139.2.2.2.2.2 = true then ((spec_validName.f k bt139.1).bind fun t145 => (some ((bt139.2.2.2.1.toList == bt139.1.toList), bt139.2.1, bt139.2.2.1, bt139.2.2.2.1, bt139.2.2.2.2.1, t145))) else (some ((bt139.2.2.2.1.toList == bt139.1.toList), bt139.2.1, bt139.2.2.1, bt139.2.2.2.1, bt139.2.2.2.2.1, false)))) else ((spec_nameAt.f k bt133.2.1 bt133.2.2.1 bt133.2.2.2.1 bt133.2.2.2.2.1 s0_4 s0_5 bt133.2.2.2.2.2).bind fun bt146 => (if bt146.2.2.2.2.2 = true then ((spec_validName.f k bt146.1).bind fun t152 => ((spec_hasText.f k s0_4 bt146.1).bind fun t153 => (some (t153, bt146.2.1, bt146.2.2.1, bt146.2.2.2.1, bt146.2.2.2.2.1, t152)))) else ((spec_hasText.f k s0_4 bt146.1).bind fun t154 => (some (t154, bt146.2.1, bt146.2.2.1, bt146.2.2.2.1, bt146.2.2.2.2.1, false))))))))))
theorem spec_factor.mono_l : ∀ k, LeF (spec_factor.f k) (spec_factor.f (k + 1))
 | 0 => fun _ _ _ _ _ _ _ r h => by simp [spec_factor.f] at h
 | k + 1 => by
  have ih0 := spec_factor.mono_l k
  intro y0 y1 y2 y3 y4 y5 y6
  unfold spec_factor.f
  repeat' first
   | (with_reducible exact ih0 _ _ _ _ _ _ _)
   | (with_reducible exact spec_expr0.mono2 ih0 _ _ _ _ _ _ _ _)
   | (with_reducible exact spec_nameAt.mono _ _ _ _ _ _ _ _)
   | (with_reducible exact spec_validName.mono _ _)
   | (with_reducible exact spec_hasText.mono _ _ _)
   | (with_reducible exact LeO.refl _)
   | (with_reducible exact LeO.none _)
   | (with_reducible refine LeO.ite ?_ ?_)
   | (with_reducible refine LeO.bind ?_ (fun _ => ?_))
   | refine LeO.ite ?_ ?_
   | refine LeO.bind ?_ (fun _ => ?_)
set_option maxHeartbeats 8000000 in
set_option maxRecDepth 100000 in
theorem spec_factor.calls (k : Nat) : ∀ (g : Nat) (s0_0 : ByteArray) (s0_1 : Int) (s0_2 : ByteArray) (s0_3 : ByteArray) (s0_4 : List ByteArray) (s0_5 : List ByteArray) (s0_6 : Bool) (r1 : Bool) (r2 : ByteArray) (r3 : Int) (r4 : ByteArray) (r5 : ByteArray) (r6 : Bool) (w0 w : World) (hI : IsS72 w0 w g s0_0 s0_1 s0_2 s0_3 s0_4 s0_5 s0_6) (hB : Below w0.heap.size w0 w) (h : spec_factor.f k s0_0 s0_1 s0_2 s0_3 s0_4 s0_5 s0_6 = some (r1, r2, r3, r4, r5, r6)),
  Calls Try.prog 95 #[.pointer (some ⟨g, 0, none⟩)] w fun e w' => e = .returned (.bool r1) ∧ IsS72 w0 w' g r2 r3 r4 r5 s0_4 s0_5 r6 ∧ Below w0.heap.size w0 w' ∧ KeepBut w w' g none := by
 induction k using Nat.strongRecOn with
 | _ k ih =>
 intro g s0_0 s0_1 s0_2 s0_3 s0_4 s0_5 s0_6 r1 r2 r3 r4 r5 r6 w0 w hI hB h
 cases k with
 | zero => exact absurd h (by simp [spec_factor.f])
 | succ k =>
 simp only [spec_factor.f] at h
 have HI0 := Aside0.mk hI; have HK := Aside0.mk (KeepBut.refl w g none); have HL := Aside0.mk hB.size; clear hI; have HW0 := Aside0.mk hB.size; have HB := Aside0.mk hB; clear hB
 have H : ((spec_eat.f s0_0 s0_1 s0_2 s0_3 s0_4 s0_5 s0_6 (⟨#[110, 111, 116, 32]⟩ : ByteArray)).bind fun bt103 => (if bt103.1 = true then ((spec_factor.f k bt103.2.1 bt103.2.2.1 bt103.2.2.2.1 bt103.2.2.2.2.1 s0_4 s0_5 bt103.2.2.2.2.2).bind fun bt109 => (some (!bt109.1, bt109.2.1, bt109.2.2.1, bt109.2.2.2.1, bt109.2.2.2.2.1, bt109.2.2.2.2.2))) else ((spec_eat.f bt103.2.1 bt103.2.2.1 bt103.2.2.2.1 bt103.2.2.2.2.1 s0_4 s0_5 bt103.2.2.2.2.2 (⟨#[40]⟩ : ByteArray)).bind fun bt115 => (if bt115.1 = true then ((spec_expr0.f (spec_factor.f k) k bt115.2.1 bt115.2.2.1 bt115.2.2.2.1 bt115.2.2.2.2.1 s0_4 s0_5 bt115.2.2.2.2.2).bind fun bt121 => ((spec_eat.f bt121.2.1 bt121.2.2.1 bt121.2.2.2.1 bt121.2.2.2.2.1 s0_4 s0_5 bt121.2.2.2.2.2 (⟨#[41]⟩ : ByteArray)).bind fun bt127 => (if bt127.1 = true then (some (bt121.1, bt127.2.1, bt127.2.2.1, bt127.2.2.2.1, bt127.2.2.2.2.1, bt127.2.2.2.2.2)) else (some (bt121.1, bt127.2.1, bt127.2.2.1, bt127.2.2.2.1, bt127.2.2.2.2.1, false))))) else ((spec_eat.f bt115.2.1 bt115.2.2.1 bt115.2.2.2.1 bt115.2.2.2.2.1 s0_4 s0_5 bt115.2.2.2.2.2 (⟨#[64]⟩ : ByteArray)).bind fun bt133 => (if bt133.1 = true then ((spec_nameAt.f k bt133.2.1 bt133.2.2.1 bt133.2.2.2.1 bt133.2.2.2.2.1 s0_4 s0_5 bt133.2.2.2.2.2).bind fun bt139 => (if bt139.2.2.2.2.2 = true then ((spec_validName.f k bt139.1).bind fun t145 => (some ((bt139.2.2.2.1.toList == bt139.1.toList), bt139.2.1, bt139.2.2.1, bt139.2.2.2.1, bt139.2.2.2.2.1, t145))) else (some ((bt139.2.2.2.1.toList == bt139.1.toList), bt139.2.1, bt139.2.2.1, bt139.2.2.2.1, bt139.2.2.2.2.1, false)))) else ((spec_nameAt.f k bt133.2.1 bt133.2.2.1 bt133.2.2.2.1 bt133.2.2.2.2.1 s0_4 s0_5 bt133.2.2.2.2.2).bind fun bt146 => (if bt146.2.2.2.2.2 = true then ((spec_validName.f k bt146.1).bind fun t152 => ((spec_hasText.f k s0_4 bt146.1).bind fun t153 => (some (t153, bt146.2.1, bt146.2.2.1, bt146.2.2.2.1, bt146.2.2.2.2.1, t152)))) else ((spec_hasText.f k s0_4 bt146.1).bind fun t154 => (some (t154, bt146.2.1, bt146.2.2.1, bt146.2.2.2.1, bt146.2.2.2.2.1, false))))))))))) = some (r1, r2, r3, r4, r5, r6) := h
 clear h
 replace H := Option.bind_eq_some_iff.mp H
 obtain ⟨⟨t103, t104, t105, t106, t107, t108⟩, A20, H⟩ := H
 replace H : (if t103 = true then ((spec_factor.f k t104 t105 t106 t107 s0_4 s0_5 t108).bind fun bt109 => (some (!bt109.1, bt109.2.1, bt109.2.2.1, bt109.2.2.2.1, bt109.2.2.2.2.1, bt109.2.2.2.2.2))) else ((spec_eat.f t104 t105 t106 t107 s0_4 s0_5 t108 (⟨#[40]⟩ : ByteArray)).bind fun bt115 => (if bt115.1 = true then ((spec_expr0.f (spec_factor.f k) k bt115.2.1 bt115.2.2.1 bt115.2.2.2.1 bt115.2.2.2.2.1 s0_4 s0_5 bt115.2.2.2.2.2).bind fun bt121 => ((spec_eat.f bt121.2.1 bt121.2.2.1 bt121.2.2.2.1 bt121.2.2.2.2.1 s0_4 s0_5 bt121.2.2.2.2.2 (⟨#[41]⟩ : ByteArray)).bind fun bt127 => (if bt127.1 = true then (some (bt121.1, bt127.2.1, bt127.2.2.1, bt127.2.2.2.1, bt127.2.2.2.2.1, bt127.2.2.2.2.2)) else (some (bt121.1, bt127.2.1, bt127.2.2.1, bt127.2.2.2.1, bt127.2.2.2.2.1, false))))) else ((spec_eat.f bt115.2.1 bt115.2.2.1 bt115.2.2.2.1 bt115.2.2.2.2.1 s0_4 s0_5 bt115.2.2.2.2.2 (⟨#[64]⟩ : ByteArray)).bind fun bt133 => (if bt133.1 = true then ((spec_nameAt.f k bt133.2.1 bt133.2.2.1 bt133.2.2.2.1 bt133.2.2.2.2.1 s0_4 s0_5 bt133.2.2.2.2.2).bind fun bt139 => (if bt139.2.2.2.2.2 = true then ((spec_validName.f k bt139.1).bind fun t145 => (some ((bt139.2.2.2.1.toList == bt139.1.toList), bt139.2.1, bt139.2.2.1, bt139.2.2.2.1, bt139.2.2.2.2.1, t145))) else (some ((bt139.2.2.2.1.toList == bt139.1.toList), bt139.2.1, bt139.2.2.1, bt139.2.2.2.1, bt139.2.2.2.2.1, false)))) else ((spec_nameAt.f k bt133.2.1 bt133.2.2.1 bt133.2.2.2.1 bt133.2.2.2.2.1 s0_4 s0_5 bt133.2.2.2.2.2).bind fun bt146 => (if bt146.2.2.2.2.2 = true then ((spec_validName.f k bt146.1).bind fun t152 => ((spec_hasText.f k s0_4 bt146.1).bind fun t153 => (some (t153, bt146.2.1, bt146.2.2.1, bt146.2.2.2.1, bt146.2.2.2.2.1, t152)))) else ((spec_hasText.f k s0_4 bt146.1).bind fun t154 => (some (t154, bt146.2.1, bt146.2.2.1, bt146.2.2.2.1, bt146.2.2.2.2.1, false)))))))))) = some (r1, r2, r3, r4, r5, r6) := H
 have A2 := Aside0.mk A20; clear A20
 by_cases c3 : t103 = true
 ·subst c3
  have H1 : ((spec_factor.f k t104 t105 t106 t107 s0_4 s0_5 t108).bind fun bt109 => (some (!bt109.1, bt109.2.1, bt109.2.2.1, bt109.2.2.2.1, bt109.2.2.2.2.1, bt109.2.2.2.2.2))) = some (r1, r2, r3, r4, r5, r6) := by rw [if_pos rfl] at H; exact H
  clear H; have H := H1; clear H1
  replace H := Option.bind_eq_some_iff.mp H
  obtain ⟨⟨t109, t110, t111, t112, t113, t114⟩, A40, H⟩ := H
  replace H : (some (!t109, t110, t111, t112, t113, t114)) = some (r1, r2, r3, r4, r5, r6) := H
  have A4 := Aside0.mk A40; clear A40
  simp only [Option.some.injEq, Prod.mk.injEq] at H
  obtain ⟨rfl, rfl, rfl, rfl, rfl, rfl⟩ := H
  go_enter Try.func95, Try.ntmps95
  go_wp2_with (first | ((with_reducible refine gate_callee (f := 84) rfl ?_); refine goesL_ (some 8) rfl rfl Try.func84 (by kernel_rfl) rfl #[.pointer (some ⟨g, 0, none⟩), .string (⟨#[110, 111, 116, 32]⟩ : ByteArray)] rfl (by (try simp only [List.map_toArray, List.map_cons, List.map_nil]); first | done | rfl) ?_; (with_reducible refine (spec_eat.calls g s0_0 s0_1 s0_2 s0_3 s0_4 s0_5 s0_6 (⟨#[110, 111, 116, 32]⟩ : ByteArray) true t104 t105 t106 t107 t108 w0 _ ?side1 ?side2 A2.out).mono ?_); (case side1 => repeat (first | (with_reducible first | exact HI0.out | apply IsS72.alloc | apply IsS72.drewN | apply IsS72.drew | apply IsS72.set_0 | apply IsS72.set_1 | apply IsS72.set_2 | apply IsS72.set_3 | apply IsS72.set_6) | exact HI0.out)); (case side2 => repeat (first | (with_reducible first | exact HB.out | apply below_alloc | apply pw_below_drewN | apply below_drew1 | refine below_set ?_ (IsS72.ge HI0.out)) | exact HB.out)); rintro e w5 ⟨rfl, hi, hb, hk⟩; refine ⟨_, rfl, ?_⟩; replace HK := Aside0.mk (KeepBut.trans (by repeat first | (with_reducible first | exact HK.out | apply KeepBut.set_ | apply keep_drewN | apply keep_drew | apply keep_alloc) | exact HK.out) hk (.inl rfl)); replace HB := Aside0.mk (hb); replace HI0 := Aside0.mk (hi); (try clear hb); (try clear hk); (try clear hi)) | ((with_reducible refine gate_callee (f := 95) rfl ?_); refine goesL_ (some 10) rfl rfl Try.func95 (by kernel_rfl) rfl #[.pointer (some ⟨g, 0, none⟩)] rfl (by (try simp only [List.map_toArray, List.map_cons, List.map_nil]); first | done | rfl) ?_; (with_reducible refine (ih k (by omega) g t104 t105 t106 t107 s0_4 s0_5 t108 t109 t110 t111 t112 t113 t114 w0 _ ?side1 ?side2 A4.out).mono ?_); (case side1 => repeat (first | (with_reducible first | exact HI0.out | apply IsS72.alloc | apply IsS72.drewN | apply IsS72.drew | apply IsS72.set_0 | apply IsS72.set_1 | apply IsS72.set_2 | apply IsS72.set_3 | apply IsS72.set_6) | exact HI0.out)); (case side2 => repeat (first | (with_reducible first | exact HB.out | apply below_alloc | apply pw_below_drewN | apply below_drew1 | refine below_set ?_ (IsS72.ge HI0.out)) | exact HB.out)); rintro e w6 ⟨rfl, hi, hb, hk⟩; refine ⟨_, rfl, ?_⟩; replace HK := Aside0.mk (KeepBut.trans (by repeat first | (with_reducible first | exact HK.out | apply KeepBut.set_ | apply keep_drewN | apply keep_drew | apply keep_alloc) | exact HK.out) hk (.inl rfl)); replace HB := Aside0.mk (hb); replace HI0 := Aside0.mk (hi); (try clear hb); (try clear hk); (try clear hi)))
  go_ret
  exact ⟨by first | rfl | (simp [errW_none, errW_some] <;> rfl) | (simp [*, errW_none, errW_some] <;> rfl), by repeat (first | (with_reducible first | exact HI0.out | apply IsS72.alloc | apply IsS72.drewN | apply IsS72.drew | apply IsS72.set_0 | apply IsS72.set_1 | apply IsS72.set_2 | apply IsS72.set_3 | apply IsS72.set_6) | exact HI0.out), by repeat (first | (with_reducible first | exact HB.out | apply below_alloc | apply pw_below_drewN | apply below_drew1 | refine below_set ?_ (IsS72.ge HI0.out)) | exact HB.out), by repeat (first | (with_reducible first | exact HK.out | apply KeepBut.set_ | apply keep_drewN | apply keep_drew | apply keep_alloc) | exact HK.out)⟩
 ·replace c3 := Bool.eq_false_iff.mpr c3
  subst c3
  have H1 : ((spec_eat.f t104 t105 t106 t107 s0_4 s0_5 t108 (⟨#[40]⟩ : ByteArray)).bind fun bt115 => (if bt115.1 = true then ((spec_expr0.f (spec_factor.f k) k bt115.2.1 bt115.2.2.1 bt115.2.2.2.1 bt115.2.2.2.2.1 s0_4 s0_5 bt115.2.2.2.2.2).bind fun bt121 => ((spec_eat.f bt121.2.1 bt121.2.2.1 bt121.2.2.2.1 bt121.2.2.2.2.1 s0_4 s0_5 bt121.2.2.2.2.2 (⟨#[41]⟩ : ByteArray)).bind fun bt127 => (if bt127.1 = true then (some (bt121.1, bt127.2.1, bt127.2.2.1, bt127.2.2.2.1, bt127.2.2.2.2.1, bt127.2.2.2.2.2)) else (some (bt121.1, bt127.2.1, bt127.2.2.1, bt127.2.2.2.1, bt127.2.2.2.2.1, false))))) else ((spec_eat.f bt115.2.1 bt115.2.2.1 bt115.2.2.2.1 bt115.2.2.2.2.1 s0_4 s0_5 bt115.2.2.2.2.2 (⟨#[64]⟩ : ByteArray)).bind fun bt133 => (if bt133.1 = true then ((spec_nameAt.f k bt133.2.1 bt133.2.2.1 bt133.2.2.2.1 bt133.2.2.2.2.1 s0_4 s0_5 bt133.2.2.2.2.2).bind fun bt139 => (if bt139.2.2.2.2.2 = true then ((spec_validName.f k bt139.1).bind fun t145 => (some ((bt139.2.2.2.1.toList == bt139.1.toList), bt139.2.1, bt139.2.2.1, bt139.2.2.2.1, bt139.2.2.2.2.1, t145))) else (some ((bt139.2.2.2.1.toList == bt139.1.toList), bt139.2.1, bt139.2.2.1, bt139.2.2.2.1, bt139.2.2.2.2.1, false)))) else ((spec_nameAt.f k bt133.2.1 bt133.2.2.1 bt133.2.2.2.1 bt133.2.2.2.2.1 s0_4 s0_5 bt133.2.2.2.2.2).bind fun bt146 => (if bt146.2.2.2.2.2 = true then ((spec_validName.f k bt146.1).bind fun t152 => ((spec_hasText.f k s0_4 bt146.1).bind fun t153 => (some (t153, bt146.2.1, bt146.2.2.1, bt146.2.2.2.1, bt146.2.2.2.2.1, t152)))) else ((spec_hasText.f k s0_4 bt146.1).bind fun t154 => (some (t154, bt146.2.1, bt146.2.2.1, bt146.2.2.2.1, bt146.2.2.2.2.1, false))))))))) = some (r1, r2, r3, r4, r5, r6) := by rw [if_neg (show ¬ (false = true) by decide)] at H; exact H
  clear H; have H := H1; clear H1
  replace H := Option.bind_eq_some_iff.mp H
  obtain ⟨⟨t115, t116, t117, t118, t119, t120⟩, A70, H⟩ := H
  replace H : (if t115 = true then ((spec_expr0.f (spec_factor.f k) k t116 t117 t118 t119 s0_4 s0_5 t120).bind fun bt121 => ((spec_eat.f bt121.2.1 bt121.2.2.1 bt121.2.2.2.1 bt121.2.2.2.2.1 s0_4 s0_5 bt121.2.2.2.2.2 (⟨#[41]⟩ : ByteArray)).bind fun bt127 => (if bt127.1 = true then (some (bt121.1, bt127.2.1, bt127.2.2.1, bt127.2.2.2.1, bt127.2.2.2.2.1, bt127.2.2.2.2.2)) else (some (bt121.1, bt127.2.1, bt127.2.2.1, bt127.2.2.2.1, bt127.2.2.2.2.1, false))))) else ((spec_eat.f t116 t117 t118 t119 s0_4 s0_5 t120 (⟨#[64]⟩ : ByteArray)).bind fun bt133 => (if bt133.1 = true then ((spec_nameAt.f k bt133.2.1 bt133.2.2.1 bt133.2.2.2.1 bt133.2.2.2.2.1 s0_4 s0_5 bt133.2.2.2.2.2).bind fun bt139 => (if bt139.2.2.2.2.2 = true then ((spec_validName.f k bt139.1).bind fun t145 => (some ((bt139.2.2.2.1.toList == bt139.1.toList), bt139.2.1, bt139.2.2.1, bt139.2.2.2.1, bt139.2.2.2.2.1, t145))) else (some ((bt139.2.2.2.1.toList == bt139.1.toList), bt139.2.1, bt139.2.2.1, bt139.2.2.2.1, bt139.2.2.2.2.1, false)))) else ((spec_nameAt.f k bt133.2.1 bt133.2.2.1 bt133.2.2.2.1 bt133.2.2.2.2.1 s0_4 s0_5 bt133.2.2.2.2.2).bind fun bt146 => (if bt146.2.2.2.2.2 = true then ((spec_validName.f k bt146.1).bind fun t152 => ((spec_hasText.f k s0_4 bt146.1).bind fun t153 => (some (t153, bt146.2.1, bt146.2.2.1, bt146.2.2.2.1, bt146.2.2.2.2.1, t152)))) else ((spec_hasText.f k s0_4 bt146.1).bind fun t154 => (some (t154, bt146.2.1, bt146.2.2.1, bt146.2.2.2.1, bt146.2.2.2.2.1, false)))))))) = some (r1, r2, r3, r4, r5, r6) := H
  have A7 := Aside0.mk A70; clear A70
  by_cases c8 : t115 = true
  ·subst c8
   have H1 : ((spec_expr0.f (spec_factor.f k) k t116 t117 t118 t119 s0_4 s0_5 t120).bind fun bt121 => ((spec_eat.f bt121.2.1 bt121.2.2.1 bt121.2.2.2.1 bt121.2.2.2.2.1 s0_4 s0_5 bt121.2.2.2.2.2 (⟨#[41]⟩ : ByteArray)).bind fun bt127 => (if bt127.1 = true then (some (bt121.1, bt127.2.1, bt127.2.2.1, bt127.2.2.2.1, bt127.2.2.2.2.1, bt127.2.2.2.2.2)) else (some (bt121.1, bt127.2.1, bt127.2.2.1, bt127.2.2.2.1, bt127.2.2.2.2.1, false))))) = some (r1, r2, r3, r4, r5, r6) := by rw [if_pos rfl] at H; exact H
   clear H; have H := H1; clear H1
   replace H := Option.bind_eq_some_iff.mp H
   obtain ⟨⟨t121, t122, t123, t124, t125, t126⟩, A90, H⟩ := H
   replace H : ((spec_eat.f t122 t123 t124 t125 s0_4 s0_5 t126 (⟨#[41]⟩ : ByteArray)).bind fun bt127 => (if bt127.1 = true then (some (t121, bt127.2.1, bt127.2.2.1, bt127.2.2.2.1, bt127.2.2.2.2.1, bt127.2.2.2.2.2)) else (some (t121, bt127.2.1, bt127.2.2.1, bt127.2.2.2.1, bt127.2.2.2.2.1, false)))) = some (r1, r2, r3, r4, r5, r6) := H
   have A9 := Aside0.mk A90; clear A90
   replace H := Option.bind_eq_some_iff.mp H
   obtain ⟨⟨t127, t128, t129, t130, t131, t132⟩, A100, H⟩ := H
   replace H : (if t127 = true then (some (t121, t128, t129, t130, t131, t132)) else (some (t121, t128, t129, t130, t131, false))) = some (r1, r2, r3, r4, r5, r6) := H
   have A10 := Aside0.mk A100; clear A100
   by_cases c11 : t127 = true
   ·subst c11
    have H1 : (some (t121, t128, t129, t130, t131, t132)) = some (r1, r2, r3, r4, r5, r6) := by rw [if_pos rfl] at H; exact H
    clear H; have H := H1; clear H1
    simp only [Option.some.injEq, Prod.mk.injEq] at H
    obtain ⟨rfl, rfl, rfl, rfl, rfl, rfl⟩ := H
    go_enter Try.func95, Try.ntmps95
    go_wp2_with (first | ((with_reducible refine gate_callee (f := 84) rfl ?_); refine goesL_ (some 8) rfl rfl Try.func84 (by kernel_rfl) rfl #[.pointer (some ⟨g, 0, none⟩), .string (⟨#[110, 111, 116, 32]⟩ : ByteArray)] rfl (by (try simp only [List.map_toArray, List.map_cons, List.map_nil]); first | done | rfl) ?_; (with_reducible refine (spec_eat.calls g s0_0 s0_1 s0_2 s0_3 s0_4 s0_5 s0_6 (⟨#[110, 111, 116, 32]⟩ : ByteArray) false t104 t105 t106 t107 t108 w0 _ ?side1 ?side2 A2.out).mono ?_); (case side1 => repeat (first | (with_reducible first | exact HI0.out | apply IsS72.alloc | apply IsS72.drewN | apply IsS72.drew | apply IsS72.set_0 | apply IsS72.set_1 | apply IsS72.set_2 | apply IsS72.set_3 | apply IsS72.set_6) | exact HI0.out)); (case side2 => repeat (first | (with_reducible first | exact HB.out | apply below_alloc | apply pw_below_drewN | apply below_drew1 | refine below_set ?_ (IsS72.ge HI0.out)) | exact HB.out)); rintro e w12 ⟨rfl, hi, hb, hk⟩; refine ⟨_, rfl, ?_⟩; replace HK := Aside0.mk (KeepBut.trans (by repeat first | (with_reducible first | exact HK.out | apply KeepBut.set_ | apply keep_drewN | apply keep_drew | apply keep_alloc) | exact HK.out) hk (.inl rfl)); replace HB := Aside0.mk (hb); replace HI0 := Aside0.mk (hi); (try clear hb); (try clear hk); (try clear hi)) | ((with_reducible refine gate_callee (f := 84) rfl ?_); refine goesL_ (some 14) rfl rfl Try.func84 (by kernel_rfl) rfl #[.pointer (some ⟨g, 0, none⟩), .string (⟨#[40]⟩ : ByteArray)] rfl (by (try simp only [List.map_toArray, List.map_cons, List.map_nil]); first | done | rfl) ?_; (with_reducible refine (spec_eat.calls g t104 t105 t106 t107 s0_4 s0_5 t108 (⟨#[40]⟩ : ByteArray) true t116 t117 t118 t119 t120 w0 _ ?side1 ?side2 A7.out).mono ?_); (case side1 => repeat (first | (with_reducible first | exact HI0.out | apply IsS72.alloc | apply IsS72.drewN | apply IsS72.drew | apply IsS72.set_0 | apply IsS72.set_1 | apply IsS72.set_2 | apply IsS72.set_3 | apply IsS72.set_6) | exact HI0.out)); (case side2 => repeat (first | (with_reducible first | exact HB.out | apply below_alloc | apply pw_below_drewN | apply below_drew1 | refine below_set ?_ (IsS72.ge HI0.out)) | exact HB.out)); rintro e w13 ⟨rfl, hi, hb, hk⟩; refine ⟨_, rfl, ?_⟩; replace HK := Aside0.mk (KeepBut.trans (by repeat first | (with_reducible first | exact HK.out | apply KeepBut.set_ | apply keep_drewN | apply keep_drew | apply keep_alloc) | exact HK.out) hk (.inl rfl)); replace HB := Aside0.mk (hb); replace HI0 := Aside0.mk (hi); (try clear hb); (try clear hk); (try clear hi)) | ((with_reducible refine gate_callee (f := 68) rfl ?_); refine goesL_ (some 16) rfl rfl Try.func68 (by kernel_rfl) rfl #[.pointer (some ⟨g, 0, none⟩)] rfl (by (try simp only [List.map_toArray, List.map_cons, List.map_nil]); first | done | rfl) ?_; (with_reducible refine (spec_expr0.calls2 (spec_factor.f k) ⟨fun g s0_0 s0_1 s0_2 s0_3 s0_4 s0_5 s0_6 r1 r2 r3 r4 r5 r6 w0 w => ih k (by omega) g s0_0 s0_1 s0_2 s0_3 s0_4 s0_5 s0_6 r1 r2 r3 r4 r5 r6 w0 w⟩ k g t116 t117 t118 t119 s0_4 s0_5 t120 t121 t122 t123 t124 t125 t126 w0 _ ?side1 ?side2 A9.out).mono ?_); (case side1 => repeat (first | (with_reducible first | exact HI0.out | apply IsS72.alloc | apply IsS72.drewN | apply IsS72.drew | apply IsS72.set_0 | apply IsS72.set_1 | apply IsS72.set_2 | apply IsS72.set_3 | apply IsS72.set_6) | exact HI0.out)); (case side2 => repeat (first | (with_reducible first | exact HB.out | apply below_alloc | apply pw_below_drewN | apply below_drew1 | refine below_set ?_ (IsS72.ge HI0.out)) | exact HB.out)); rintro e w14 ⟨rfl, hi, hb, hk⟩; refine ⟨_, rfl, ?_⟩; replace HK := Aside0.mk (KeepBut.trans (by repeat first | (with_reducible first | exact HK.out | apply KeepBut.set_ | apply keep_drewN | apply keep_drew | apply keep_alloc) | exact HK.out) hk (.inl rfl)); replace HB := Aside0.mk (hb); replace HI0 := Aside0.mk (hi); (try clear hb); (try clear hk); (try clear hi)) | ((with_reducible refine gate_callee (f := 84) rfl ?_); refine goesL_ (some 19) rfl rfl Try.func84 (by kernel_rfl) rfl #[.pointer (some ⟨g, 0, none⟩), .string (⟨#[41]⟩ : ByteArray)] rfl (by (try simp only [List.map_toArray, List.map_cons, List.map_nil]); first | done | rfl) ?_; (with_reducible refine (spec_eat.calls g t122 t123 t124 t125 s0_4 s0_5 t126 (⟨#[41]⟩ : ByteArray) true t128 t129 t130 t131 t132 w0 _ ?side1 ?side2 A10.out).mono ?_); (case side1 => repeat (first | (with_reducible first | exact HI0.out | apply IsS72.alloc | apply IsS72.drewN | apply IsS72.drew | apply IsS72.set_0 | apply IsS72.set_1 | apply IsS72.set_2 | apply IsS72.set_3 | apply IsS72.set_6) | exact HI0.out)); (case side2 => repeat (first | (with_reducible first | exact HB.out | apply below_alloc | apply pw_below_drewN | apply below_drew1 | refine below_set ?_ (IsS72.ge HI0.out)) | exact HB.out)); rintro e w15 ⟨rfl, hi, hb, hk⟩; refine ⟨_, rfl, ?_⟩; replace HK := Aside0.mk (KeepBut.trans (by repeat first | (with_reducible first | exact HK.out | apply KeepBut.set_ | apply keep_drewN | apply keep_drew | apply keep_alloc) | exact HK.out) hk (.inl rfl)); replace HB := Aside0.mk (hb); replace HI0 := Aside0.mk (hi); (try clear hb); (try clear hk); (try clear hi); obtain ⟨ASz16_4, cSz16_4, ASz16_5, cSz16_5, HGz16, hgz16, HSz16_4, HSz16_5⟩ := HI0.out; have hcz16_0 := cellS72_0 HGz16; have hcz16_1 := cellS72_1 HGz16; have hcz16_2 := cellS72_2 HGz16; have hcz16_3 := cellS72_3 HGz16; have hcz16_4 := cellS72_4 HGz16; have hcz16_5 := cellS72_5 HGz16; have hcz16_6 := cellS72_6 HGz16; have hfz16_0 := blk_frozen HGz16 0; have hfz16_1 := blk_frozen HGz16 1; have hfz16_2 := blk_frozen HGz16 2; have hfz16_3 := blk_frozen HGz16 3; have hfz16_6 := blk_frozen HGz16 6; clear HGz16 hgz16))
    go_ret
    exact ⟨by first | rfl | (simp [errW_none, errW_some] <;> rfl) | (simp [*, errW_none, errW_some] <;> rfl), by repeat (first | (with_reducible first | exact HI0.out | apply IsS72.alloc | apply IsS72.drewN | apply IsS72.drew | apply IsS72.set_0 | apply IsS72.set_1 | apply IsS72.set_2 | apply IsS72.set_3 | apply IsS72.set_6) | exact HI0.out), by repeat (first | (with_reducible first | exact HB.out | apply below_alloc | apply pw_below_drewN | apply below_drew1 | refine below_set ?_ (IsS72.ge HI0.out)) | exact HB.out), by repeat (first | (with_reducible first | exact HK.out | apply KeepBut.set_ | apply keep_drewN | apply keep_drew | apply keep_alloc) | exact HK.out)⟩
   ·replace c11 := Bool.eq_false_iff.mpr c11
    subst c11
    have H1 : (some (t121, t128, t129, t130, t131, false)) = some (r1, r2, r3, r4, r5, r6) := by rw [if_neg (show ¬ (false = true) by decide)] at H; exact H
    clear H; have H := H1; clear H1
    simp only [Option.some.injEq, Prod.mk.injEq] at H
    obtain ⟨rfl, rfl, rfl, rfl, rfl, rfl⟩ := H
    go_enter Try.func95, Try.ntmps95
    go_wp2_with (first | ((with_reducible refine gate_callee (f := 84) rfl ?_); refine goesL_ (some 8) rfl rfl Try.func84 (by kernel_rfl) rfl #[.pointer (some ⟨g, 0, none⟩), .string (⟨#[110, 111, 116, 32]⟩ : ByteArray)] rfl (by (try simp only [List.map_toArray, List.map_cons, List.map_nil]); first | done | rfl) ?_; (with_reducible refine (spec_eat.calls g s0_0 s0_1 s0_2 s0_3 s0_4 s0_5 s0_6 (⟨#[110, 111, 116, 32]⟩ : ByteArray) false t104 t105 t106 t107 t108 w0 _ ?side1 ?side2 A2.out).mono ?_); (case side1 => repeat (first | (with_reducible first | exact HI0.out | apply IsS72.alloc | apply IsS72.drewN | apply IsS72.drew | apply IsS72.set_0 | apply IsS72.set_1 | apply IsS72.set_2 | apply IsS72.set_3 | apply IsS72.set_6) | exact HI0.out)); (case side2 => repeat (first | (with_reducible first | exact HB.out | apply below_alloc | apply pw_below_drewN | apply below_drew1 | refine below_set ?_ (IsS72.ge HI0.out)) | exact HB.out)); rintro e w17 ⟨rfl, hi, hb, hk⟩; refine ⟨_, rfl, ?_⟩; replace HK := Aside0.mk (KeepBut.trans (by repeat first | (with_reducible first | exact HK.out | apply KeepBut.set_ | apply keep_drewN | apply keep_drew | apply keep_alloc) | exact HK.out) hk (.inl rfl)); replace HB := Aside0.mk (hb); replace HI0 := Aside0.mk (hi); (try clear hb); (try clear hk); (try clear hi)) | ((with_reducible refine gate_callee (f := 84) rfl ?_); refine goesL_ (some 14) rfl rfl Try.func84 (by kernel_rfl) rfl #[.pointer (some ⟨g, 0, none⟩), .string (⟨#[40]⟩ : ByteArray)] rfl (by (try simp only [List.map_toArray, List.map_cons, List.map_nil]); first | done | rfl) ?_; (with_reducible refine (spec_eat.calls g t104 t105 t106 t107 s0_4 s0_5 t108 (⟨#[40]⟩ : ByteArray) true t116 t117 t118 t119 t120 w0 _ ?side1 ?side2 A7.out).mono ?_); (case side1 => repeat (first | (with_reducible first | exact HI0.out | apply IsS72.alloc | apply IsS72.drewN | apply IsS72.drew | apply IsS72.set_0 | apply IsS72.set_1 | apply IsS72.set_2 | apply IsS72.set_3 | apply IsS72.set_6) | exact HI0.out)); (case side2 => repeat (first | (with_reducible first | exact HB.out | apply below_alloc | apply pw_below_drewN | apply below_drew1 | refine below_set ?_ (IsS72.ge HI0.out)) | exact HB.out)); rintro e w18 ⟨rfl, hi, hb, hk⟩; refine ⟨_, rfl, ?_⟩; replace HK := Aside0.mk (KeepBut.trans (by repeat first | (with_reducible first | exact HK.out | apply KeepBut.set_ | apply keep_drewN | apply keep_drew | apply keep_alloc) | exact HK.out) hk (.inl rfl)); replace HB := Aside0.mk (hb); replace HI0 := Aside0.mk (hi); (try clear hb); (try clear hk); (try clear hi)) | ((with_reducible refine gate_callee (f := 68) rfl ?_); refine goesL_ (some 16) rfl rfl Try.func68 (by kernel_rfl) rfl #[.pointer (some ⟨g, 0, none⟩)] rfl (by (try simp only [List.map_toArray, List.map_cons, List.map_nil]); first | done | rfl) ?_; (with_reducible refine (spec_expr0.calls2 (spec_factor.f k) ⟨fun g s0_0 s0_1 s0_2 s0_3 s0_4 s0_5 s0_6 r1 r2 r3 r4 r5 r6 w0 w => ih k (by omega) g s0_0 s0_1 s0_2 s0_3 s0_4 s0_5 s0_6 r1 r2 r3 r4 r5 r6 w0 w⟩ k g t116 t117 t118 t119 s0_4 s0_5 t120 t121 t122 t123 t124 t125 t126 w0 _ ?side1 ?side2 A9.out).mono ?_); (case side1 => repeat (first | (with_reducible first | exact HI0.out | apply IsS72.alloc | apply IsS72.drewN | apply IsS72.drew | apply IsS72.set_0 | apply IsS72.set_1 | apply IsS72.set_2 | apply IsS72.set_3 | apply IsS72.set_6) | exact HI0.out)); (case side2 => repeat (first | (with_reducible first | exact HB.out | apply below_alloc | apply pw_below_drewN | apply below_drew1 | refine below_set ?_ (IsS72.ge HI0.out)) | exact HB.out)); rintro e w19 ⟨rfl, hi, hb, hk⟩; refine ⟨_, rfl, ?_⟩; replace HK := Aside0.mk (KeepBut.trans (by repeat first | (with_reducible first | exact HK.out | apply KeepBut.set_ | apply keep_drewN | apply keep_drew | apply keep_alloc) | exact HK.out) hk (.inl rfl)); replace HB := Aside0.mk (hb); replace HI0 := Aside0.mk (hi); (try clear hb); (try clear hk); (try clear hi)) | ((with_reducible refine gate_callee (f := 84) rfl ?_); refine goesL_ (some 19) rfl rfl Try.func84 (by kernel_rfl) rfl #[.pointer (some ⟨g, 0, none⟩), .string (⟨#[41]⟩ : ByteArray)] rfl (by (try simp only [List.map_toArray, List.map_cons, List.map_nil]); first | done | rfl) ?_; (with_reducible refine (spec_eat.calls g t122 t123 t124 t125 s0_4 s0_5 t126 (⟨#[41]⟩ : ByteArray) false t128 t129 t130 t131 t132 w0 _ ?side1 ?side2 A10.out).mono ?_); (case side1 => repeat (first | (with_reducible first | exact HI0.out | apply IsS72.alloc | apply IsS72.drewN | apply IsS72.drew | apply IsS72.set_0 | apply IsS72.set_1 | apply IsS72.set_2 | apply IsS72.set_3 | apply IsS72.set_6) | exact HI0.out)); (case side2 => repeat (first | (with_reducible first | exact HB.out | apply below_alloc | apply pw_below_drewN | apply below_drew1 | refine below_set ?_ (IsS72.ge HI0.out)) | exact HB.out)); rintro e w20 ⟨rfl, hi, hb, hk⟩; refine ⟨_, rfl, ?_⟩; replace HK := Aside0.mk (KeepBut.trans (by repeat first | (with_reducible first | exact HK.out | apply KeepBut.set_ | apply keep_drewN | apply keep_drew | apply keep_alloc) | exact HK.out) hk (.inl rfl)); replace HB := Aside0.mk (hb); replace HI0 := Aside0.mk (hi); (try clear hb); (try clear hk); (try clear hi); obtain ⟨ASz21_4, cSz21_4, ASz21_5, cSz21_5, HGz21, hgz21, HSz21_4, HSz21_5⟩ := HI0.out; have hcz21_0 := cellS72_0 HGz21; have hcz21_1 := cellS72_1 HGz21; have hcz21_2 := cellS72_2 HGz21; have hcz21_3 := cellS72_3 HGz21; have hcz21_4 := cellS72_4 HGz21; have hcz21_5 := cellS72_5 HGz21; have hcz21_6 := cellS72_6 HGz21; have hfz21_0 := blk_frozen HGz21 0; have hfz21_1 := blk_frozen HGz21 1; have hfz21_2 := blk_frozen HGz21 2; have hfz21_3 := blk_frozen HGz21 3; have hfz21_6 := blk_frozen HGz21 6; clear HGz21 hgz21))
    go_ret
    exact ⟨by first | rfl | (simp [errW_none, errW_some] <;> rfl) | (simp [*, errW_none, errW_some] <;> rfl), by repeat (first | (with_reducible first | exact HI0.out | apply IsS72.alloc | apply IsS72.drewN | apply IsS72.drew | apply IsS72.set_0 | apply IsS72.set_1 | apply IsS72.set_2 | apply IsS72.set_3 | apply IsS72.set_6) | exact HI0.out), by repeat (first | (with_reducible first | exact HB.out | apply below_alloc | apply pw_below_drewN | apply below_drew1 | refine below_set ?_ (IsS72.ge HI0.out)) | exact HB.out), by repeat (first | (with_reducible first | exact HK.out | apply KeepBut.set_ | apply keep_drewN | apply keep_drew | apply keep_alloc) | exact HK.out)⟩
  ·replace c8 := Bool.eq_false_iff.mpr c8
   subst c8
   have H1 : ((spec_eat.f t116 t117 t118 t119 s0_4 s0_5 t120 (⟨#[64]⟩ : ByteArray)).bind fun bt133 => (if bt133.1 = true then ((spec_nameAt.f k bt133.2.1 bt133.2.2.1 bt133.2.2.2.1 bt133.2.2.2.2.1 s0_4 s0_5 bt133.2.2.2.2.2).bind fun bt139 => (if bt139.2.2.2.2.2 = true then ((spec_validName.f k bt139.1).bind fun t145 => (some ((bt139.2.2.2.1.toList == bt139.1.toList), bt139.2.1, bt139.2.2.1, bt139.2.2.2.1, bt139.2.2.2.2.1, t145))) else (some ((bt139.2.2.2.1.toList == bt139.1.toList), bt139.2.1, bt139.2.2.1, bt139.2.2.2.1, bt139.2.2.2.2.1, false)))) else ((spec_nameAt.f k bt133.2.1 bt133.2.2.1 bt133.2.2.2.1 bt133.2.2.2.2.1 s0_4 s0_5 bt133.2.2.2.2.2).bind fun bt146 => (if bt146.2.2.2.2.2 = true then ((spec_validName.f k bt146.1).bind fun t152 => ((spec_hasText.f k s0_4 bt146.1).bind fun t153 => (some (t153, bt146.2.1, bt146.2.2.1, bt146.2.2.2.1, bt146.2.2.2.2.1, t152)))) else ((spec_hasText.f k s0_4 bt146.1).bind fun t154 => (some (t154, bt146.2.1, bt146.2.2.1, bt146.2.2.2.1, bt146.2.2.2.2.1, false))))))) = some (r1, r2, r3, r4, r5, r6) := by rw [if_neg (show ¬ (false = true) by decide)] at H; exact H
   clear H; have H := H1; clear H1
   replace H := Option.bind_eq_some_iff.mp H
   obtain ⟨⟨t133, t134, t135, t136, t137, t138⟩, A220, H⟩ := H
   replace H : (if t133 = true then ((spec_nameAt.f k t134 t135 t136 t137 s0_4 s0_5 t138).bind fun bt139 => (if bt139.2.2.2.2.2 = true then ((spec_validName.f k bt139.1).bind fun t145 => (some ((bt139.2.2.2.1.toList == bt139.1.toList), bt139.2.1, bt139.2.2.1, bt139.2.2.2.1, bt139.2.2.2.2.1, t145))) else (some ((bt139.2.2.2.1.toList == bt139.1.toList), bt139.2.1, bt139.2.2.1, bt139.2.2.2.1, bt139.2.2.2.2.1, false)))) else ((spec_nameAt.f k t134 t135 t136 t137 s0_4 s0_5 t138).bind fun bt146 => (if bt146.2.2.2.2.2 = true then ((spec_validName.f k bt146.1).bind fun t152 => ((spec_hasText.f k s0_4 bt146.1).bind fun t153 => (some (t153, bt146.2.1, bt146.2.2.1, bt146.2.2.2.1, bt146.2.2.2.2.1, t152)))) else ((spec_hasText.f k s0_4 bt146.1).bind fun t154 => (some (t154, bt146.2.1, bt146.2.2.1, bt146.2.2.2.1, bt146.2.2.2.2.1, false)))))) = some (r1, r2, r3, r4, r5, r6) := H
   have A22 := Aside0.mk A220; clear A220
   by_cases c23 : t133 = true
   ·subst c23
    have H1 : ((spec_nameAt.f k t134 t135 t136 t137 s0_4 s0_5 t138).bind fun bt139 => (if bt139.2.2.2.2.2 = true then ((spec_validName.f k bt139.1).bind fun t145 => (some ((bt139.2.2.2.1.toList == bt139.1.toList), bt139.2.1, bt139.2.2.1, bt139.2.2.2.1, bt139.2.2.2.2.1, t145))) else (some ((bt139.2.2.2.1.toList == bt139.1.toList), bt139.2.1, bt139.2.2.1, bt139.2.2.2.1, bt139.2.2.2.2.1, false)))) = some (r1, r2, r3, r4, r5, r6) := by rw [if_pos rfl] at H; exact H
    clear H; have H := H1; clear H1
    replace H := Option.bind_eq_some_iff.mp H
    obtain ⟨⟨t139, t140, t141, t142, t143, t144⟩, A240, H⟩ := H
    replace H : (if t144 = true then ((spec_validName.f k t139).bind fun t145 => (some ((t142.toList == t139.toList), t140, t141, t142, t143, t145))) else (some ((t142.toList == t139.toList), t140, t141, t142, t143, false))) = some (r1, r2, r3, r4, r5, r6) := H
    have A24 := Aside0.mk A240; clear A240
    by_cases c25 : t144 = true
    ·subst c25
     have H1 : ((spec_validName.f k t139).bind fun t145 => (some ((t142.toList == t139.toList), t140, t141, t142, t143, t145))) = some (r1, r2, r3, r4, r5, r6) := by rw [if_pos rfl] at H; exact H
     clear H; have H := H1; clear H1
     replace H := Option.bind_eq_some_iff.mp H
     obtain ⟨t145, A260, H⟩ := H
     replace H : (some ((t142.toList == t139.toList), t140, t141, t142, t143, t145)) = some (r1, r2, r3, r4, r5, r6) := H
     have A26 := Aside0.mk A260; clear A260
     simp only [Option.some.injEq, Prod.mk.injEq] at H
     obtain ⟨rfl, rfl, rfl, rfl, rfl, rfl⟩ := H
     go_enter Try.func95, Try.ntmps95
     go_wp2_with (first | ((with_reducible refine gate_callee (f := 84) rfl ?_); refine goesL_ (some 8) rfl rfl Try.func84 (by kernel_rfl) rfl #[.pointer (some ⟨g, 0, none⟩), .string (⟨#[110, 111, 116, 32]⟩ : ByteArray)] rfl (by (try simp only [List.map_toArray, List.map_cons, List.map_nil]); first | done | rfl) ?_; (with_reducible refine (spec_eat.calls g s0_0 s0_1 s0_2 s0_3 s0_4 s0_5 s0_6 (⟨#[110, 111, 116, 32]⟩ : ByteArray) false t104 t105 t106 t107 t108 w0 _ ?side1 ?side2 A2.out).mono ?_); (case side1 => repeat (first | (with_reducible first | exact HI0.out | apply IsS72.alloc | apply IsS72.drewN | apply IsS72.drew | apply IsS72.set_0 | apply IsS72.set_1 | apply IsS72.set_2 | apply IsS72.set_3 | apply IsS72.set_6) | exact HI0.out)); (case side2 => repeat (first | (with_reducible first | exact HB.out | apply below_alloc | apply pw_below_drewN | apply below_drew1 | refine below_set ?_ (IsS72.ge HI0.out)) | exact HB.out)); rintro e w27 ⟨rfl, hi, hb, hk⟩; refine ⟨_, rfl, ?_⟩; replace HK := Aside0.mk (KeepBut.trans (by repeat first | (with_reducible first | exact HK.out | apply KeepBut.set_ | apply keep_drewN | apply keep_drew | apply keep_alloc) | exact HK.out) hk (.inl rfl)); replace HB := Aside0.mk (hb); replace HI0 := Aside0.mk (hi); (try clear hb); (try clear hk); (try clear hi)) | ((with_reducible refine gate_callee (f := 84) rfl ?_); refine goesL_ (some 14) rfl rfl Try.func84 (by kernel_rfl) rfl #[.pointer (some ⟨g, 0, none⟩), .string (⟨#[40]⟩ : ByteArray)] rfl (by (try simp only [List.map_toArray, List.map_cons, List.map_nil]); first | done | rfl) ?_; (with_reducible refine (spec_eat.calls g t104 t105 t106 t107 s0_4 s0_5 t108 (⟨#[40]⟩ : ByteArray) false t116 t117 t118 t119 t120 w0 _ ?side1 ?side2 A7.out).mono ?_); (case side1 => repeat (first | (with_reducible first | exact HI0.out | apply IsS72.alloc | apply IsS72.drewN | apply IsS72.drew | apply IsS72.set_0 | apply IsS72.set_1 | apply IsS72.set_2 | apply IsS72.set_3 | apply IsS72.set_6) | exact HI0.out)); (case side2 => repeat (first | (with_reducible first | exact HB.out | apply below_alloc | apply pw_below_drewN | apply below_drew1 | refine below_set ?_ (IsS72.ge HI0.out)) | exact HB.out)); rintro e w28 ⟨rfl, hi, hb, hk⟩; refine ⟨_, rfl, ?_⟩; replace HK := Aside0.mk (KeepBut.trans (by repeat first | (with_reducible first | exact HK.out | apply KeepBut.set_ | apply keep_drewN | apply keep_drew | apply keep_alloc) | exact HK.out) hk (.inl rfl)); replace HB := Aside0.mk (hb); replace HI0 := Aside0.mk (hi); (try clear hb); (try clear hk); (try clear hi)) | ((with_reducible refine gate_callee (f := 84) rfl ?_); refine goesL_ (some 31) rfl rfl Try.func84 (by kernel_rfl) rfl #[.pointer (some ⟨g, 0, none⟩), .string (⟨#[64]⟩ : ByteArray)] rfl (by (try simp only [List.map_toArray, List.map_cons, List.map_nil]); first | done | rfl) ?_; (with_reducible refine (spec_eat.calls g t116 t117 t118 t119 s0_4 s0_5 t120 (⟨#[64]⟩ : ByteArray) true t134 t135 t136 t137 t138 w0 _ ?side1 ?side2 A22.out).mono ?_); (case side1 => repeat (first | (with_reducible first | exact HI0.out | apply IsS72.alloc | apply IsS72.drewN | apply IsS72.drew | apply IsS72.set_0 | apply IsS72.set_1 | apply IsS72.set_2 | apply IsS72.set_3 | apply IsS72.set_6) | exact HI0.out)); (case side2 => repeat (first | (with_reducible first | exact HB.out | apply below_alloc | apply pw_below_drewN | apply below_drew1 | refine below_set ?_ (IsS72.ge HI0.out)) | exact HB.out)); rintro e w29 ⟨rfl, hi, hb, hk⟩; refine ⟨_, rfl, ?_⟩; replace HK := Aside0.mk (KeepBut.trans (by repeat first | (with_reducible first | exact HK.out | apply KeepBut.set_ | apply keep_drewN | apply keep_drew | apply keep_alloc) | exact HK.out) hk (.inl rfl)); replace HB := Aside0.mk (hb); replace HI0 := Aside0.mk (hi); (try clear hb); (try clear hk); (try clear hi)) | ((with_reducible refine gate_callee (f := 99) rfl ?_); refine goesL_ (some 33) rfl rfl Try.func99 (by kernel_rfl) rfl #[.pointer (some ⟨g, 0, none⟩)] rfl (by (try simp only [List.map_toArray, List.map_cons, List.map_nil]); first | done | rfl) ?_; (with_reducible refine (spec_nameAt.calls k g t134 t135 t136 t137 s0_4 s0_5 t138 t139 t140 t141 t142 t143 true w0 _ ?side1 ?side2 A24.out).mono ?_); (case side1 => repeat (first | (with_reducible first | exact HI0.out | apply IsS72.alloc | apply IsS72.drewN | apply IsS72.drew | apply IsS72.set_0 | apply IsS72.set_1 | apply IsS72.set_2 | apply IsS72.set_3 | apply IsS72.set_6) | exact HI0.out)); (case side2 => repeat (first | (with_reducible first | exact HB.out | apply below_alloc | apply pw_below_drewN | apply below_drew1 | refine below_set ?_ (IsS72.ge HI0.out)) | exact HB.out)); rintro e w30 ⟨rfl, hi, hb, hk⟩; refine ⟨_, rfl, ?_⟩; replace HK := Aside0.mk (KeepBut.trans (by repeat first | (with_reducible first | exact HK.out | apply KeepBut.set_ | apply keep_drewN | apply keep_drew | apply keep_alloc) | exact HK.out) hk (.inl rfl)); replace HB := Aside0.mk (hb); replace HI0 := Aside0.mk (hi); (try clear hb); (try clear hk); (try clear hi); obtain ⟨ASz31_4, cSz31_4, ASz31_5, cSz31_5, HGz31, hgz31, HSz31_4, HSz31_5⟩ := HI0.out; have hcz31_0 := cellS72_0 HGz31; have hcz31_1 := cellS72_1 HGz31; have hcz31_2 := cellS72_2 HGz31; have hcz31_3 := cellS72_3 HGz31; have hcz31_4 := cellS72_4 HGz31; have hcz31_5 := cellS72_5 HGz31; have hcz31_6 := cellS72_6 HGz31; have hfz31_0 := blk_frozen HGz31 0; have hfz31_1 := blk_frozen HGz31 1; have hfz31_2 := blk_frozen HGz31 2; have hfz31_3 := blk_frozen HGz31 3; have hfz31_6 := blk_frozen HGz31 6; clear HGz31 hgz31) | (go_at_call 70; (with_reducible refine (spec_validName.calls k t139 t145 _ A26.out).mono ?_); rintro e w' ⟨rfl, ⟨nd, rfl⟩⟩))
     go_ret
     exact ⟨by first | rfl | (simp [errW_none, errW_some] <;> rfl) | (simp [*, errW_none, errW_some] <;> rfl), by repeat (first | (with_reducible first | exact HI0.out | apply IsS72.alloc | apply IsS72.drewN | apply IsS72.drew | apply IsS72.set_0 | apply IsS72.set_1 | apply IsS72.set_2 | apply IsS72.set_3 | apply IsS72.set_6) | exact HI0.out), by repeat (first | (with_reducible first | exact HB.out | apply below_alloc | apply pw_below_drewN | apply below_drew1 | refine below_set ?_ (IsS72.ge HI0.out)) | exact HB.out), by repeat (first | (with_reducible first | exact HK.out | apply KeepBut.set_ | apply keep_drewN | apply keep_drew | apply keep_alloc) | exact HK.out)⟩
    ·replace c25 := Bool.eq_false_iff.mpr c25
     subst c25
     have H1 : (some ((t142.toList == t139.toList), t140, t141, t142, t143, false)) = some (r1, r2, r3, r4, r5, r6) := by rw [if_neg (show ¬ (false = true) by decide)] at H; exact H
     clear H; have H := H1; clear H1
     simp only [Option.some.injEq, Prod.mk.injEq] at H
     obtain ⟨rfl, rfl, rfl, rfl, rfl, rfl⟩ := H
     go_enter Try.func95, Try.ntmps95
     go_wp2_with (first | ((with_reducible refine gate_callee (f := 84) rfl ?_); refine goesL_ (some 8) rfl rfl Try.func84 (by kernel_rfl) rfl #[.pointer (some ⟨g, 0, none⟩), .string (⟨#[110, 111, 116, 32]⟩ : ByteArray)] rfl (by (try simp only [List.map_toArray, List.map_cons, List.map_nil]); first | done | rfl) ?_; (with_reducible refine (spec_eat.calls g s0_0 s0_1 s0_2 s0_3 s0_4 s0_5 s0_6 (⟨#[110, 111, 116, 32]⟩ : ByteArray) false t104 t105 t106 t107 t108 w0 _ ?side1 ?side2 A2.out).mono ?_); (case side1 => repeat (first | (with_reducible first | exact HI0.out | apply IsS72.alloc | apply IsS72.drewN | apply IsS72.drew | apply IsS72.set_0 | apply IsS72.set_1 | apply IsS72.set_2 | apply IsS72.set_3 | apply IsS72.set_6) | exact HI0.out)); (case side2 => repeat (first | (with_reducible first | exact HB.out | apply below_alloc | apply pw_below_drewN | apply below_drew1 | refine below_set ?_ (IsS72.ge HI0.out)) | exact HB.out)); rintro e w32 ⟨rfl, hi, hb, hk⟩; refine ⟨_, rfl, ?_⟩; replace HK := Aside0.mk (KeepBut.trans (by repeat first | (with_reducible first | exact HK.out | apply KeepBut.set_ | apply keep_drewN | apply keep_drew | apply keep_alloc) | exact HK.out) hk (.inl rfl)); replace HB := Aside0.mk (hb); replace HI0 := Aside0.mk (hi); (try clear hb); (try clear hk); (try clear hi)) | ((with_reducible refine gate_callee (f := 84) rfl ?_); refine goesL_ (some 14) rfl rfl Try.func84 (by kernel_rfl) rfl #[.pointer (some ⟨g, 0, none⟩), .string (⟨#[40]⟩ : ByteArray)] rfl (by (try simp only [List.map_toArray, List.map_cons, List.map_nil]); first | done | rfl) ?_; (with_reducible refine (spec_eat.calls g t104 t105 t106 t107 s0_4 s0_5 t108 (⟨#[40]⟩ : ByteArray) false t116 t117 t118 t119 t120 w0 _ ?side1 ?side2 A7.out).mono ?_); (case side1 => repeat (first | (with_reducible first | exact HI0.out | apply IsS72.alloc | apply IsS72.drewN | apply IsS72.drew | apply IsS72.set_0 | apply IsS72.set_1 | apply IsS72.set_2 | apply IsS72.set_3 | apply IsS72.set_6) | exact HI0.out)); (case side2 => repeat (first | (with_reducible first | exact HB.out | apply below_alloc | apply pw_below_drewN | apply below_drew1 | refine below_set ?_ (IsS72.ge HI0.out)) | exact HB.out)); rintro e w33 ⟨rfl, hi, hb, hk⟩; refine ⟨_, rfl, ?_⟩; replace HK := Aside0.mk (KeepBut.trans (by repeat first | (with_reducible first | exact HK.out | apply KeepBut.set_ | apply keep_drewN | apply keep_drew | apply keep_alloc) | exact HK.out) hk (.inl rfl)); replace HB := Aside0.mk (hb); replace HI0 := Aside0.mk (hi); (try clear hb); (try clear hk); (try clear hi)) | ((with_reducible refine gate_callee (f := 84) rfl ?_); refine goesL_ (some 31) rfl rfl Try.func84 (by kernel_rfl) rfl #[.pointer (some ⟨g, 0, none⟩), .string (⟨#[64]⟩ : ByteArray)] rfl (by (try simp only [List.map_toArray, List.map_cons, List.map_nil]); first | done | rfl) ?_; (with_reducible refine (spec_eat.calls g t116 t117 t118 t119 s0_4 s0_5 t120 (⟨#[64]⟩ : ByteArray) true t134 t135 t136 t137 t138 w0 _ ?side1 ?side2 A22.out).mono ?_); (case side1 => repeat (first | (with_reducible first | exact HI0.out | apply IsS72.alloc | apply IsS72.drewN | apply IsS72.drew | apply IsS72.set_0 | apply IsS72.set_1 | apply IsS72.set_2 | apply IsS72.set_3 | apply IsS72.set_6) | exact HI0.out)); (case side2 => repeat (first | (with_reducible first | exact HB.out | apply below_alloc | apply pw_below_drewN | apply below_drew1 | refine below_set ?_ (IsS72.ge HI0.out)) | exact HB.out)); rintro e w34 ⟨rfl, hi, hb, hk⟩; refine ⟨_, rfl, ?_⟩; replace HK := Aside0.mk (KeepBut.trans (by repeat first | (with_reducible first | exact HK.out | apply KeepBut.set_ | apply keep_drewN | apply keep_drew | apply keep_alloc) | exact HK.out) hk (.inl rfl)); replace HB := Aside0.mk (hb); replace HI0 := Aside0.mk (hi); (try clear hb); (try clear hk); (try clear hi)) | ((with_reducible refine gate_callee (f := 99) rfl ?_); refine goesL_ (some 33) rfl rfl Try.func99 (by kernel_rfl) rfl #[.pointer (some ⟨g, 0, none⟩)] rfl (by (try simp only [List.map_toArray, List.map_cons, List.map_nil]); first | done | rfl) ?_; (with_reducible refine (spec_nameAt.calls k g t134 t135 t136 t137 s0_4 s0_5 t138 t139 t140 t141 t142 t143 false w0 _ ?side1 ?side2 A24.out).mono ?_); (case side1 => repeat (first | (with_reducible first | exact HI0.out | apply IsS72.alloc | apply IsS72.drewN | apply IsS72.drew | apply IsS72.set_0 | apply IsS72.set_1 | apply IsS72.set_2 | apply IsS72.set_3 | apply IsS72.set_6) | exact HI0.out)); (case side2 => repeat (first | (with_reducible first | exact HB.out | apply below_alloc | apply pw_below_drewN | apply below_drew1 | refine below_set ?_ (IsS72.ge HI0.out)) | exact HB.out)); rintro e w35 ⟨rfl, hi, hb, hk⟩; refine ⟨_, rfl, ?_⟩; replace HK := Aside0.mk (KeepBut.trans (by repeat first | (with_reducible first | exact HK.out | apply KeepBut.set_ | apply keep_drewN | apply keep_drew | apply keep_alloc) | exact HK.out) hk (.inl rfl)); replace HB := Aside0.mk (hb); replace HI0 := Aside0.mk (hi); (try clear hb); (try clear hk); (try clear hi); obtain ⟨ASz36_4, cSz36_4, ASz36_5, cSz36_5, HGz36, hgz36, HSz36_4, HSz36_5⟩ := HI0.out; have hcz36_0 := cellS72_0 HGz36; have hcz36_1 := cellS72_1 HGz36; have hcz36_2 := cellS72_2 HGz36; have hcz36_3 := cellS72_3 HGz36; have hcz36_4 := cellS72_4 HGz36; have hcz36_5 := cellS72_5 HGz36; have hcz36_6 := cellS72_6 HGz36; have hfz36_0 := blk_frozen HGz36 0; have hfz36_1 := blk_frozen HGz36 1; have hfz36_2 := blk_frozen HGz36 2; have hfz36_3 := blk_frozen HGz36 3; have hfz36_6 := blk_frozen HGz36 6; clear HGz36 hgz36))
     go_ret
     exact ⟨by first | rfl | (simp [errW_none, errW_some] <;> rfl) | (simp [*, errW_none, errW_some] <;> rfl), by repeat (first | (with_reducible first | exact HI0.out | apply IsS72.alloc | apply IsS72.drewN | apply IsS72.drew | apply IsS72.set_0 | apply IsS72.set_1 | apply IsS72.set_2 | apply IsS72.set_3 | apply IsS72.set_6) | exact HI0.out), by repeat (first | (with_reducible first | exact HB.out | apply below_alloc | apply pw_below_drewN | apply below_drew1 | refine below_set ?_ (IsS72.ge HI0.out)) | exact HB.out), by repeat (first | (with_reducible first | exact HK.out | apply KeepBut.set_ | apply keep_drewN | apply keep_drew | apply keep_alloc) | exact HK.out)⟩
   ·replace c23 := Bool.eq_false_iff.mpr c23
    subst c23
    have H1 : ((spec_nameAt.f k t134 t135 t136 t137 s0_4 s0_5 t138).bind fun bt146 => (if bt146.2.2.2.2.2 = true then ((spec_validName.f k bt146.1).bind fun t152 => ((spec_hasText.f k s0_4 bt146.1).bind fun t153 => (some (t153, bt146.2.1, bt146.2.2.1, bt146.2.2.2.1, bt146.2.2.2.2.1, t152)))) else ((spec_hasText.f k s0_4 bt146.1).bind fun t154 => (some (t154, bt146.2.1, bt146.2.2.1, bt146.2.2.2.1, bt146.2.2.2.2.1, false))))) = some (r1, r2, r3, r4, r5, r6) := by rw [if_neg (show ¬ (false = true) by decide)] at H; exact H
    clear H; have H := H1; clear H1
    replace H := Option.bind_eq_some_iff.mp H
    obtain ⟨⟨t146, t147, t148, t149, t150, t151⟩, A370, H⟩ := H
    replace H : (if t151 = true then ((spec_validName.f k t146).bind fun t152 => ((spec_hasText.f k s0_4 t146).bind fun t153 => (some (t153, t147, t148, t149, t150, t152)))) else ((spec_hasText.f k s0_4 t146).bind fun t154 => (some (t154, t147, t148, t149, t150, false)))) = some (r1, r2, r3, r4, r5, r6) := H
    have A37 := Aside0.mk A370; clear A370
    by_cases c38 : t151 = true
    ·subst c38
     have H1 : ((spec_validName.f k t146).bind fun t152 => ((spec_hasText.f k s0_4 t146).bind fun t153 => (some (t153, t147, t148, t149, t150, t152)))) = some (r1, r2, r3, r4, r5, r6) := by rw [if_pos rfl] at H; exact H
     clear H; have H := H1; clear H1
     replace H := Option.bind_eq_some_iff.mp H
     obtain ⟨t152, A390, H⟩ := H
     replace H : ((spec_hasText.f k s0_4 t146).bind fun t153 => (some (t153, t147, t148, t149, t150, t152))) = some (r1, r2, r3, r4, r5, r6) := H
     have A39 := Aside0.mk A390; clear A390
     replace H := Option.bind_eq_some_iff.mp H
     obtain ⟨t153, A400, H⟩ := H
     replace H : (some (t153, t147, t148, t149, t150, t152)) = some (r1, r2, r3, r4, r5, r6) := H
     have A40 := Aside0.mk A400; clear A400
     simp only [Option.some.injEq, Prod.mk.injEq] at H
     obtain ⟨rfl, rfl, rfl, rfl, rfl, rfl⟩ := H
     go_enter Try.func95, Try.ntmps95
     go_wp2_with (first | ((with_reducible refine gate_callee (f := 84) rfl ?_); refine goesL_ (some 8) rfl rfl Try.func84 (by kernel_rfl) rfl #[.pointer (some ⟨g, 0, none⟩), .string (⟨#[110, 111, 116, 32]⟩ : ByteArray)] rfl (by (try simp only [List.map_toArray, List.map_cons, List.map_nil]); first | done | rfl) ?_; (with_reducible refine (spec_eat.calls g s0_0 s0_1 s0_2 s0_3 s0_4 s0_5 s0_6 (⟨#[110, 111, 116, 32]⟩ : ByteArray) false t104 t105 t106 t107 t108 w0 _ ?side1 ?side2 A2.out).mono ?_); (case side1 => repeat (first | (with_reducible first | exact HI0.out | apply IsS72.alloc | apply IsS72.drewN | apply IsS72.drew | apply IsS72.set_0 | apply IsS72.set_1 | apply IsS72.set_2 | apply IsS72.set_3 | apply IsS72.set_6) | exact HI0.out)); (case side2 => repeat (first | (with_reducible first | exact HB.out | apply below_alloc | apply pw_below_drewN | apply below_drew1 | refine below_set ?_ (IsS72.ge HI0.out)) | exact HB.out)); rintro e w41 ⟨rfl, hi, hb, hk⟩; refine ⟨_, rfl, ?_⟩; replace HK := Aside0.mk (KeepBut.trans (by repeat first | (with_reducible first | exact HK.out | apply KeepBut.set_ | apply keep_drewN | apply keep_drew | apply keep_alloc) | exact HK.out) hk (.inl rfl)); replace HB := Aside0.mk (hb); replace HI0 := Aside0.mk (hi); (try clear hb); (try clear hk); (try clear hi)) | ((with_reducible refine gate_callee (f := 84) rfl ?_); refine goesL_ (some 14) rfl rfl Try.func84 (by kernel_rfl) rfl #[.pointer (some ⟨g, 0, none⟩), .string (⟨#[40]⟩ : ByteArray)] rfl (by (try simp only [List.map_toArray, List.map_cons, List.map_nil]); first | done | rfl) ?_; (with_reducible refine (spec_eat.calls g t104 t105 t106 t107 s0_4 s0_5 t108 (⟨#[40]⟩ : ByteArray) false t116 t117 t118 t119 t120 w0 _ ?side1 ?side2 A7.out).mono ?_); (case side1 => repeat (first | (with_reducible first | exact HI0.out | apply IsS72.alloc | apply IsS72.drewN | apply IsS72.drew | apply IsS72.set_0 | apply IsS72.set_1 | apply IsS72.set_2 | apply IsS72.set_3 | apply IsS72.set_6) | exact HI0.out)); (case side2 => repeat (first | (with_reducible first | exact HB.out | apply below_alloc | apply pw_below_drewN | apply below_drew1 | refine below_set ?_ (IsS72.ge HI0.out)) | exact HB.out)); rintro e w42 ⟨rfl, hi, hb, hk⟩; refine ⟨_, rfl, ?_⟩; replace HK := Aside0.mk (KeepBut.trans (by repeat first | (with_reducible first | exact HK.out | apply KeepBut.set_ | apply keep_drewN | apply keep_drew | apply keep_alloc) | exact HK.out) hk (.inl rfl)); replace HB := Aside0.mk (hb); replace HI0 := Aside0.mk (hi); (try clear hb); (try clear hk); (try clear hi)) | ((with_reducible refine gate_callee (f := 84) rfl ?_); refine goesL_ (some 31) rfl rfl Try.func84 (by kernel_rfl) rfl #[.pointer (some ⟨g, 0, none⟩), .string (⟨#[64]⟩ : ByteArray)] rfl (by (try simp only [List.map_toArray, List.map_cons, List.map_nil]); first | done | rfl) ?_; (with_reducible refine (spec_eat.calls g t116 t117 t118 t119 s0_4 s0_5 t120 (⟨#[64]⟩ : ByteArray) false t134 t135 t136 t137 t138 w0 _ ?side1 ?side2 A22.out).mono ?_); (case side1 => repeat (first | (with_reducible first | exact HI0.out | apply IsS72.alloc | apply IsS72.drewN | apply IsS72.drew | apply IsS72.set_0 | apply IsS72.set_1 | apply IsS72.set_2 | apply IsS72.set_3 | apply IsS72.set_6) | exact HI0.out)); (case side2 => repeat (first | (with_reducible first | exact HB.out | apply below_alloc | apply pw_below_drewN | apply below_drew1 | refine below_set ?_ (IsS72.ge HI0.out)) | exact HB.out)); rintro e w43 ⟨rfl, hi, hb, hk⟩; refine ⟨_, rfl, ?_⟩; replace HK := Aside0.mk (KeepBut.trans (by repeat first | (with_reducible first | exact HK.out | apply KeepBut.set_ | apply keep_drewN | apply keep_drew | apply keep_alloc) | exact HK.out) hk (.inl rfl)); replace HB := Aside0.mk (hb); replace HI0 := Aside0.mk (hi); (try clear hb); (try clear hk); (try clear hi)) | ((with_reducible refine gate_callee (f := 99) rfl ?_); refine goesL_ (some 53) rfl rfl Try.func99 (by kernel_rfl) rfl #[.pointer (some ⟨g, 0, none⟩)] rfl (by (try simp only [List.map_toArray, List.map_cons, List.map_nil]); first | done | rfl) ?_; (with_reducible refine (spec_nameAt.calls k g t134 t135 t136 t137 s0_4 s0_5 t138 t146 t147 t148 t149 t150 true w0 _ ?side1 ?side2 A37.out).mono ?_); (case side1 => repeat (first | (with_reducible first | exact HI0.out | apply IsS72.alloc | apply IsS72.drewN | apply IsS72.drew | apply IsS72.set_0 | apply IsS72.set_1 | apply IsS72.set_2 | apply IsS72.set_3 | apply IsS72.set_6) | exact HI0.out)); (case side2 => repeat (first | (with_reducible first | exact HB.out | apply below_alloc | apply pw_below_drewN | apply below_drew1 | refine below_set ?_ (IsS72.ge HI0.out)) | exact HB.out)); rintro e w44 ⟨rfl, hi, hb, hk⟩; refine ⟨_, rfl, ?_⟩; replace HK := Aside0.mk (KeepBut.trans (by repeat first | (with_reducible first | exact HK.out | apply KeepBut.set_ | apply keep_drewN | apply keep_drew | apply keep_alloc) | exact HK.out) hk (.inl rfl)); replace HB := Aside0.mk (hb); replace HI0 := Aside0.mk (hi); (try clear hb); (try clear hk); (try clear hi); obtain ⟨ASz45_4, cSz45_4, ASz45_5, cSz45_5, HGz45, hgz45, HSz45_4, HSz45_5⟩ := HI0.out; have hcz45_0 := cellS72_0 HGz45; have hcz45_1 := cellS72_1 HGz45; have hcz45_2 := cellS72_2 HGz45; have hcz45_3 := cellS72_3 HGz45; have hcz45_4 := cellS72_4 HGz45; have hcz45_5 := cellS72_5 HGz45; have hcz45_6 := cellS72_6 HGz45; have hfz45_0 := blk_frozen HGz45 0; have hfz45_1 := blk_frozen HGz45 1; have hfz45_2 := blk_frozen HGz45 2; have hfz45_3 := blk_frozen HGz45 3; have hfz45_6 := blk_frozen HGz45 6; clear HGz45 hgz45) | (go_at_call 70; (with_reducible refine (spec_validName.calls k t146 t152 _ A39.out).mono ?_); rintro e w' ⟨rfl, ⟨nd, rfl⟩⟩) | ((with_reducible refine gate_callee (f := 67) rfl ?_); refine goesL_ (some 71) rfl rfl Try.func67 (by kernel_rfl) rfl #[.slice ASz45_4 s0_4.length cSz45_4, .string t146] rfl (by (try simp only [List.map_toArray, List.map_cons, List.map_nil]); first | done | rfl) ?_; (with_reducible refine (spec_hasText.callsX k _ _ s0_4 t146 t153 _ ?side1 A40.out).mono ?_); (case side1 => refine Kd.C_below HSz45_4 ?_; repeat (first | (with_reducible first | exact HB.out | apply below_alloc | apply pw_below_drewN | apply below_drew1 | refine below_set ?_ (IsS72.ge HI0.out)) | exact HB.out)); rintro e w' ⟨rfl, ⟨nd, rfl⟩⟩; refine ⟨_, rfl, ?_⟩))
     go_ret
     exact ⟨by first | rfl | (simp [errW_none, errW_some] <;> rfl) | (simp [*, errW_none, errW_some] <;> rfl), by repeat (first | (with_reducible first | exact HI0.out | apply IsS72.alloc | apply IsS72.drewN | apply IsS72.drew | apply IsS72.set_0 | apply IsS72.set_1 | apply IsS72.set_2 | apply IsS72.set_3 | apply IsS72.set_6) | exact HI0.out), by repeat (first | (with_reducible first | exact HB.out | apply below_alloc | apply pw_below_drewN | apply below_drew1 | refine below_set ?_ (IsS72.ge HI0.out)) | exact HB.out), by repeat (first | (with_reducible first | exact HK.out | apply KeepBut.set_ | apply keep_drewN | apply keep_drew | apply keep_alloc) | exact HK.out)⟩
    ·replace c38 := Bool.eq_false_iff.mpr c38
     subst c38
     have H1 : ((spec_hasText.f k s0_4 t146).bind fun t154 => (some (t154, t147, t148, t149, t150, false))) = some (r1, r2, r3, r4, r5, r6) := by rw [if_neg (show ¬ (false = true) by decide)] at H; exact H
     clear H; have H := H1; clear H1
     replace H := Option.bind_eq_some_iff.mp H
     obtain ⟨t154, A460, H⟩ := H
     replace H : (some (t154, t147, t148, t149, t150, false)) = some (r1, r2, r3, r4, r5, r6) := H
     have A46 := Aside0.mk A460; clear A460
     simp only [Option.some.injEq, Prod.mk.injEq] at H
     obtain ⟨rfl, rfl, rfl, rfl, rfl, rfl⟩ := H
     go_enter Try.func95, Try.ntmps95
     go_wp2_with (first | ((with_reducible refine gate_callee (f := 84) rfl ?_); refine goesL_ (some 8) rfl rfl Try.func84 (by kernel_rfl) rfl #[.pointer (some ⟨g, 0, none⟩), .string (⟨#[110, 111, 116, 32]⟩ : ByteArray)] rfl (by (try simp only [List.map_toArray, List.map_cons, List.map_nil]); first | done | rfl) ?_; (with_reducible refine (spec_eat.calls g s0_0 s0_1 s0_2 s0_3 s0_4 s0_5 s0_6 (⟨#[110, 111, 116, 32]⟩ : ByteArray) false t104 t105 t106 t107 t108 w0 _ ?side1 ?side2 A2.out).mono ?_); (case side1 => repeat (first | (with_reducible first | exact HI0.out | apply IsS72.alloc | apply IsS72.drewN | apply IsS72.drew | apply IsS72.set_0 | apply IsS72.set_1 | apply IsS72.set_2 | apply IsS72.set_3 | apply IsS72.set_6) | exact HI0.out)); (case side2 => repeat (first | (with_reducible first | exact HB.out | apply below_alloc | apply pw_below_drewN | apply below_drew1 | refine below_set ?_ (IsS72.ge HI0.out)) | exact HB.out)); rintro e w47 ⟨rfl, hi, hb, hk⟩; refine ⟨_, rfl, ?_⟩; replace HK := Aside0.mk (KeepBut.trans (by repeat first | (with_reducible first | exact HK.out | apply KeepBut.set_ | apply keep_drewN | apply keep_drew | apply keep_alloc) | exact HK.out) hk (.inl rfl)); replace HB := Aside0.mk (hb); replace HI0 := Aside0.mk (hi); (try clear hb); (try clear hk); (try clear hi)) | ((with_reducible refine gate_callee (f := 84) rfl ?_); refine goesL_ (some 14) rfl rfl Try.func84 (by kernel_rfl) rfl #[.pointer (some ⟨g, 0, none⟩), .string (⟨#[40]⟩ : ByteArray)] rfl (by (try simp only [List.map_toArray, List.map_cons, List.map_nil]); first | done | rfl) ?_; (with_reducible refine (spec_eat.calls g t104 t105 t106 t107 s0_4 s0_5 t108 (⟨#[40]⟩ : ByteArray) false t116 t117 t118 t119 t120 w0 _ ?side1 ?side2 A7.out).mono ?_); (case side1 => repeat (first | (with_reducible first | exact HI0.out | apply IsS72.alloc | apply IsS72.drewN | apply IsS72.drew | apply IsS72.set_0 | apply IsS72.set_1 | apply IsS72.set_2 | apply IsS72.set_3 | apply IsS72.set_6) | exact HI0.out)); (case side2 => repeat (first | (with_reducible first | exact HB.out | apply below_alloc | apply pw_below_drewN | apply below_drew1 | refine below_set ?_ (IsS72.ge HI0.out)) | exact HB.out)); rintro e w48 ⟨rfl, hi, hb, hk⟩; refine ⟨_, rfl, ?_⟩; replace HK := Aside0.mk (KeepBut.trans (by repeat first | (with_reducible first | exact HK.out | apply KeepBut.set_ | apply keep_drewN | apply keep_drew | apply keep_alloc) | exact HK.out) hk (.inl rfl)); replace HB := Aside0.mk (hb); replace HI0 := Aside0.mk (hi); (try clear hb); (try clear hk); (try clear hi)) | ((with_reducible refine gate_callee (f := 84) rfl ?_); refine goesL_ (some 31) rfl rfl Try.func84 (by kernel_rfl) rfl #[.pointer (some ⟨g, 0, none⟩), .string (⟨#[64]⟩ : ByteArray)] rfl (by (try simp only [List.map_toArray, List.map_cons, List.map_nil]); first | done | rfl) ?_; (with_reducible refine (spec_eat.calls g t116 t117 t118 t119 s0_4 s0_5 t120 (⟨#[64]⟩ : ByteArray) false t134 t135 t136 t137 t138 w0 _ ?side1 ?side2 A22.out).mono ?_); (case side1 => repeat (first | (with_reducible first | exact HI0.out | apply IsS72.alloc | apply IsS72.drewN | apply IsS72.drew | apply IsS72.set_0 | apply IsS72.set_1 | apply IsS72.set_2 | apply IsS72.set_3 | apply IsS72.set_6) | exact HI0.out)); (case side2 => repeat (first | (with_reducible first | exact HB.out | apply below_alloc | apply pw_below_drewN | apply below_drew1 | refine below_set ?_ (IsS72.ge HI0.out)) | exact HB.out)); rintro e w49 ⟨rfl, hi, hb, hk⟩; refine ⟨_, rfl, ?_⟩; replace HK := Aside0.mk (KeepBut.trans (by repeat first | (with_reducible first | exact HK.out | apply KeepBut.set_ | apply keep_drewN | apply keep_drew | apply keep_alloc) | exact HK.out) hk (.inl rfl)); replace HB := Aside0.mk (hb); replace HI0 := Aside0.mk (hi); (try clear hb); (try clear hk); (try clear hi)) | ((with_reducible refine gate_callee (f := 99) rfl ?_); refine goesL_ (some 53) rfl rfl Try.func99 (by kernel_rfl) rfl #[.pointer (some ⟨g, 0, none⟩)] rfl (by (try simp only [List.map_toArray, List.map_cons, List.map_nil]); first | done | rfl) ?_; (with_reducible refine (spec_nameAt.calls k g t134 t135 t136 t137 s0_4 s0_5 t138 t146 t147 t148 t149 t150 false w0 _ ?side1 ?side2 A37.out).mono ?_); (case side1 => repeat (first | (with_reducible first | exact HI0.out | apply IsS72.alloc | apply IsS72.drewN | apply IsS72.drew | apply IsS72.set_0 | apply IsS72.set_1 | apply IsS72.set_2 | apply IsS72.set_3 | apply IsS72.set_6) | exact HI0.out)); (case side2 => repeat (first | (with_reducible first | exact HB.out | apply below_alloc | apply pw_below_drewN | apply below_drew1 | refine below_set ?_ (IsS72.ge HI0.out)) | exact HB.out)); rintro e w50 ⟨rfl, hi, hb, hk⟩; refine ⟨_, rfl, ?_⟩; replace HK := Aside0.mk (KeepBut.trans (by repeat first | (with_reducible first | exact HK.out | apply KeepBut.set_ | apply keep_drewN | apply keep_drew | apply keep_alloc) | exact HK.out) hk (.inl rfl)); replace HB := Aside0.mk (hb); replace HI0 := Aside0.mk (hi); (try clear hb); (try clear hk); (try clear hi); obtain ⟨ASz51_4, cSz51_4, ASz51_5, cSz51_5, HGz51, hgz51, HSz51_4, HSz51_5⟩ := HI0.out; have hcz51_0 := cellS72_0 HGz51; have hcz51_1 := cellS72_1 HGz51; have hcz51_2 := cellS72_2 HGz51; have hcz51_3 := cellS72_3 HGz51; have hcz51_4 := cellS72_4 HGz51; have hcz51_5 := cellS72_5 HGz51; have hcz51_6 := cellS72_6 HGz51; have hfz51_0 := blk_frozen HGz51 0; have hfz51_1 := blk_frozen HGz51 1; have hfz51_2 := blk_frozen HGz51 2; have hfz51_3 := blk_frozen HGz51 3; have hfz51_6 := blk_frozen HGz51 6; clear HGz51 hgz51) | ((with_reducible refine gate_callee (f := 67) rfl ?_); refine goesL_ (some 71) rfl rfl Try.func67 (by kernel_rfl) rfl #[.slice ASz51_4 s0_4.length cSz51_4, .string t146] rfl (by (try simp only [List.map_toArray, List.map_cons, List.map_nil]); first | done | rfl) ?_; (with_reducible refine (spec_hasText.callsX k _ _ s0_4 t146 t154 _ ?side1 A46.out).mono ?_); (case side1 => refine Kd.C_below HSz51_4 ?_; repeat (first | (with_reducible first | exact HB.out | apply below_alloc | apply pw_below_drewN | apply below_drew1 | refine below_set ?_ (IsS72.ge HI0.out)) | exact HB.out)); rintro e w' ⟨rfl, ⟨nd, rfl⟩⟩; refine ⟨_, rfl, ?_⟩))
     go_ret
     exact ⟨by first | rfl | (simp [errW_none, errW_some] <;> rfl) | (simp [*, errW_none, errW_some] <;> rfl), by repeat (first | (with_reducible first | exact HI0.out | apply IsS72.alloc | apply IsS72.drewN | apply IsS72.drew | apply IsS72.set_0 | apply IsS72.set_1 | apply IsS72.set_2 | apply IsS72.set_3 | apply IsS72.set_6) | exact HI0.out), by repeat (first | (with_reducible first | exact HB.out | apply below_alloc | apply pw_below_drewN | apply below_drew1 | refine below_set ?_ (IsS72.ge HI0.out)) | exact HB.out), by repeat (first | (with_reducible first | exact HK.out | apply KeepBut.set_ | apply keep_drewN | apply keep_drew | apply keep_alloc) | exact HK.out)⟩
theorem facOk (k : Nat) : FacOk (spec_factor.f k) := fun g s0_0 s0_1 s0_2 s0_3 s0_4 s0_5 s0_6 r1 r2 r3 r4 r5 r6 w0 w => spec_factor.calls k g s0_0 s0_1 s0_2 s0_3 s0_4 s0_5 s0_6 r1 r2 r3 r4 r5 r6 w0 w
def spec_expr.f (k : Nat) : StF := spec_expr0.f (spec_factor.f k) k
theorem spec_expr.mono : ∀ a0 a1 a2 a3 a4 a5 a6 k, LeO (spec_expr.f k a0 a1 a2 a3 a4 a5 a6) (spec_expr.f (k + 1) a0 a1 a2 a3 a4 a5 a6) := fun a0 a1 a2 a3 a4 a5 a6 k => spec_expr0.mono2 (spec_factor.mono_l k) a0 a1 a2 a3 a4 a5 a6 k
theorem spec_expr.calls (k : Nat) (g : Nat) (s0_0 : ByteArray) (s0_1 : Int) (s0_2 : ByteArray) (s0_3 : ByteArray) (s0_4 : List ByteArray) (s0_5 : List ByteArray) (s0_6 : Bool) (r1 : Bool) (r2 : ByteArray) (r3 : Int) (r4 : ByteArray) (r5 : ByteArray) (r6 : Bool) (w0 w : World) (hI : IsS72 w0 w g s0_0 s0_1 s0_2 s0_3 s0_4 s0_5 s0_6) (hB : Below w0.heap.size w0 w) (h : spec_expr.f k s0_0 s0_1 s0_2 s0_3 s0_4 s0_5 s0_6 = some (r1, r2, r3, r4, r5, r6)) :
  Calls Try.prog 68 #[.pointer (some ⟨g, 0, none⟩)] w fun e w' => e = .returned (.bool r1) ∧ IsS72 w0 w' g r2 r3 r4 r5 s0_4 s0_5 r6 ∧ Below w0.heap.size w0 w' ∧ KeepBut w w' g none := spec_expr0.calls2 (spec_factor.f k) ⟨facOk k⟩ k g s0_0 s0_1 s0_2 s0_3 s0_4 s0_5 s0_6 r1 r2 r3 r4 r5 r6 w0 w hI hB h

end Go.Proofs.Ytdllommmccgleaa.A
